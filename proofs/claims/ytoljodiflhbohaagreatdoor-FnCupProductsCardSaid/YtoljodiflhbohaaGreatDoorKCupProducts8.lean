/- What the proof of the law CupProducts stands on, part 8: words, each Go function's Lean function, and that the Go code comes to its answers; no condition. (Packed by wip/myprint/pack.py out of what the kit's printer wrote, its words among it, partly by our patches of it, and out of texts of this session.) -/
import Derived.Test.YtoljodiflhbohaaGreatDoorKCupProducts3
import Derived.Test.YtoljodiflhbohaaGreatDoorKCupProducts4
import Derived.Test.YtoljodiflhbohaaGreatDoorKCupProducts5
import Derived.Test.YtoljodiflhbohaaGreatDoorKCupProducts7
set_option linter.unusedVariables false
set_option linter.unusedSimpArgs false
set_option maxHeartbeats 8000000
set_option maxRecDepth 20000
namespace Go.Proofs.YtoljodiflhbohaaGreatDoor.V
open Go.RowKit Go.Proofs.YtoljodiflhbohaaGreatDoor.D Go.Proofs.YtoljodiflhbohaaGreatDoor.P
theorem bdZ {g:List (List Int)} {u v:List Int} {x:Int}:Bd g u v [x] 0=rd u x*At g v [] - At g v []:=by
 have e0:rd [x] 0=x:=rfl
 simp only[Bd,bsum,List.drop_succ_cons,List.drop_zero,List.take_zero,e0]
 omega
theorem bdT {g:List (List Int)} {u v:List Int} {x y z:Int}:Bd g u v [x,y,z] 2=rd u x*At g v [y,z] - At g v [T g x y,z]+At g v [x,T g y z] - At g v [x,y]:=by
 simp only[Bd,bsum,join2,List.take_zero,List.nil_append,List.drop_succ_cons,List.drop_zero,List.take_succ_cons]
 have e0:rd [x,y,z] 0=x:=rfl
 have e1:rd [x,y,z] ((0+1:Nat):Int)=y:=rfl
 have e2:rd [x,y,z] ((0:Nat):Int)=x:=rfl
 have e3:rd [x,y,z] ((1+1:Nat):Int)=z:=rfl
 have e4:rd [x,y,z] ((1:Nat):Int)=y:=rfl
 simp only[e0,e1,e2,e3,e4,List.append_nil,List.singleton_append,List.cons_append,List.nil_append]
 omega
theorem Zcz {xs ys:List Int} (h:ZbG xs) (hs:∀y∈ys,y∈xs):ZbG ys:=fun j j0 j1 e=>by
 have h1:=hs _ (ZcK j0 j1)
 rw[e]at h1
 obtain⟨i,hi,e'⟩:=List.mem_iff_getElem.1 h1
 exact h (i:Int) (by omega) (by omega) (by rw[ZbW hi,e'])
theorem ZkV {g:List (List Int)} {m:Int} {w:List Int} {p:Nat} {F H:List Int→Int} {xs:List Int}:cupF g m w p F H xs=(F (xs.take p)*rd w ((xs.take p).foldl (T g) 0)*H (xs.drop p))%m:=rfl
noncomputable def cupL (g:List (List Int)) (m:Int) (w f h:List Int) (p q:Nat):List Int:=tl g (p+q) (cupF g m w p (At g f) (At g h))
theorem Zbx {g:List (List Int)} (hg:Grp g) {m:Int} {w f h:List Int} {p q:Nat} (hpq:p+q≤4) {xs:List Int} (hx:AllIn g.length xs) (hl:xs.length=p+q):cg m (At g (cupL g m w f h p q) xs) (At g f (xs.take p)*rd w ((xs.take p).foldl (T g) 0)*At g h (xs.drop p)):=by
 unfold cupL
 rw[Zlj hg hpq hx hl]
 exact Zbz _ _
theorem leib00 {g:List (List Int)} (hg:Grp g) {m:Int} {ua:List Int} {ub:List Int} {uu:List Int} {f:List Int} {h:List Int} (hb:Mdl g m ub) (hu:∀x:Int,0≤x→x < g.length→rd uu x=rd ua x*rd ub x%m) {x:Int} (x0:0≤x) (x1:x < g.length) (hn:ZbG [x]):cg m (Bd g uu (cupL g m ub f h 0 0) [x] 0) (At g (cupL g m ub (bdL g m ua f 0) h 1 0) [x]+At g (cupL g m ub f (bdL g m ub h 0) 0 1) [x]):=by
 have hx:AllIn g.length [x]:=ZbR x0 x1
 have hx0:AllIn g.length ([]:List Int):=fun i i0 i1=>by simp at i1;omega
 have c0:=Zbx hg (m:=m) (w:=ub) (f:=f) (h:=h) (p:=0) (q:=0) (by omega) hx0 rfl
 have c1:=Zbx hg (m:=m) (w:=ub) (f:=bdL g m ua f 0) (h:=h) (p:=1) (q:=0) (by omega) hx rfl
 have c2:=Zbx hg (m:=m) (w:=ub) (f:=f) (h:=bdL g m ub h 0) (p:=0) (q:=1) (by omega) hx rfl
 have d1:=ZcS hg (m:=m) (u:=ua) (v:=f) (d:=0) (by omega) hx rfl hn
 have d2:=ZcS hg (m:=m) (u:=ub) (v:=h) (d:=0) (by omega) hx rfl hn
 simp only[List.take_zero,List.drop_zero,List.take_succ_cons,List.take_nil,List.drop_succ_cons,List.drop_nil,List.foldl_nil,List.foldl_cons,hg.one x x0 x1,hb.one hg,d1,d2,bdZ]at c0 c1 c2
 rw[bdZ,hu x x0 x1]
 refine(Zdo (Zbt (Zbz _ _) c0) c0).trans ((Zb6 ?_).trans (Zdc (c1.trans (Zbt (Zbt (Zbz _ _) (Zbo _ _)) (Zbo _ _))) (c2.trans (Zbt (Zbo _ _) (Zbz _ _)))).symm)
 grind
theorem leib01 {g:List (List Int)} (hg:Grp g) {m:Int} {ua:List Int} {ub:List Int} {uu:List Int} {f:List Int} {h:List Int} (hb:Mdl g m ub) (hu:∀x:Int,0≤x→x < g.length→rd uu x=rd ua x*rd ub x%m) {x y:Int} (x0:0≤x) (x1:x < g.length) (y0:0≤y) (y1:y < g.length) (hn:ZbG [x,y]):cg m (Bd g uu (cupL g m ub f h 0 1) [x,y] 1) (At g (cupL g m ub (bdL g m ua f 0) h 1 1) [x,y]+At g (cupL g m ub f (bdL g m ub h 1) 0 2) [x,y]):=by
 obtain⟨t0,t1⟩:=hg.ent x y x0 x1 y0 y1
 have hx:=ZbH x0 x1 y0 y1
 have a1:=Zbx hg (m:=m) (w:=ub) (f:=f) (h:=h) (p:=0) (q:=1) (by omega) (ZbR y0 y1) rfl
 have a2:=Zbx hg (m:=m) (w:=ub) (f:=f) (h:=h) (p:=0) (q:=1) (by omega) (ZbR t0 t1) rfl
 have a3:=Zbx hg (m:=m) (w:=ub) (f:=f) (h:=h) (p:=0) (q:=1) (by omega) (ZbR x0 x1) rfl
 have c1:=Zbx hg (m:=m) (w:=ub) (f:=bdL g m ua f 0) (h:=h) (p:=1) (q:=1) (by omega) hx rfl
 have c2:=Zbx hg (m:=m) (w:=ub) (f:=f) (h:=bdL g m ub h 1) (p:=0) (q:=2) (by omega) hx rfl
 have d1:=ZcS hg (m:=m) (u:=ua) (v:=f) (d:=0) (by omega) (ZbR x0 x1) rfl (Zcz hn (by simp))
 have d2:=ZcS hg (m:=m) (u:=ub) (v:=h) (d:=1) (by omega) hx rfl hn
 simp only[List.take_zero,List.drop_zero,List.take_succ_cons,List.take_nil,List.drop_succ_cons,List.drop_nil,List.foldl_nil,List.foldl_cons,hb.one hg,hg.one x x0 x1,d1,d2,bdZ,Zes]at a1 a2 a3 c1 c2
 rw[Zes,hu x x0 x1]
 refine(Zdc (Zdo (Zbt (Zbz _ _) a1) a2) a3).trans ((Zb6 ?_).trans (Zdc (c1.trans (Zbt (Zbt (Zbz _ _) (Zbo _ _)) (Zbo _ _))) (c2.trans (Zbt (Zbo _ _) (Zbz _ _)))).symm)
 grind
theorem leib10 {g:List (List Int)} (hg:Grp g) {m:Int} {ua:List Int} {ub:List Int} {uu:List Int} {f:List Int} {h:List Int} (hb:Mdl g m ub) (hu:∀x:Int,0≤x→x < g.length→rd uu x=rd ua x*rd ub x%m) {x y:Int} (x0:0≤x) (x1:x < g.length) (y0:0≤y) (y1:y < g.length) (hn:ZbG [x,y]):cg m (Bd g uu (cupL g m ub f h 1 0) [x,y] 1) (At g (cupL g m ub (bdL g m ua f 1) h 2 0) [x,y] - At g (cupL g m ub f (bdL g m ub h 0) 1 1) [x,y]):=by
 obtain⟨t0,t1⟩:=hg.ent x y x0 x1 y0 y1
 have hx:=ZbH x0 x1 y0 y1
 have hxy:=hb.hom x x0 (by rw[hb.len];omega) y y0 (by rw[hb.len];omega)
 have a1:=Zbx hg (m:=m) (w:=ub) (f:=f) (h:=h) (p:=1) (q:=0) (by omega) (ZbR y0 y1) rfl
 have a2:=Zbx hg (m:=m) (w:=ub) (f:=f) (h:=h) (p:=1) (q:=0) (by omega) (ZbR t0 t1) rfl
 have a3:=Zbx hg (m:=m) (w:=ub) (f:=f) (h:=h) (p:=1) (q:=0) (by omega) (ZbR x0 x1) rfl
 have c1:=Zbx hg (m:=m) (w:=ub) (f:=bdL g m ua f 1) (h:=h) (p:=2) (q:=0) (by omega) hx rfl
 have c2:=Zbx hg (m:=m) (w:=ub) (f:=f) (h:=bdL g m ub h 0) (p:=1) (q:=1) (by omega) hx rfl
 have d1:=ZcS hg (m:=m) (u:=ua) (v:=f) (d:=1) (by omega) hx rfl hn
 have d2:=ZcS hg (m:=m) (u:=ub) (v:=h) (d:=0) (by omega) (ZbR y0 y1) rfl (Zcz hn (by simp))
 simp only[List.take_zero,List.drop_zero,List.take_succ_cons,List.take_nil,List.drop_succ_cons,List.drop_nil,List.foldl_nil,List.foldl_cons,hb.one hg,hg.one x x0 x1,hg.one y y0 y1,hg.one _ t0 t1,hxy,d1,d2,bdZ,Zes]at a1 a2 a3 c1 c2
 rw[Zes,hu x x0 x1]
 refine(Zdc (Zdo (Zbt (Zbz _ _) a1) (a2.trans (Zbt (Zbt (Zbo _ _) (Zbz _ _)) (Zbo _ _)))) a3).trans ((Zb6 ?_).trans (Zdo (c1.trans (Zbt (Zbt (Zbz _ _) (Zbz _ _)) (Zbo _ _))) (c2.trans (Zbt (Zbo _ _) (Zbz _ _)))).symm)
 grind
theorem leib02 {g:List (List Int)} (hg:Grp g) {m:Int} {ua:List Int} {ub:List Int} {uu:List Int} {f:List Int} {h:List Int} (hb:Mdl g m ub) (hu:∀x:Int,0≤x→x < g.length→rd uu x=rd ua x*rd ub x%m) {x y z:Int} (x0:0≤x) (x1:x < g.length) (y0:0≤y) (y1:y < g.length) (z0:0≤z) (z1:z < g.length) (hn:ZbG [x,y,z]):cg m (Bd g uu (cupL g m ub f h 0 2) [x,y,z] 2) (At g (cupL g m ub (bdL g m ua f 0) h 1 2) [x,y,z]+At g (cupL g m ub f (bdL g m ub h 2) 0 3) [x,y,z]):=by
 obtain⟨s0,s1⟩:=hg.ent x y x0 x1 y0 y1
 obtain⟨t0,t1⟩:=hg.ent y z y0 y1 z0 z1
 have hx:=ZcC x0 x1 y0 y1 z0 z1
 have hxy:=hb.hom x x0 (by rw[hb.len];omega) y y0 (by rw[hb.len];omega)
 have hyz:=hb.hom y y0 (by rw[hb.len];omega) z z0 (by rw[hb.len];omega)
 have a1:=Zbx hg (m:=m) (w:=ub) (f:=f) (h:=h) (p:=0) (q:=2) (by omega) (ZbH y0 y1 z0 z1) rfl
 have a2:=Zbx hg (m:=m) (w:=ub) (f:=f) (h:=h) (p:=0) (q:=2) (by omega) (ZbH s0 s1 z0 z1) rfl
 have a3:=Zbx hg (m:=m) (w:=ub) (f:=f) (h:=h) (p:=0) (q:=2) (by omega) (ZbH x0 x1 t0 t1) rfl
 have a4:=Zbx hg (m:=m) (w:=ub) (f:=f) (h:=h) (p:=0) (q:=2) (by omega) (ZbH x0 x1 y0 y1) rfl
 have c1:=Zbx hg (m:=m) (w:=ub) (f:=bdL g m ua f 0) (h:=h) (p:=1) (q:=2) (by omega) hx rfl
 have c2:=Zbx hg (m:=m) (w:=ub) (f:=f) (h:=bdL g m ub h 2) (p:=0) (q:=3) (by omega) hx rfl
 have d1:=ZcS hg (m:=m) (u:=ua) (v:=f) (d:=0) (by omega) (ZbR x0 x1) rfl (Zcz hn (by simp))
 have d2:=ZcS hg (m:=m) (u:=ub) (v:=h) (d:=2) (by omega) hx rfl hn
 simp only[List.take_zero,List.drop_zero,List.take_succ_cons,List.take_nil,List.drop_succ_cons,List.drop_nil,List.foldl_nil,List.foldl_cons,hb.one hg,hg.one x x0 x1,hg.one y y0 y1,hg.one _ s0 s1,hxy,hyz,d1,d2,bdZ,Zes,bdT]at a1 a2 a3 a4 c1 c2
 rw[bdT,hu x x0 x1]
 refine(Zdo (Zdc (Zdo (Zbt (Zbz _ _) a1) a2) a3) a4).trans ((Zb6 ?_).trans (Zdc (c1.trans (Zbt (Zbt (Zbz _ _) (Zbo _ _)) (Zbo _ _))) (c2.trans (Zbt (Zbo _ _) (Zbz _ _)))).symm)
 grind
theorem leib11 {g:List (List Int)} (hg:Grp g) {m:Int} {ua:List Int} {ub:List Int} {uu:List Int} {f:List Int} {h:List Int} (hb:Mdl g m ub) (hu:∀x:Int,0≤x→x < g.length→rd uu x=rd ua x*rd ub x%m) {x y z:Int} (x0:0≤x) (x1:x < g.length) (y0:0≤y) (y1:y < g.length) (z0:0≤z) (z1:z < g.length) (hn:ZbG [x,y,z]):cg m (Bd g uu (cupL g m ub f h 1 1) [x,y,z] 2) (At g (cupL g m ub (bdL g m ua f 1) h 2 1) [x,y,z] - At g (cupL g m ub f (bdL g m ub h 1) 1 2) [x,y,z]):=by
 obtain⟨s0,s1⟩:=hg.ent x y x0 x1 y0 y1
 obtain⟨t0,t1⟩:=hg.ent y z y0 y1 z0 z1
 have hx:=ZcC x0 x1 y0 y1 z0 z1
 have hxy:=hb.hom x x0 (by rw[hb.len];omega) y y0 (by rw[hb.len];omega)
 have hyz:=hb.hom y y0 (by rw[hb.len];omega) z z0 (by rw[hb.len];omega)
 have a1:=Zbx hg (m:=m) (w:=ub) (f:=f) (h:=h) (p:=1) (q:=1) (by omega) (ZbH y0 y1 z0 z1) rfl
 have a2:=Zbx hg (m:=m) (w:=ub) (f:=f) (h:=h) (p:=1) (q:=1) (by omega) (ZbH s0 s1 z0 z1) rfl
 have a3:=Zbx hg (m:=m) (w:=ub) (f:=f) (h:=h) (p:=1) (q:=1) (by omega) (ZbH x0 x1 t0 t1) rfl
 have a4:=Zbx hg (m:=m) (w:=ub) (f:=f) (h:=h) (p:=1) (q:=1) (by omega) (ZbH x0 x1 y0 y1) rfl
 have c1:=Zbx hg (m:=m) (w:=ub) (f:=bdL g m ua f 1) (h:=h) (p:=2) (q:=1) (by omega) hx rfl
 have c2:=Zbx hg (m:=m) (w:=ub) (f:=f) (h:=bdL g m ub h 1) (p:=1) (q:=2) (by omega) hx rfl
 have d1:=ZcS hg (m:=m) (u:=ua) (v:=f) (d:=1) (by omega) (ZbH x0 x1 y0 y1) rfl (Zcz hn (by simp))
 have d2:=ZcS hg (m:=m) (u:=ub) (v:=h) (d:=1) (by omega) (ZbH y0 y1 z0 z1) rfl (Zcz hn (by simp))
 simp only[List.take_zero,List.drop_zero,List.take_succ_cons,List.take_nil,List.drop_succ_cons,List.drop_nil,List.foldl_nil,List.foldl_cons,hb.one hg,hg.one x x0 x1,hg.one y y0 y1,hg.one _ s0 s1,hxy,hyz,d1,d2,bdZ,Zes,bdT]at a1 a2 a3 a4 c1 c2
 rw[bdT,hu x x0 x1]
 refine(Zdo (Zdc (Zdo (Zbt (Zbz _ _) a1) (a2.trans (Zbt (Zbt (Zbo _ _) (Zbz _ _)) (Zbo _ _)))) a3) a4).trans ((Zb6 ?_).trans (Zdo (c1.trans (Zbt (Zbt (Zbz _ _) (Zbz _ _)) (Zbo _ _))) (c2.trans (Zbt (Zbo _ _) (Zbz _ _)))).symm)
 grind
theorem leib20 {g:List (List Int)} (hg:Grp g) {m:Int} {ua:List Int} {ub:List Int} {uu:List Int} {f:List Int} {h:List Int} (hb:Mdl g m ub) (hu:∀x:Int,0≤x→x < g.length→rd uu x=rd ua x*rd ub x%m) {x y z:Int} (x0:0≤x) (x1:x < g.length) (y0:0≤y) (y1:y < g.length) (z0:0≤z) (z1:z < g.length) (hn:ZbG [x,y,z]):cg m (Bd g uu (cupL g m ub f h 2 0) [x,y,z] 2) (At g (cupL g m ub (bdL g m ua f 2) h 3 0) [x,y,z]+At g (cupL g m ub f (bdL g m ub h 0) 2 1) [x,y,z]):=by
 obtain⟨v0,v1⟩:=hg.ent x y x0 x1 y0 y1
 obtain⟨r0,r1⟩:=hg.ent (T g x y) z v0 v1 z0 z1
 have hxyz:=hb.hom (T g x y) v0 (by rw[hb.len];omega) z z0 (by rw[hb.len];omega)
 have has:=hg.assoc x y z x0 x1 y0 y1 z0 z1
 obtain⟨s0,s1⟩:=hg.ent x y x0 x1 y0 y1
 obtain⟨t0,t1⟩:=hg.ent y z y0 y1 z0 z1
 have hx:=ZcC x0 x1 y0 y1 z0 z1
 have hxy:=hb.hom x x0 (by rw[hb.len];omega) y y0 (by rw[hb.len];omega)
 have hyz:=hb.hom y y0 (by rw[hb.len];omega) z z0 (by rw[hb.len];omega)
 have a1:=Zbx hg (m:=m) (w:=ub) (f:=f) (h:=h) (p:=2) (q:=0) (by omega) (ZbH y0 y1 z0 z1) rfl
 have a2:=Zbx hg (m:=m) (w:=ub) (f:=f) (h:=h) (p:=2) (q:=0) (by omega) (ZbH s0 s1 z0 z1) rfl
 have a3:=Zbx hg (m:=m) (w:=ub) (f:=f) (h:=h) (p:=2) (q:=0) (by omega) (ZbH x0 x1 t0 t1) rfl
 have a4:=Zbx hg (m:=m) (w:=ub) (f:=f) (h:=h) (p:=2) (q:=0) (by omega) (ZbH x0 x1 y0 y1) rfl
 have c1:=Zbx hg (m:=m) (w:=ub) (f:=bdL g m ua f 2) (h:=h) (p:=3) (q:=0) (by omega) hx rfl
 have c2:=Zbx hg (m:=m) (w:=ub) (f:=f) (h:=bdL g m ub h 0) (p:=2) (q:=1) (by omega) hx rfl
 have d1:=ZcS hg (m:=m) (u:=ua) (v:=f) (d:=2) (by omega) hx rfl hn
 have d2:=ZcS hg (m:=m) (u:=ub) (v:=h) (d:=0) (by omega) (ZbR z0 z1) rfl (Zcz hn (by simp))
 simp only[List.take_zero,List.drop_zero,List.take_succ_cons,List.take_nil,List.drop_succ_cons,List.drop_nil,List.foldl_nil,List.foldl_cons,hb.one hg,hg.one x x0 x1,hg.one y y0 y1,hg.one _ s0 s1,hyz,←has,hxyz,hxy,d1,d2,bdZ,Zes,bdT]at a1 a2 a3 a4 c1 c2
 rw[bdT,hu x x0 x1]
 refine(Zdo (Zdc (Zdo (Zbt (Zbz _ _) (a1.trans (Zbt (Zbt (Zbo _ _) (Zbz _ _)) (Zbo _ _)))) (a2.trans (Zbt (Zbt (Zbo _ _) ((Zbz _ _).trans (Zbt (Zbz _ _) (Zbo _ _)))) (Zbo _ _)))) (a3.trans (Zbt (Zbt (Zbo _ _) ((Zbz _ _).trans (Zbt (Zbz _ _) (Zbo _ _)))) (Zbo _ _)))) (a4.trans (Zbt (Zbt (Zbo _ _) (Zbz _ _)) (Zbo _ _)))).trans ((Zb6 ?_).trans (Zdc (c1.trans (Zbt (Zbt (Zbz _ _) ((Zbz _ _).trans (Zbt (Zbz _ _) (Zbo _ _)))) (Zbo _ _))) (c2.trans (Zbt (Zbt (Zbo _ _) (Zbz _ _)) (Zbz _ _)))).symm)
 grind
end Go.Proofs.YtoljodiflhbohaaGreatDoor.V
set_option maxHeartbeats 4000000
namespace Go.Proofs.YtoljodiflhbohaaGreatDoor.V
open Go.RowKit Go.Proofs.YtoljodiflhbohaaGreatDoor.D Go.Proofs.YtoljodiflhbohaaGreatDoor.P
def lc (p:List (List Int)) (t:List Int):Nat→Vc
 | 0=>fun _=>0
 | k+1=>fun i=>lc p t k i+rd t (k:Int)*rd (row p (k:Int)) (i:Int)
theorem Zje (p:List (List Int)) (t:List Int) (k i:Nat):lc p t (k+1) i=lc p t k i+rd t (k:Int)*rd (row p (k:Int)) (i:Int):=rfl
structure Least0 (m:Int) (W k:Nat) (p:List (List Int)) (M:Vc→Prop) (x y t:List Int):Prop where
 len:y.length=W
 ent:AllIn m y
 dif:M fun i=>rd x (i:Int) - rd y (i:Int)
 lt:∀j:Nat,j < k→rd y (j:Int) < dv m p j
 tlen:t.length=W
 tbd:∀j:Nat,j < W→0≤rd t (j:Int)∧rd t (j:Int)≤12
 tnil:∀j:Nat,row p (j:Int)=[]→rd t (j:Int)=0
 tak:∀i:Nat,i < W→m∣rd x (i:Int) - rd y (i:Int) - lc p t k i
theorem Zkc {p:List (List Int)} {t t' : List Int}:∀k,(∀j:Nat,j < k→rd t (j:Int)=rd t' (j:Int))→lc p t k=lc p t' k:=by
 intro k
 induction k with
 | zero=>intro _;rfl
 | succ k ih =>
  intro h
  funext i
  rw[lc,lc,ih fun j hj=>h j (by omega),h k (by omega)]
theorem Least0.skip {m:Int} {W k:Nat} {p:List (List Int)} {M:Vc→Prop} {x y t:List Int} (h:Least0 m W k p M x y t) (hk:k < W) (hr:row p (k:Int)=[]):Least0 m W (k+1) p M x y t :=
  { h with
    lt := fun j hj=>by
      by_cases e:j=k
      · subst e
        rw[show dv m p j=m from if_pos hr]
        exact(h.ent j (by omega) (by rw[h.len];omega)).2
      · exact h.lt j (by omega)
    tak:=fun i hi=>by
      rw[Zje,h.tnil k hr,Int.zero_mul,Int.add_zero]
      exact h.tak i hi }
theorem Least0.take {m:Int} {W k:Nat} {p:List (List Int)} {M:Vc→Prop} {x y t:List Int} (m2:2≤m) (m12:m≤12) (hM:Lead m W p M) (h:Least0 m W k p M x y t) (hk:k < W) (hr:row p (k:Int)≠[]) :
  Least0 m W (k+1) p M x (mix m 1 y (-(rd y (k:Int) / rd (row p (k:Int)) (k:Int))) (row p (k:Int))) (t.set k (rd y (k:Int) / rd (row p (k:Int)) (k:Int))):=by
 have hP:=hM.tab.prow hk hr
 have p0:=hP.pos
 have p1:=hP.lt
 have yl:=h.len
 have tl:=h.tlen
 obtain⟨y0,y1⟩:=h.ent k (by omega) (by omega)
 obtain⟨q,hq⟩:∃q,q=rd y (k:Int) / rd (row p (k:Int)) (k:Int):=⟨_,rfl⟩
 rw[←hq]
 have hmod:=Int.mul_ediv_add_emod (rd y (k:Int)) (rd (row p (k:Int)) (k:Int))
 rw[←hq]at hmod
 have r0:=Int.emod_nonneg (rd y (k:Int)) (show rd (row p (k:Int)) (k:Int)≠0 by omega)
 have r1:=Int.emod_lt_of_pos (rd y (k:Int)) p0
 have q0:0≤q:=by rw[hq];exact Int.ediv_nonneg y0 (by omega)
 have q1:q≤rd y (k:Int):=by rw[hq];exact Int.ediv_le_self _ y0
 have hy:∀i:Nat,i < W→m∣1*rd y (i:Int)+(-q)*rd (row p (k:Int)) (i:Int) - rd (mix m 1 y (-q) (row p (k:Int))) (i:Int):=fun i hi=>Zk3 (by omega)
 refine⟨by rw[ZfF];exact yl,Zly (by omega),?_,fun j hj => ?_,by rw[List.length_set];exact tl,fun j hj => ?_,fun j hn => ?_,fun i hi => ?_⟩
 ·
  refine hM.sub.alike _ _ (hM.sub.lin _ _ h.dif (hM.own k hk hr) q) fun i hi => ?_
  obtain⟨z,hz⟩:=hy i hi
  refine⟨-z,?_⟩
  rw[Int.mul_neg,←hz,Int.neg_mul]
  show rd x (i:Int) - rd y (i:Int)+q*rd (row p (k:Int)) (i:Int) - (rd x (i:Int) - rd (mix m 1 y (-q) (row p (k:Int))) (i:Int))=_
  omega
 ·
  by_cases e:j=k
  ·
   subst e
   rw[Zjj (by omega),show dv m p j=rd (row p (j:Int)) (j:Int)from if_neg hr,show 1*rd y (j:Int) + -q*rd (row p (j:Int)) (j:Int)=rd y (j:Int)%rd (row p (j:Int)) (j:Int)by rw[Int.neg_mul,Int.mul_comm q];omega,Int.emod_eq_of_lt r0 (by omega)]
   exact r1
  ·
   obtain⟨a0,a1⟩:=h.ent j (by omega) (by omega)
   rw[Zjj (by omega),hP.zero j (by omega),Int.mul_zero,Int.add_zero,Int.one_mul,Int.emod_eq_of_lt a0 a1]
   exact h.lt j (by omega)
 ·
  by_cases e:j=k
  ·
   subst e;rw[Zfk (by omega)];omega
  ·
   rw[Zfj e];exact h.tbd j hj
 ·
  have e:j≠k:=fun e=>hr (e ▸ hn)
  rw[Zfj e];exact h.tnil j hn
 ·
  rw[Zje,Zfk (by omega),Zkc k fun j hj=>Zfj (show j≠k by omega)]
  obtain⟨z,hz⟩:=hy i hi
  obtain⟨z', hz'⟩:=h.tak i hi
  refine⟨z' + z,?_⟩
  rw[Int.mul_add,←hz,←hz', Int.neg_mul]
  omega
theorem Least0.fin {m:Int} {W:Nat} {p:List (List Int)} {M:Vc→Prop} {x y t:List Int} (h:Least0 m W W p M x y t):Least m W p M x y:=⟨h.len,h.ent,h.dif,h.lt⟩
end Go.Proofs.YtoljodiflhbohaaGreatDoor.V
namespace Go.Proofs.YtoljodiflhbohaaGreatDoor.V
open Go.RowKit Go.Proofs.YtoljodiflhbohaaGreatDoor.D Go.Proofs.YtoljodiflhbohaaGreatDoor.P
theorem co_codes2 (g:List (List Int)) (hl:g.length≤maxLen) (hr:∀r∈g,r.length≤maxLen) (m:Int) (u:List Int) (hu:u.length≤maxLen) (d:Int) (v:List Int) (hv:v.length≤maxLen) (d' : Int) (v' : List Int) (hv' : v'.length≤maxLen) :
  (Grp g∧Mdl g m u∧Co g m d v∧Co g m d' v' ∧ Zo.f g m u [(d,v),(d', v')]=some 0∧ZJ.f g m u [(d,v),(d', v')]=some 0) ∨
  (¬ (Grp g∧Mdl g m u∧Co g m d v∧Co g m d' v')∧Zo.f g m u [(d,v),(d', v')]=some 1∧ZJ.f g m u [(d,v),(d', v')]=some 1):=by
 have hA:=Zc0 g hl hr m u hu
 have hS:=Is_ g
 have w1:wrapI (0+1)=1:=w64 (by omega) (by omega)
 have w2:wrapI (1+1)=2:=w64 (by omega) (by omega)
 have l2:([(d,v),(d', v')]:List (Int×List Int)).length=2:=rfl
 have r0:Ty.rd (.pr (.int .i64) (.sl 2 (.int .i64))) [(d,v),(d', v')] 0=(d,v):=rfl
 have r1:Ty.rd (.pr (.int .i64) (.sl 2 (.int .i64))) [(d,v),(d', v')] 1=(d', v'):=rfl
 have stI:Zo.l0 [(d,v),(d', v')] ((2:Nat):Int) 2 g m u=some 0:=by rw[Zo.l0_eq];exact if_neg (by simp)
 have stS:ZJ.l0 [(d,v),(d', v')] 2 g m u=some 0:=by rw[ZJ.l0_eq];exact if_neg (by simp)
 rw[Zo.f_eq,ZJ.f_eq]
 by_cases h:GM g m u
 rotate_left
 ·
  refine .inr ⟨fun k=>h ⟨k.1,k.2.1⟩,?_,?_⟩
  ·
   ((with_reducible repeat (first|refine Zj (by first|assumption|omega|rfl|exact B_pos (by omega)) ?_|refine Zi (by first|assumption|omega|decide|exact B_not (by omega)) ?_|refine Ze (by first|assumption) ?_|dsimp only));first|done|(with_reducible rfl)|simp (disch:=omega) only[w64]|(show False;done))
  ·
   by_cases h1:Grp g
   ·
    have hM:=Is02 h1 m u hu
    rw[B_neg fun k=>h ⟨h1,k⟩]at hM
    ((with_reducible repeat (first|refine Zj (by first|assumption|omega|rfl|exact B_pos (by omega)) ?_|refine Zi (by first|assumption|omega|decide|exact B_not (by omega)) ?_|refine Ze (by first|assumption) ?_|dsimp only));first|done|(with_reducible rfl)|simp (disch:=omega) only[w64]|(show False;done))
   ·
    ((with_reducible repeat (first|refine Zj (by first|assumption|omega|rfl|exact B_pos (by omega)) ?_|refine Zi (by first|assumption|omega|decide|exact B_not (by omega)) ?_|refine Ze (by first|assumption) ?_|dsimp only));first|done|(with_reducible rfl)|simp (disch:=omega) only[w64]|(show False;done))
 have hM:=Is02 h.1 m u hu
 have hI:=Zci h.1 m u d v hv
 have hI' := Zci h.1 m u d' v' hv'
 have hC:=Is03 h.1 h.2 d v hv
 have hC' := Is03 h.1 h.2 d' v' hv'
 have hB:B (GM g m u)=true:=B_pos h
 have hGr:=h.1
 have hMd:=h.2
 rw[l2,Zo.l0_eq,ZJ.l0_eq,l2,r0,w1]
 by_cases h2:Co g m d v
 rotate_left
 ·
  exact .inr ⟨fun k=>h2 k.2.2.1,by((with_reducible repeat (first|refine Zj (by first|assumption|omega|rfl|exact B_pos (by omega)) ?_|refine Zi (by first|assumption|omega|decide|exact B_not (by omega)) ?_|refine Ze (by first|assumption) ?_|dsimp only));first|done|(with_reducible rfl)|simp (disch:=omega) only[w64]|(show False;done)),by((with_reducible repeat (first|refine Zj (by first|assumption|omega|rfl|exact B_pos (by omega)) ?_|refine Zi (by first|assumption|omega|decide|exact B_not (by omega)) ?_|refine Ze (by first|assumption) ?_|dsimp only));first|done|(with_reducible rfl)|simp (disch:=omega) only[w64]|(show False;done))⟩
 have kI:Zo.l0 [(d,v),(d', v')] ((2:Nat):Int) 1 g m u=some (ite_ (Co g m d' v') 0 1):=by
  rw[Zo.l0_eq,l2,r1,w2]
  by_cases h3:Co g m d' v'
  ·
   rw[ZbK h3];(with_reducible repeat (first|refine Zj (by first|assumption|omega|rfl|exact B_pos (by omega)) ?_|refine Zi (by first|assumption|omega|decide|exact B_not (by omega)) ?_|refine Ze (by first|assumption) ?_|dsimp only));exact stI
  ·
   rw[ZbN h3];((with_reducible repeat (first|refine Zj (by first|assumption|omega|rfl|exact B_pos (by omega)) ?_|refine Zi (by first|assumption|omega|decide|exact B_not (by omega)) ?_|refine Ze (by first|assumption) ?_|dsimp only));first|done|(with_reducible rfl)|simp (disch:=omega) only[w64]|(show False;done))
 have kS:ZJ.l0 [(d,v),(d', v')] 1 g m u=some (ite_ (Co g m d' v') 0 1):=by
  rw[ZJ.l0_eq,l2,r1,w2]
  by_cases h3:Co g m d' v'
  ·
   rw[ZbK h3];(with_reducible repeat (first|refine Zj (by first|assumption|omega|rfl|exact B_pos (by omega)) ?_|refine Zi (by first|assumption|omega|decide|exact B_not (by omega)) ?_|refine Ze (by first|assumption) ?_|dsimp only));exact stS
  ·
   rw[ZbN h3];((with_reducible repeat (first|refine Zj (by first|assumption|omega|rfl|exact B_pos (by omega)) ?_|refine Zi (by first|assumption|omega|decide|exact B_not (by omega)) ?_|refine Ze (by first|assumption) ?_|dsimp only));first|done|(with_reducible rfl)|simp (disch:=omega) only[w64]|(show False;done))
 by_cases h3:Co g m d' v'
 ·
  rw[ZbK h3]at kI kS
  exact .inl ⟨h.1,h.2,h2,h3,by(with_reducible repeat (first|refine Zj (by first|assumption|omega|rfl|exact B_pos (by omega)) ?_|refine Zi (by first|assumption|omega|decide|exact B_not (by omega)) ?_|refine Ze (by first|assumption) ?_|dsimp only));exact kI,by(with_reducible repeat (first|refine Zj (by first|assumption|omega|rfl|exact B_pos (by omega)) ?_|refine Zi (by first|assumption|omega|decide|exact B_not (by omega)) ?_|refine Ze (by first|assumption) ?_|dsimp only));exact kS⟩
 ·
  rw[ZbN h3]at kI kS
  exact .inr ⟨fun k=>h3 k.2.2.2,by(with_reducible repeat (first|refine Zj (by first|assumption|omega|rfl|exact B_pos (by omega)) ?_|refine Zi (by first|assumption|omega|decide|exact B_not (by omega)) ?_|refine Ze (by first|assumption) ?_|dsimp only));exact kI,by(with_reducible repeat (first|refine Zj (by first|assumption|omega|rfl|exact B_pos (by omega)) ?_|refine Zi (by first|assumption|omega|decide|exact B_not (by omega)) ?_|refine Ze (by first|assumption) ?_|dsimp only));exact kS⟩
theorem Co.nB {g:List (List Int)} (hg:Grp g) {m:Int} {k:Nat} {v:List Int} (h:Co g m k v):v.length=nB g k:=by
 have:=h.2.1
 have hk:=h.1.2
 obtain⟨b1,b2⟩:=nA_bd hg (e:=k) (by omega)
 omega
def addL (m:Int) (v w:List Int) (c:Int):List Int:=(List.range v.length).map fun i:Nat=>(rd v (i:Int)+c*rd w (i:Int))%m
theorem ZcB (m:Int) (v w:List Int) (c:Int):(addL m v w c).length=v.length:=by simp[addL]
theorem ZiG {m:Int} {v w:List Int} {c:Int} {i:Nat} (h:i < v.length):rd (addL m v w c) (i:Int)=(rd v (i:Int)+c*rd w (i:Int))%m:=by
 rw[ZbW (by rw[ZcB];exact h)];simp[addL]
theorem Zlr {m a b c:Int} (m12:m≤12) (a0:0≤a) (a1:a < m) (b0:0≤b) (b1:b < m) (c0 : -1000≤c) (c1:c≤1000):wrapI (a+wrapI (c*b))=a+c*b ∧ -13000≤a+c*b∧a+c*b≤13000:=by
 have:=Zlz (x:=c) (a:=b) (B:=1000) c0 c1 b0 b1 m12 (by omega)
 rw[w64 (x:=c*b) (by omega) (by omega),w64 (by omega) (by omega)]
 omega
theorem Zls {m:Int} (m2:2≤m) (m12:m≤12) (d e:Int) {v w:List Int} (hl:w.length=v.length) (hv:AllIn m v) (hw:AllIn m w) (hL:v.length≤1000000) {c:Int} (c0 : -1000≤c) (c1:c≤1000) :
  Za9.f m d v e w c=some (d,addL m v w c):=by
 have l2:∀x:Int,([x]:List Int).length=1:=fun _=>rfl
 rw[Za9.f_eq]
 have loop:=up v.length (fun i=>Za9.l0 m c v (v.length:Int) (i:Int) e w 0 d [] ((addL m v w c).take i)) (fun i hi=>by
  obtain⟨a0,a1⟩:=hv i (by omega) (by omega)
  obtain⟨b0,b1⟩:=hw i (by omega) (by omega)
  obtain⟨e1,_,_⟩:=Zlr m12 a0 a1 b0 b1 c0 c1
  have e2:=Zjk (a:=rd v (i:Int)+c*rd w (i:Int)) (m:=m) (by omega) (by omega)
  have tl:((addL m v w c).take i).length=i:=by rw[List.length_take,ZcB];omega
  rw[ZcR (by rw[ZcB];exact hi),ZiG hi,Za9.l0_eq,wn (j:=i) (by omega),e1,e2]
  (with_reducible repeat (first|refine Zj (by first|assumption|omega|rfl|exact B_pos (by omega)) ?_|refine Zi (by first|assumption|omega|decide|exact B_not (by omega)) ?_|refine Ze (by first|assumption) ?_|dsimp only))
  rw[l2]
  ((with_reducible repeat (first|refine Zj (by first|assumption|omega|rfl|exact B_pos (by omega)) ?_|refine Zi (by first|assumption|omega|decide|exact B_not (by omega)) ?_|refine Ze (by first|assumption) ?_|dsimp only));first|done|(with_reducible rfl)|simp (disch:=omega) only[w64]|(show False;done)))
 simp only[Int.natCast_zero,List.take_zero]at loop
 rw[List.take_of_length_le (by rw[ZcB];exact Nat.le_refl _)]at loop
 rw[loop,Za9.l0_eq]
 ((with_reducible repeat (first|refine Zj (by first|assumption|omega|rfl|exact B_pos (by omega)) ?_|refine Zi (by first|assumption|omega|decide|exact B_not (by omega)) ?_|refine Ze (by first|assumption) ?_|dsimp only));first|done|(with_reducible rfl)|simp (disch:=omega) only[w64]|(show False;done))
end Go.Proofs.YtoljodiflhbohaaGreatDoor.V
namespace Go.Proofs.YtoljodiflhbohaaGreatDoor.V
open Go.RowKit Go.Proofs.YtoljodiflhbohaaGreatDoor.D Go.Proofs.YtoljodiflhbohaaGreatDoor.P
theorem ZeR (g:List (List Int)) (hl:g.length≤maxLen) (hr:∀r∈g,r.length≤maxLen) (m:Int) (u:List Int) (hu:u.length≤maxLen) (m' : Int) (u' : List Int) (hu' : u'.length≤maxLen):ZA.f g [(m,u),(m', u')]=some (B (Grp g∧Mdl g m u∧Mdl g m' u')):=by
 have hG:=Ze1 g hl hr
 have w1:wrapI (0+1)=1:=w64 (by omega) (by omega)
 have w2:wrapI (1+1)=2:=w64 (by omega) (by omega)
 have l2:([(m,u),(m', u')]:List (Int×List Int)).length=2:=rfl
 have r0:Ty.rd (.pr (.int .i64) (.sl 2 (.int .i64))) [(m,u),(m', u')] 0=(m,u):=rfl
 have r1:Ty.rd (.pr (.int .i64) (.sl 2 (.int .i64))) [(m,u),(m', u')] 1=(m', u'):=rfl
 have stI:ZA.l0 [(m,u),(m', u')] ((2:Nat):Int) 2 g=some true:=by rw[ZA.l0_eq];exact if_neg (by simp)
 rw[ZA.f_eq,l2,ZA.l0_eq,l2,r0,w1]
 by_cases h1:Grp g
 rotate_left
 ·
  rw[B_neg h1]at hG
  rw[B_neg fun q=>h1 q.1]
  ((with_reducible repeat (first|refine Zj (by first|assumption|omega|rfl|exact B_pos (by omega)) ?_|refine Zi (by first|assumption|omega|decide|exact B_not (by omega)) ?_|refine Ze (by first|assumption) ?_|dsimp only));first|done|(with_reducible rfl)|simp (disch:=omega) only[w64]|(show False;done))
 rw[B_pos h1]at hG
 have hM:=Zf4 h1 m u hu
 have hM' := Zf4 h1 m' u' hu'
 by_cases h2:Mdl g m u
 rotate_left
 ·
  rw[B_neg h2]at hM
  rw[B_neg fun q=>h2 q.2.1]
  ((with_reducible repeat (first|refine Zj (by first|assumption|omega|rfl|exact B_pos (by omega)) ?_|refine Zi (by first|assumption|omega|decide|exact B_not (by omega)) ?_|refine Ze (by first|assumption) ?_|dsimp only));first|done|(with_reducible rfl)|simp (disch:=omega) only[w64]|(show False;done))
 rw[B_pos h2]at hM
 have k:ZA.l0 [(m,u),(m', u')] ((2:Nat):Int) 1 g=some (B (Mdl g m' u')):=by
  rw[ZA.l0_eq,l2,r1,w2]
  by_cases h3:Mdl g m' u'
  ·
   rw[B_pos h3]at hM' ⊢
   (with_reducible repeat (first|refine Zj (by first|assumption|omega|rfl|exact B_pos (by omega)) ?_|refine Zi (by first|assumption|omega|decide|exact B_not (by omega)) ?_|refine Ze (by first|assumption) ?_|dsimp only))
   exact stI
  ·
   rw[B_neg h3]at hM' ⊢
   ((with_reducible repeat (first|refine Zj (by first|assumption|omega|rfl|exact B_pos (by omega)) ?_|refine Zi (by first|assumption|omega|decide|exact B_not (by omega)) ?_|refine Ze (by first|assumption) ?_|dsimp only));first|done|(with_reducible rfl)|simp (disch:=omega) only[w64]|(show False;done))
 by_cases h3:Mdl g m' u'
 ·
  rw[B_pos h3]at k
  rw[B_pos ⟨h1,h2,h3⟩]
  (with_reducible repeat (first|refine Zj (by first|assumption|omega|rfl|exact B_pos (by omega)) ?_|refine Zi (by first|assumption|omega|decide|exact B_not (by omega)) ?_|refine Ze (by first|assumption) ?_|dsimp only))
  exact k
 ·
  rw[B_neg h3]at k
  rw[B_neg fun q=>h3 q.2.2]
  (with_reducible repeat (first|refine Zj (by first|assumption|omega|rfl|exact B_pos (by omega)) ?_|refine Zi (by first|assumption|omega|decide|exact B_not (by omega)) ?_|refine Ze (by first|assumption) ?_|dsimp only))
  exact k
theorem le144 {a b c d:Int} (a0:0≤a) (a1:a≤c) (b0:0≤b) (b1:b≤d):0≤a*b∧a*b≤c*d:=⟨Int.mul_nonneg a0 b0,Int.mul_le_mul a1 b1 b0 (by omega)⟩
theorem ZkB {g:List (List Int)} (hg:Grp g) {m:Int} {w f h xs:List Int} {p q:Nat} (hw:Mdl g m w) (hf:Co g m p f) (hh:Co g m q h) (hx:AllIn g.length xs) (hl:xs.length=p+q) :
  (0≤(xs.take p).foldl (T g) 0∧(xs.take p).foldl (T g) 0 < g.length)∧(0≤At g f (xs.take p)*rd w ((xs.take p).foldl (T g) 0)∧At g f (xs.take p)*rd w ((xs.take p).foldl (T g) 0)≤1000000) ∧
  0≤At g f (xs.take p)*rd w ((xs.take p).foldl (T g) 0)*At g h (xs.drop p)∧At g f (xs.take p)*rd w ((xs.take p).foldl (T g) 0)*At g h (xs.drop p)≤1000000:=by
 have m2:=hw.m2;have m12:=hw.m12;have n1:=hg.n1
 obtain⟨z0,z1⟩:=hg.foldl_in (xs.take p) 0 (hx.take p) (by omega) (by omega)
 obtain⟨a0,a1⟩:=At_bd hg (by omega) hf (hx.take p) (by rw[List.length_take];omega)
 obtain⟨b0,b1⟩:=At_bd hg (by omega) hh (hx.drop p) (by rw[List.length_drop];omega)
 obtain⟨c0,c1⟩:=hw.at z0 z1
 obtain⟨e0,e1⟩:=le144 (c:=11) (d:=11) a0 (by omega) (by omega:0≤rd w ((xs.take p).foldl (T g) 0)) (by omega)
 obtain⟨f0,f1⟩:=le144 (c:=11*11) (d:=11) e0 e1 b0 (by omega)
 exact⟨⟨z0,z1⟩,⟨e0,by omega⟩,f0,by omega⟩
theorem prod1 {g:List (List Int)} (hg:Grp g) {m:Int} {w f h xs:List Int} {p q:Nat} (hw:Mdl g m w) (hf:Co g m p f) (hh:Co g m q h) (hx:AllIn g.length xs) (hl:xs.length=p+q) :
  ZI.f xs p f g m w q h=some (At g f (xs.take p)*rd w ((xs.take p).foldl (T g) 0)*At g h (xs.drop p)):=by
 obtain⟨⟨z0,z1⟩,⟨e0,e1⟩,f0,f1⟩:=ZkB hg hw hf hh hx hl
 have hlw:=hw.len
 have hp:=hf.1.2;have hq:=hh.1.2
 have a1:=at_ hg hf (hx.take p) (by rw[List.length_take];omega)
 have a2:=at_ hg hh (hx.drop p) (by rw[List.length_drop];omega)
 have t:=times hg (xs.take p) (hx.take p) (Zbu (by rw[List.length_take];omega))
 rw[ZI.f_eq,Int.toNat_natCast,a1,t,a2]
 dsimp only[Option.bind_some]
 rw[w64 (x:=At g f (xs.take p)*rd w ((xs.take p).foldl (T g) 0)) (by omega) (by omega),w64 (by omega) (by omega)]
 ((with_reducible repeat (first|refine Zj (by first|assumption|omega|rfl|exact B_pos (by omega)) ?_|refine Zi (by first|assumption|omega|decide|exact B_not (by omega)) ?_|refine Ze (by first|assumption) ?_|dsimp only));first|done|(with_reducible rfl)|simp (disch:=omega) only[w64]|(show False;done))
theorem times03 {g:List (List Int)} (hg:Grp g) {m:Int} {w f h:List Int} {p q:Nat} (hw:Mdl g m w) (hf:Co g m p f) (hh:Co g m q h) (hpq:p+q≤3) :
  ZW.f g m w p f q h=some (((p+q:Nat):Int),cupL g m w f h p q):=by
 have hlw:=hw.len;have m2:=hw.m2;have m12:=hw.m12;have n8:=hg.n8
 have hb:=ZbA hg (d:=((p+q:Nat):Int)) (by omega)
 have hCl:=Zft hg (d:=((p+q:Nat):Int)) (by omega) (by omega)
 have wd:wrapI ((p:Int)+(q:Int))=((p+q:Nat):Int):=by rw[w64 (by omega) (by omega)];omega
 obtain⟨G,hG⟩:∃G:Nat→Int,∀i:Nat,G i=cupF g m w p (At g f) (At g h) (lst ((g.length:Int) - 1) (p+q) (i:Int)):=⟨_,fun _=>rfl⟩
 have hL:cupL g m w f h p q=(List.range (cells g ((p+q:Nat):Int)).toNat).map G:=List.map_congr_left fun i _=>(hG i).symm
 rw[hL,ZW.f_eq,wd]
 have:=up (cells g ((p+q:Nat):Int)).toNat (fun i=>ZW.l0 ((p+q:Nat):Int) (i:Int) g m w p f q h 0 ((p+q:Nat):Int) ((List.range i).map G)) (fun i hi=>by
  obtain⟨hx,_⟩:=Zb7 hg (n:=p+q) (i:=i) (by omega)
  have hll:=ZbE ((g.length:Int) - 1) (p+q) i
  have hLi:=(Zdl hg (n:=p+q) (i:=i) (by omega) (by omega)).2
  have hGi:=hG i
  obtain⟨xs,hxs⟩:∃xs,xs=lst ((g.length:Int) - 1) (p+q) i:=⟨_,rfl⟩
  rw[←hxs]at hx hll hLi hGi
  obtain⟨⟨z0,z1⟩,⟨e0,e1⟩,f0,f1⟩:=ZkB hg hw hf hh hx hll
  have a1:=At_ (u:=w) hg hf (hx.take p) (by rw[List.length_take];omega)
  have a2:=At_ (u:=w) hg hh (hx.drop p) (by rw[List.length_drop];omega)
  have hmod:=Mod_ (a:=At g f (xs.take p)*rd w ((xs.take p).foldl (T g) 0)*At g h (xs.drop p)) (m:=m) (by omega) (by omega) (by omega) (by omega)
  have n1:=hg.n1
  have inner:=up p (fun j=>ZW.l1 ((p+q:Nat):Int) (i:Int) xs ((xs.take j).foldl (T g) 0) (j:Int) g m w p f q h 0 ((p+q:Nat):Int) ((List.range i).map G)) (fun j hj=>by
   obtain⟨y0,y1⟩:=hx j (by omega) (by omega)
   obtain⟨k0,k1⟩:=hg.foldl_in (xs.take j) 0 (hx.take j) (by omega) (by omega)
   have lr:=hg.row _ k0 k1
   rw[ZcR (by omega:j < xs.length),List.foldl_append,List.foldl_cons,List.foldl_nil,ZW.l1_eq,wn (j:=j) (by omega)]
   ((with_reducible repeat (first|refine Zj (by first|assumption|omega|rfl|exact B_pos (by omega)) ?_|refine Zi (by first|assumption|omega|decide|exact B_not (by omega)) ?_|refine Ze (by first|assumption) ?_|dsimp only));first|done|(with_reducible rfl)|simp (disch:=omega) only[w64]|(show False;done)))
  simp only[Int.natCast_zero,List.take_zero,List.foldl_nil]at inner
  have l2:((List.range i).map G).length=i:=by rw[List.length_map,List.length_range]
  have l3:∀y:Int,([y]:List Int).length=1:=fun _=>rfl
  rw[List.range_succ,List.map_append,List.map_singleton,hGi,ZkV,ZW.l0_eq,hCl,Option.bind_some]
  (with_reducible repeat (first|refine Zj (by first|assumption|omega|rfl|exact B_pos (by omega)) ?_|refine Zi (by first|assumption|omega|decide|exact B_not (by omega)) ?_|refine Ze (by first|assumption) ?_|dsimp only))
  rw[inner,ZW.l1_eq,Int.toNat_natCast,a1,a2]
  dsimp only[Option.bind_some]
  rw[w64 (x:=At g f (xs.take p)*rd w ((xs.take p).foldl (T g) 0)) (by omega) (by omega),w64 (x:=At g f (xs.take p)*rd w ((xs.take p).foldl (T g) 0)*At g h (xs.drop p)) (by omega) (by omega),hmod,Option.bind_some,l2,l3,wn (j:=i) (by omega)]
  ((with_reducible repeat (first|refine Zj (by first|assumption|omega|rfl|exact B_pos (by omega)) ?_|refine Zi (by first|assumption|omega|decide|exact B_not (by omega)) ?_|refine Ze (by first|assumption) ?_|dsimp only));first|done|(with_reducible rfl)|simp (disch:=omega) only[w64]|(show False;done)))
 simp only[Int.natCast_zero,List.range_zero,List.map_nil]at this
 rw[this,ZW.l0_eq,hCl,Option.bind_some]
 ((with_reducible repeat (first|refine Zj (by first|assumption|omega|rfl|exact B_pos (by omega)) ?_|refine Zi (by first|assumption|omega|decide|exact B_not (by omega)) ?_|refine Ze (by first|assumption) ?_|dsimp only));first|done|(with_reducible rfl)|simp (disch:=omega) only[w64]|(show False;done))
theorem Zf0 {g:List (List Int)} (hg:Grp g) {m:Int} (m2:2≤m) (w f h:List Int) {p q:Nat} (hpq:p+q≤3):Co g m ((p+q:Nat):Int) (cupL g m w f h p q) :=
 ZjP hg m2 hpq fun i=>At g f ((lst ((g.length:Int) - 1) (p+q) (i:Int)).take p)*rd w (((lst ((g.length:Int) - 1) (p+q) (i:Int)).take p).foldl (T g) 0)*At g h ((lst ((g.length:Int) - 1) (p+q) (i:Int)).drop p)
theorem Zge {g:List (List Int)} (hg:Grp g) {m:Int} {u w f h:List Int} {p q:Nat} (hu:Mdl g m u) (hw:Mdl g m w) (hf:Co g m p f) (hh:Co g m q h) (hl:g.length≤maxLen) (hr:∀r∈g,r.length≤maxLen) (hul:u.length≤maxLen) (hwl:w.length≤maxLen) (hfl:f.length≤maxLen) (hhl:h.length≤maxLen) (hpq:p+q≤3) :
  Zt.f g m u m w p f q h=some (((p+q:Nat):Int),cupL g m w f h p q,0):=by
 have wd:wrapI ((p:Int)+(q:Int))=((p+q:Nat):Int):=by rw[w64 (by omega) (by omega)];omega
 have hA:=ZeR g hl hr m u hul m w hwl
 rw[B_pos ⟨hg,hu,hw⟩]at hA
 have hF:=Zci hg m u p f hfl
 rw[B_pos hf]at hF
 have hH:=Zci hg m w q h hhl
 rw[B_pos hh]at hH
 have hT:=told hg hw.m2 hw.m12 (n:=p+q) (by omega) (F:=fun z0=>(ZI.f z0 p f g m w q h).map fun z=>z) (G:=fun i=>At g f ((lst ((g.length:Int) - 1) (p+q) (i:Int)).take p)*rd w (((lst ((g.length:Int) - 1) (p+q) (i:Int)).take p).foldl (T g) 0)*At g h ((lst ((g.length:Int) - 1) (p+q) (i:Int)).drop p)) (fun i hi=>by
  obtain⟨hx,_⟩:=Zb7 hg (n:=p+q) (i:=i) (by omega)
  have hll:=ZbE ((g.length:Int) - 1) (p+q) i
  show Option.map _ (ZI.f _ p f g m w q h)=_
  rw[prod1 hg hw hf hh hx hll]
  rfl)
 rw[Zt.f_eq,hA,wd]
 dsimp only[Option.bind_some]
 rw[hF,hH,hT]
 have hne:¬ ((p+q:Nat):Int) > 3:=by omega
 rw[if_pos rfl]
 dsimp only[Option.bind_some]
 rw[if_pos rfl,if_pos rfl,if_pos rfl,if_neg hne]
 rfl
theorem Zg2 (g:List (List Int)) (m:Int) (u:List Int) (m' : Int) (w:List Int) (p:Int) (f:List Int) (q:Int) (h:List Int) (hl:g.length≤maxLen) (hr:∀r∈g,r.length≤maxLen) (hul:u.length≤maxLen) (hwl:w.length≤maxLen) (hfl:f.length≤maxLen) (hhl:h.length≤maxLen) :
  ∃(a:Int) (R:List Int) (c:Int),Zt.f g m u m' w p f q h=some (a,R,c)∧Za.f g m u m' w p f q h=some (a,R,c)∧R.length≤1048576 ∧
   (c=0→Grp g∧m' = m∧Mdl g m u∧Mdl g m w∧∃P Q:Nat,p=P∧q=Q∧P+Q≤3∧Co g m P f∧Co g m Q h∧a=((P+Q:Nat):Int)∧R=cupL g m w f h P Q):=by
 have hA:=ZeR g hl hr m u hul m' w hwl
 by_cases hg:Grp g
 rotate_left
 ·
  rw[B_neg fun k=>hg k.1]at hA
  refine⟨0,[],1,by rw[Zt.f_eq];((with_reducible repeat (first|refine Zj (by first|assumption|omega|rfl|exact B_pos (by omega)) ?_|refine Zi (by first|assumption|omega|decide|exact B_not (by omega)) ?_|refine Ze (by first|assumption) ?_|dsimp only));first|done|(with_reducible rfl)|simp (disch:=omega) only[w64]|(show False;done)),?_,by simp,fun q=>absurd q (by decide)⟩
  rcases co_codes g hl hr m u hul p f hfl with ⟨k,_⟩|⟨_,cI,cS⟩
  ·
   exact absurd k hg
  rw[Za.f_eq]
  (with_reducible repeat (first|refine Zj (by first|assumption|omega|rfl|exact B_pos (by omega)) ?_|refine Zi (by first|assumption|omega|decide|exact B_not (by omega)) ?_|refine Ze (by first|assumption) ?_|dsimp only))
  rw[Za.j0_eq]
  (with_reducible repeat (first|refine Zj (by first|assumption|omega|rfl|exact B_pos (by omega)) ?_|refine Zi (by first|assumption|omega|decide|exact B_not (by omega)) ?_|refine Ze (by first|assumption) ?_|dsimp only))
  rw[Za.j1_eq]
  ((with_reducible repeat (first|refine Zj (by first|assumption|omega|rfl|exact B_pos (by omega)) ?_|refine Zi (by first|assumption|omega|decide|exact B_not (by omega)) ?_|refine Ze (by first|assumption) ?_|dsimp only));first|done|(with_reducible rfl)|simp (disch:=omega) only[w64]|(show False;done))
 have hF:=Zci hg m u p f hfl
 have hH:=Zci hg m' w q h hhl
 have bad:Zt.f g m u m' w p f q h=some (0,[],1)→Za.f g m u m' w p f q h=some (0,[],1)→∃(a:Int) (R:List Int) (c:Int),Zt.f g m u m' w p f q h=some (a,R,c)∧Za.f g m u m' w p f q h=some (a,R,c)∧R.length≤1048576 ∧
   (c=0→Grp g∧m' = m∧Mdl g m u∧Mdl g m w∧∃P Q:Nat,p=P∧q=Q∧P+Q≤3∧Co g m P f∧Co g m Q h∧a=((P+Q:Nat):Int)∧R=cupL g m w f h P Q):=fun e1 e2=>⟨0,[],1,e1,e2,by simp,fun q=>absurd q (by decide)⟩
 rcases co_codes g hl hr m u hul p f hfl with ⟨_,hu,hf,cI,cS⟩|⟨hn,cI,cS⟩
 rotate_left
 ·
  refine bad ?_ ?_
  ·
   rw[Zt.f_eq]
   by_cases hu:Mdl g m u
   ·
    by_cases hw:Mdl g m' w
    ·
     rw[B_pos ⟨hg,hu,hw⟩]at hA
     rw[B_neg fun k=>hn ⟨hg,hu,k⟩]at hF
     ((with_reducible repeat (first|refine Zj (by first|assumption|omega|rfl|exact B_pos (by omega)) ?_|refine Zi (by first|assumption|omega|decide|exact B_not (by omega)) ?_|refine Ze (by first|assumption) ?_|dsimp only));first|done|(with_reducible rfl)|simp (disch:=omega) only[w64]|(show False;done))
    ·
     rw[B_neg fun k=>hw k.2.2]at hA;((with_reducible repeat (first|refine Zj (by first|assumption|omega|rfl|exact B_pos (by omega)) ?_|refine Zi (by first|assumption|omega|decide|exact B_not (by omega)) ?_|refine Ze (by first|assumption) ?_|dsimp only));first|done|(with_reducible rfl)|simp (disch:=omega) only[w64]|(show False;done))
   ·
    rw[B_neg fun k=>hu k.2.1]at hA;((with_reducible repeat (first|refine Zj (by first|assumption|omega|rfl|exact B_pos (by omega)) ?_|refine Zi (by first|assumption|omega|decide|exact B_not (by omega)) ?_|refine Ze (by first|assumption) ?_|dsimp only));first|done|(with_reducible rfl)|simp (disch:=omega) only[w64]|(show False;done))
  ·
   rw[Za.f_eq]
   (with_reducible repeat (first|refine Zj (by first|assumption|omega|rfl|exact B_pos (by omega)) ?_|refine Zi (by first|assumption|omega|decide|exact B_not (by omega)) ?_|refine Ze (by first|assumption) ?_|dsimp only))
   rw[Za.j0_eq]
   (with_reducible repeat (first|refine Zj (by first|assumption|omega|rfl|exact B_pos (by omega)) ?_|refine Zi (by first|assumption|omega|decide|exact B_not (by omega)) ?_|refine Ze (by first|assumption) ?_|dsimp only))
   rw[Za.j1_eq]
   ((with_reducible repeat (first|refine Zj (by first|assumption|omega|rfl|exact B_pos (by omega)) ?_|refine Zi (by first|assumption|omega|decide|exact B_not (by omega)) ?_|refine Ze (by first|assumption) ?_|dsimp only));first|done|(with_reducible rfl)|simp (disch:=omega) only[w64]|(show False;done))
 rw[B_pos hf]at hF
 rcases co_codes g hl hr m' w hwl q h hhl with ⟨_,hw,hh,dI,dS⟩|⟨hn,dI,dS⟩
 rotate_left
 ·
  refine bad ?_ ?_
  ·
   rw[Zt.f_eq]
   by_cases hw:Mdl g m' w
   ·
    rw[B_pos ⟨hg,hu,hw⟩]at hA
    rw[B_neg fun k=>hn ⟨hg,hw,k⟩]at hH
    ((with_reducible repeat (first|refine Zj (by first|assumption|omega|rfl|exact B_pos (by omega)) ?_|refine Zi (by first|assumption|omega|decide|exact B_not (by omega)) ?_|refine Ze (by first|assumption) ?_|dsimp only));first|done|(with_reducible rfl)|simp (disch:=omega) only[w64]|(show False;done))
   ·
    rw[B_neg fun k=>hw k.2.2]at hA;((with_reducible repeat (first|refine Zj (by first|assumption|omega|rfl|exact B_pos (by omega)) ?_|refine Zi (by first|assumption|omega|decide|exact B_not (by omega)) ?_|refine Ze (by first|assumption) ?_|dsimp only));first|done|(with_reducible rfl)|simp (disch:=omega) only[w64]|(show False;done))
  ·
   rw[Za.f_eq]
   (with_reducible repeat (first|refine Zj (by first|assumption|omega|rfl|exact B_pos (by omega)) ?_|refine Zi (by first|assumption|omega|decide|exact B_not (by omega)) ?_|refine Ze (by first|assumption) ?_|dsimp only))
   rw[Za.j0_eq]
   (with_reducible repeat (first|refine Zj (by first|assumption|omega|rfl|exact B_pos (by omega)) ?_|refine Zi (by first|assumption|omega|decide|exact B_not (by omega)) ?_|refine Ze (by first|assumption) ?_|dsimp only))
   rw[Za.j1_eq]
   ((with_reducible repeat (first|refine Zj (by first|assumption|omega|rfl|exact B_pos (by omega)) ?_|refine Zi (by first|assumption|omega|decide|exact B_not (by omega)) ?_|refine Ze (by first|assumption) ?_|dsimp only));first|done|(with_reducible rfl)|simp (disch:=omega) only[w64]|(show False;done))
 rw[B_pos hh]at hH
 rw[B_pos ⟨hg,hu,hw⟩]at hA
 have bad2:Zt.f g m u m' w p f q h=some (0,[],2)→Za.f g m u m' w p f q h=some (0,[],2)→∃(a:Int) (R:List Int) (c:Int),Zt.f g m u m' w p f q h=some (a,R,c)∧Za.f g m u m' w p f q h=some (a,R,c)∧R.length≤1048576 ∧
   (c=0→Grp g∧m' = m∧Mdl g m u∧Mdl g m w∧∃P Q:Nat,p=P∧q=Q∧P+Q≤3∧Co g m P f∧Co g m Q h∧a=((P+Q:Nat):Int)∧R=cupL g m w f h P Q):=fun e1 e2=>⟨0,[],2,e1,e2,by simp,fun q=>absurd q (by decide)⟩
 by_cases hm:m=m'
 rotate_left
 ·
  refine bad2 ?_ ?_
  ·
   rw[Zt.f_eq];((with_reducible repeat (first|refine Zj (by first|assumption|omega|rfl|exact B_pos (by omega)) ?_|refine Zi (by first|assumption|omega|decide|exact B_not (by omega)) ?_|refine Ze (by first|assumption) ?_|dsimp only));first|done|(with_reducible rfl)|simp (disch:=omega) only[w64]|(show False;done))
  ·
   rw[Za.f_eq]
   (with_reducible repeat (first|refine Zj (by first|assumption|omega|rfl|exact B_pos (by omega)) ?_|refine Zi (by first|assumption|omega|decide|exact B_not (by omega)) ?_|refine Ze (by first|assumption) ?_|dsimp only))
   rw[Za.j0_eq]
   (with_reducible repeat (first|refine Zj (by first|assumption|omega|rfl|exact B_pos (by omega)) ?_|refine Zi (by first|assumption|omega|decide|exact B_not (by omega)) ?_|refine Ze (by first|assumption) ?_|dsimp only))
   rw[Za.j1_eq]
   ((with_reducible repeat (first|refine Zj (by first|assumption|omega|rfl|exact B_pos (by omega)) ?_|refine Zi (by first|assumption|omega|decide|exact B_not (by omega)) ?_|refine Ze (by first|assumption) ?_|dsimp only));first|done|(with_reducible rfl)|simp (disch:=omega) only[w64]|(show False;done))
 subst hm
 obtain⟨P,rfl⟩:=Int.eq_ofNat_of_zero_le hf.1.1
 obtain⟨Q,rfl⟩:=Int.eq_ofNat_of_zero_le hh.1.1
 have hp:=hf.1.2;have hq:=hh.1.2
 have wd:wrapI ((P:Int)+(Q:Int))=((P+Q:Nat):Int):=by rw[w64 (by omega) (by omega)];omega
 by_cases hpq:P+Q≤3
 rotate_left
 ·
  have hgt:((P+Q:Nat):Int) > 3:=by omega
  refine bad2 ?_ ?_
  ·
   rw[Zt.f_eq,wd];((with_reducible repeat (first|refine Zj (by first|assumption|omega|rfl|exact B_pos (by omega)) ?_|refine Zi (by first|assumption|omega|decide|exact B_not (by omega)) ?_|refine Ze (by first|assumption) ?_|dsimp only));first|done|(with_reducible rfl)|simp (disch:=omega) only[w64]|(show False;done))
  ·
   rw[Za.f_eq]
   (with_reducible repeat (first|refine Zj (by first|assumption|omega|rfl|exact B_pos (by omega)) ?_|refine Zi (by first|assumption|omega|decide|exact B_not (by omega)) ?_|refine Ze (by first|assumption) ?_|dsimp only))
   rw[Za.j0_eq,wd]
   (with_reducible repeat (first|refine Zj (by first|assumption|omega|rfl|exact B_pos (by omega)) ?_|refine Zi (by first|assumption|omega|decide|exact B_not (by omega)) ?_|refine Ze (by first|assumption) ?_|dsimp only))
   rw[Za.j1_eq]
   ((with_reducible repeat (first|refine Zj (by first|assumption|omega|rfl|exact B_pos (by omega)) ?_|refine Zi (by first|assumption|omega|decide|exact B_not (by omega)) ?_|refine Ze (by first|assumption) ?_|dsimp only));first|done|(with_reducible rfl)|simp (disch:=omega) only[w64]|(show False;done))
 have hng:¬ ((P+Q:Nat):Int) > 3:=by omega
 have hb:=ZbA hg (d:=((P+Q:Nat):Int)) (by omega)
 have hco:=Zf0 hg hw.m2 w f h hpq
 have hT:=times03 hg hw hf hh hpq
 refine⟨_,_,0,Zge hg hu hw hf hh hl hr hul hwl hfl hhl hpq,?_,by have:=hco.2.1;omega,fun _=>⟨hg,rfl,hu,hw,P,Q,rfl,rfl,hpq,hf,hh,rfl,rfl⟩⟩
 rw[Za.f_eq]
 (with_reducible repeat (first|refine Zj (by first|assumption|omega|rfl|exact B_pos (by omega)) ?_|refine Zi (by first|assumption|omega|decide|exact B_not (by omega)) ?_|refine Ze (by first|assumption) ?_|dsimp only))
 rw[Za.j0_eq,wd]
 (with_reducible repeat (first|refine Zj (by first|assumption|omega|rfl|exact B_pos (by omega)) ?_|refine Zi (by first|assumption|omega|decide|exact B_not (by omega)) ?_|refine Ze (by first|assumption) ?_|dsimp only))
 rw[Za.j1_eq]
 ((with_reducible repeat (first|refine Zj (by first|assumption|omega|rfl|exact B_pos (by omega)) ?_|refine Zi (by first|assumption|omega|decide|exact B_not (by omega)) ?_|refine Ze (by first|assumption) ?_|dsimp only));first|done|(with_reducible rfl)|simp (disch:=omega) only[w64]|(show False;done))
end Go.Proofs.YtoljodiflhbohaaGreatDoor.V
set_option maxHeartbeats 2000000
namespace Go.Proofs.YtoljodiflhbohaaGreatDoor.V
open Go.RowKit Go.Proofs.YtoljodiflhbohaaGreatDoor.D Go.Proofs.YtoljodiflhbohaaGreatDoor.P
noncomputable def ext (g:List (List Int)) (m:Int) (u v:List Int) (p q:Int):Int:=m*T g (p / m) (q / m)+(p%m+rd u (p / m)*(q%m)+At g v [p / m,q / m])%m
theorem parts {n m p:Int} (hm:0 < m) (h0:0≤p) (h1:p < n*m):0≤p / m∧p / m < n∧0≤p%m∧p%m < m :=
 ⟨Int.ediv_nonneg h0 (by omega),Int.ediv_lt_of_lt_mul hm h1,Int.emod_nonneg _ (by omega),Int.emod_lt_of_pos _ hm⟩
end Go.Proofs.YtoljodiflhbohaaGreatDoor.V
namespace Go.Proofs.YtoljodiflhbohaaGreatDoor.V
open Go.RowKit Go.Proofs.YtoljodiflhbohaaGreatDoor.D Go.Proofs.YtoljodiflhbohaaGreatDoor.P
structure Sq (e:List (List Int)) (N:Nat):Prop where
 len:e.length=N
 row:∀a:Int,0≤a→a < N→(row e a).length=N
 ent:∀a b:Int,0≤a→a < N→0≤b→b < N→0≤T e a b∧T e a b < N
theorem Sq.times2 {e:List (List Int)} {N:Nat} (h:Sq e N) (one:∀a:Int,0≤a→a < N→T e 0 a=a) {x y:Int} (x0:0≤x) (x1:x < N) (y0:0≤y) (y1:y < N):Zl.f e [x,y]=some (T e x y):=by
 have hl:=h.len
 have h1:=one x x0 x1
 have r0:=h.row 0 (by omega) (by omega)
 have rx:=h.row x x0 x1
 have q0:rd [x,y] 0=x:=rfl
 have q1:rd [x,y] 1=y:=rfl
 have w1:wrapI (0+1)=1:=w64 (by omega) (by omega)
 have w2:wrapI (1+1)=2:=w64 (by omega) (by omega)
 have ll:(([x,y]:List Int).length:Int)=2:=rfl
 rw[Zl.f_eq,ll,Zl.l0_eq,ll,q0,w1,h1]
 (with_reducible repeat (first|refine Zj (by first|assumption|omega|rfl|exact B_pos (by omega)) ?_|refine Zi (by first|assumption|omega|decide|exact B_not (by omega)) ?_|refine Ze (by first|assumption) ?_|dsimp only))
 rw[Zl.l0_eq,ll,q1,w2]
 (with_reducible repeat (first|refine Zj (by first|assumption|omega|rfl|exact B_pos (by omega)) ?_|refine Zi (by first|assumption|omega|decide|exact B_not (by omega)) ?_|refine Ze (by first|assumption) ?_|dsimp only))
 rw[Zl.l0_eq]
 ((with_reducible repeat (first|refine Zj (by first|assumption|omega|rfl|exact B_pos (by omega)) ?_|refine Zi (by first|assumption|omega|decide|exact B_not (by omega)) ?_|refine Ze (by first|assumption) ?_|dsimp only));first|done|(with_reducible rfl)|simp (disch:=omega) only[w64]|(show False;done))
theorem php:∀(N:Nat) (f:Nat→Nat),(∀i,i≤N→f i < N)→∃i j,i < j∧j≤N∧f i=f j:=by
 intro N
 induction N with
 | zero=>intro f h;exact absurd (h 0 (Nat.le_refl 0)) (by omega)
 | succ N ih =>
  intro f h
  by_cases hv:∃i,i≤N∧f i=f (N+1)
  ·
   obtain⟨i,hi,e⟩:=hv
   exact⟨i,N+1,by omega,Nat.le_refl _,e⟩
  ·
   have hne:∀i,i≤N→f i≠f (N+1):=fun i hi e=>hv ⟨i,hi,e⟩
   have hN:=h (N+1) (Nat.le_refl _)
   obtain⟨i,j,hij,hj,e⟩:=ih (fun i=>if f i > f (N+1)then f i - 1 else f i) (fun i hi=>by
    have h1:=h i (by omega)
    have h2:=hne i hi
    split <;> omega)
   refine⟨i,j,hij,by omega,?_⟩
   have h1:=hne i (by omega)
   have h2:=hne j (by omega)
   split at e <;> split at e <;> omega
def seq (f:Int→Int) (x:Int):Nat→Int
 | 0=>x
 | n+1=>f (seq f x n)
theorem ZeC {f:Int→Int} {N:Nat} (hf:∀x:Int,0≤x→x < N→0≤f x∧f x < N) {x:Int} (h0:0≤x) (h1:x < N):∀n,0≤seq f x n∧seq f x n < N
 | 0=>⟨h0,h1⟩
 | n+1=>hf _ (ZeC hf h0 h1 n).1 (ZeC hf h0 h1 n).2
theorem Zid {f:Int→Int} {N:Nat} (hf:∀x:Int,0≤x→x < N→0≤f x∧f x < N) (hi:∀x y:Int,0≤x→x < N→0≤y→y < N→f x=f y→x=y) {x:Int} (h0:0≤x) (h1:x < N) :
  ∃k,k≤N∧1≤k∧seq f x k=x∧∀j,1≤j→j < k→seq f x j≠x:=by
 obtain⟨i,j,hij,hj,e⟩:=php N (fun n=>(seq f x n).toNat) (fun i _=>by have:=ZeC hf h0 h1 i;omega)
 have back:∀i j,i < j→seq f x i=seq f x j→seq f x (j - i)=x:=by
  intro i
  induction i with
  | zero=>intro j _ e;simpa [seq] using e.symm
  | succ i ih =>
   intro j hj e
   obtain⟨j,rfl⟩:∃m,j=m+1:=⟨j - 1,by omega⟩
   have a:=ZeC hf h0 h1 i
   have b:=ZeC hf h0 h1 j
   have:=ih j (by omega) (hi _ _ a.1 a.2 b.1 b.2 e)
   rwa[show j+1 - (i+1)=j - i by omega]
 have a:=ZeC hf h0 h1 i
 have b:=ZeC hf h0 h1 j
 have e' : seq f x i=seq f x j:=by omega
 have hk:=back i j hij e'
 have least:∀d,1≤d→seq f x d=x→∃k,k≤d∧1≤k∧seq f x k=x∧∀j,1≤j→j < k→seq f x j≠x:=by
  intro d
  induction d using Nat.strongRecOn with
  | _ d ih =>
   intro d1 hd
   by_cases h:∃j,1≤j∧j < d∧seq f x j=x
   ·
    obtain⟨j,j1,j2,j3⟩:=h
    obtain⟨k,k1,k2⟩:=ih j j2 j1 j3
    exact⟨k,by omega,k2⟩
   ·
    exact⟨d,Nat.le_refl _,d1,hd,fun j j1 j2 j3=>h ⟨j,j1,j2,j3⟩⟩
 obtain⟨k,k1,k2⟩:=least (j - i) (by omega) hk
 exact⟨k,by omega,k2⟩
theorem Grp.cancel_right {g:List (List Int)} (hg:Grp g) {a b c:Int} (a0:0≤a) (a1:a < g.length) (b0:0≤b) (b1:b < g.length) (c0:0≤c) (c1:c < g.length) (h:T g a c=T g b c):a=b:=by
 obtain⟨d,d0,d1,hd⟩:=hg.inv c c0 c1
 have e1:=hg.assoc a c d a0 a1 c0 c1 d0 d1
 have e2:=hg.assoc b c d b0 b1 c0 c1 d0 d1
 rw[hd,hg.one' a a0 a1]at e1
 rw[hd,hg.one' b b0 b1]at e2
 rw[←e1,←e2,h]
end Go.Proofs.YtoljodiflhbohaaGreatDoor.V
namespace Go.Proofs.YtoljodiflhbohaaGreatDoor.V
open Go.RowKit Go.Proofs.YtoljodiflhbohaaGreatDoor.D Go.Proofs.YtoljodiflhbohaaGreatDoor.P
def pw (g:List (List Int)) (z:Int) (k:Nat):Int:=seq (fun q=>T g q z) 0 k
theorem ZjD (g:List (List Int)) (z:Int) (k:Nat):pw g z (k+1)=T g (pw g z k) z:=rfl
structure Ord (g:List (List Int)) (z:Int) (K:Nat):Prop where
 pos:1≤K
 le:K≤g.length
 zero:pw g z K=0
 ne:∀j,1≤j→j < K→pw g z j≠0
theorem pw_in {g:List (List Int)} (hg:Grp g) {z:Int} (z0:0≤z) (z1:z < g.length) (k:Nat):0≤pw g z k∧pw g z k < g.length:=by
 have n1:=hg.n1
 exact ZeC (f:=fun q=>T g q z) (N:=g.length) (fun x x0 x1=>hg.ent x z x0 x1 z0 z1) (by omega) (by omega) k
theorem ord_ {g:List (List Int)} (hg:Grp g) {z:Int} (z0:0≤z) (z1:z < g.length):∃K,Ord g z K:=by
 have n1:=hg.n1
 obtain⟨k,k1,k2,k3,k4⟩:=Zid (f:=fun q=>T g q z) (N:=g.length) (fun x x0 x1=>hg.ent x z x0 x1 z0 z1) (fun x y x0 x1 y0 y1 e=>hg.cancel_right x0 x1 y0 y1 z0 z1 e) (x:=0) (by omega) (by omega)
 exact⟨k,k2,k1,k3,k4⟩
theorem ZkI {g:List (List Int)} (hg:Grp g) {z:Int} (z0:0≤z) (z1:z < g.length):pw g z 1=z:=hg.one z z0 z1
theorem ZjC {g:List (List Int)} (hg:Grp g) {z:Int} (z0:0≤z) (z1:z < g.length):∀i j,i < j→pw g z i=pw g z j→pw g z (j - i)=0:=by
 intro i
 induction i with
 | zero=>intro j _ e;rw[Nat.sub_zero,←e];rfl
 | succ i ih =>
  intro j hj e
  obtain⟨j,rfl⟩:∃m,j=m+1:=⟨j - 1,by omega⟩
  have a:=pw_in hg z0 z1 i
  have b:=pw_in hg z0 z1 j
  rw[show j+1 - (i+1)=j - i by omega]
  exact ih j (by omega) (hg.cancel_right a.1 a.2 b.1 b.2 z0 z1 e)
theorem Ord.inj {g:List (List Int)} (hg:Grp g) {z:Int} (z0:0≤z) (z1:z < g.length) {K:Nat} (h:Ord g z K) {i j:Nat} (hi:i < K) (hj:j < K) (e:pw g z i=pw g z j):i=j:=by
 rcases Nat.lt_trichotomy i j with q|q|q
 ·
  exact absurd (ZjC hg z0 z1 i j q e) (h.ne _ (by omega) (by omega))
 ·
  exact q
 ·
  exact absurd (ZjC hg z0 z1 j i q e.symm) (h.ne _ (by omega) (by omega))
theorem Ord.add {g:List (List Int)} {z:Int} {K:Nat} (h:Ord g z K):∀i,pw g z (K+i)=pw g z i:=by
 intro i
 induction i with
 | zero=>rw[Nat.add_zero,h.zero];rfl
 | succ i ih=>rw[←Nat.add_assoc,ZjD,ih,ZjD]
theorem Zki {g:List (List Int)} (hg:Grp g) {z:Int} (z0:0≤z) (z1:z < g.length) {K:Nat} (h:Ord g z K):ZK.f g z=some (K:Int):=by
 have n8:=hg.n8;have hK:=h.le;have hp:=h.pos
 have H:∀d j:Nat,1≤j→j+d=K→ZK.l0 z (j:Int) (pw g z j) g=some (K:Int):=by
  intro d
  induction d with
  | zero =>
   intro j j1 hj
   obtain rfl:j=K:=by omega
   rw[h.zero,ZK.l0_eq,if_pos rfl]
  | succ d ih =>
   intro j j1 hj
   have hz:=h.ne j j1 (by omega)
   obtain⟨s0,s1⟩:=pw_in hg z0 z1 j
   have ht:=times2 hg s0 s1 z0 z1
   have i1:=ih (j+1) (by omega) (by omega)
   rw[ZK.l0_eq,if_neg hz,ht,Option.bind_some,wn (j:=j) (by omega)]
   exact i1
 have:=H (K - 1) 1 (by omega) (by omega)
 rw[ZkI hg z0 z1]at this
 rw[ZK.f_eq]
 exact this
end Go.Proofs.YtoljodiflhbohaaGreatDoor.V
set_option maxHeartbeats 4000000
namespace Go.Proofs.YtoljodiflhbohaaGreatDoor.V
open Go.RowKit Go.Proofs.YtoljodiflhbohaaGreatDoor.D Go.Proofs.YtoljodiflhbohaaGreatDoor.P
theorem Zgt {g:List (List Int)} (hg:Grp g) {m:Int} (m2:2≤m) (u v:List Int) {n:Nat} (hn:n+1≤3):Co g m ((n+1:Nat):Int) (bdL g m u v n):=ZjP hg m2 hn (bdV g u v n)
theorem ZcD {g:List (List Int)} (hg:Grp g) {m:Int} {u v:List Int} (hm:Mdl g m u) {n:Nat} (hc:Co g m n v) (hn:n+1≤3) (hl:g.length≤maxLen) (hr:∀r∈g,r.length≤maxLen) (hu:u.length≤maxLen) (hv:v.length≤maxLen) :
  ZaC.f g m u n v=some (((n+1:Nat):Int),bdL g m u v n,0):=by
 rcases co_codes g hl hr m u hu n v hv with ⟨_,_,_,cI,cS⟩|⟨k,_⟩
 rotate_left
 ·
  exact absurd ⟨hg,hm,hc⟩ k
 have hB:=Zgw hg hm hc
 have h3:¬ (n:Int)=3:=by omega
 rw[ZaC.f_eq]
 ((with_reducible repeat (first|refine Zj (by first|assumption|omega|rfl|exact B_pos (by omega)) ?_|refine Zi (by first|assumption|omega|decide|exact B_not (by omega)) ?_|refine Ze (by first|assumption) ?_|dsimp only));first|done|(with_reducible rfl)|simp (disch:=omega) only[w64]|(show False;done))
theorem Zlq {g:List (List Int)} (hg:Grp g) {m:Int} {u v w:List Int} (hm:Mdl g m u) {n:Nat} (hc:Co g m n v) (hw:Co g m n w) (hl:g.length≤maxLen) (hr:∀r∈g,r.length≤maxLen) (hu:u.length≤maxLen) (hv:v.length≤maxLen) (hwl:w.length≤maxLen) {c:Int} (c0 : -1000≤c) (c1:c≤1000) :
  ZaE.f g m u n v n w c=some ((n:Int),addL m v w c,0):=by
 rcases co_codes2 g hl hr m u hu n v hv n w hwl with ⟨_,_,_,_,cI,cS⟩|⟨k,_⟩
 rotate_left
 ·
  exact absurd ⟨hg,hm,hc,hw⟩ k
 have hb:=ZbA hg (d:=(n:Int)) (by have:=hc.1;omega)
 have hA:=Zls hm.m2 hm.m12 (n:Int) (n:Int) (by have h1:=hc.2.1;have h2:=hw.2.1;omega) hc.2.2 hw.2.2 (by have h1:=hc.2.1;omega) c0 c1
 have n0:¬ c < (-1000):=by omega
 have n1:¬ c > 1000:=by omega
 rw[ZaE.f_eq]
 ((with_reducible repeat (first|refine Zj (by first|assumption|omega|rfl|exact B_pos (by omega)) ?_|refine Zi (by first|assumption|omega|decide|exact B_not (by omega)) ?_|refine Ze (by first|assumption) ?_|dsimp only));first|done|(with_reducible rfl)|simp (disch:=omega) only[w64]|(show False;done))
theorem Zj0 (g:List (List Int)) (m:Int) (u:List Int) (hu:u.length≤maxLen):ZJ.f g m u []=some (ite_ (GM g m u) 0 1):=by
 have hS:=Is_ g
 have stS:ZJ.l0 [] 0 g m u=some 0:=by rw[ZJ.l0_eq];exact if_neg (by simp)
 rw[ZJ.f_eq]
 by_cases h1:Grp g
 rotate_left
 ·
  rw[B_neg h1]at hS
  rw[ZbN fun k=>h1 k.1]
  ((with_reducible repeat (first|refine Zj (by first|assumption|omega|rfl|exact B_pos (by omega)) ?_|refine Zi (by first|assumption|omega|decide|exact B_not (by omega)) ?_|refine Ze (by first|assumption) ?_|dsimp only));first|done|(with_reducible rfl)|simp (disch:=omega) only[w64]|(show False;done))
 have hM:=Is02 h1 m u hu
 rw[B_pos h1]at hS
 by_cases h2:Mdl g m u
 ·
  rw[B_pos h2]at hM
  rw[ZbK ⟨h1,h2⟩]
  (with_reducible repeat (first|refine Zj (by first|assumption|omega|rfl|exact B_pos (by omega)) ?_|refine Zi (by first|assumption|omega|decide|exact B_not (by omega)) ?_|refine Ze (by first|assumption) ?_|dsimp only))
  exact stS
 ·
  rw[B_neg h2]at hM
  rw[ZbN fun k=>h2 k.2]
  ((with_reducible repeat (first|refine Zj (by first|assumption|omega|rfl|exact B_pos (by omega)) ?_|refine Zi (by first|assumption|omega|decide|exact B_not (by omega)) ?_|refine Ze (by first|assumption) ?_|dsimp only));first|done|(with_reducible rfl)|simp (disch:=omega) only[w64]|(show False;done))
theorem zero03 {g:List (List Int)} (hg:Grp g) {d:Int} (d0:0≤d) (d3:d≤3):Za8.f g d=some (d,List.replicate (cells g d).toNat 0):=by
 have hb:=ZbA hg (d:=d) (by omega)
 have hc:=Zft hg d0 (by omega:d≤4)
 rw[Za8.f_eq]
 ((with_reducible repeat (first|refine Zj (by first|assumption|omega|rfl|exact B_pos (by omega)) ?_|refine Zi (by first|assumption|omega|decide|exact B_not (by omega)) ?_|refine Ze (by first|assumption) ?_|dsimp only));first|done|(with_reducible rfl)|simp (disch:=omega) only[w64]|(show False;done))
theorem ZjV {g:List (List Int)} (hg:Grp g) {m:Int} (m2:2≤m) {d:Int} (d0:0≤d) (d3:d≤3):Co g m d (List.replicate (cells g d).toNat 0):=by
 have hb:=ZbA hg (d:=d) (by omega)
 refine⟨⟨d0,d3⟩,by rw[List.length_replicate];omega,ZbU fun x hx => ?_⟩
 rw[List.eq_of_mem_replicate hx]
 omega
theorem ZjJ (g:List (List Int)) (m:Int) (u:List Int) (d:Int) (hl:g.length≤maxLen) (hr:∀r∈g,r.length≤maxLen) (hu:u.length≤maxLen) :
  ∃(a:Int) (R:List Int) (c:Int),Zay.f g m u d=some (a,R,c)∧ZP.f g m u d=some (a,R,c)∧R.length≤1048576:=by
 have hA:=Zc0 g hl hr m u hu
 have hC:=Zj0 g m u hu
 have hD:=ZeK d
 have hI:=In_ d 0 3
 by_cases h:GM g m u
 rotate_left
 ·
  rw[B_neg h]at hA
  rw[ZbN h]at hC
  refine⟨0,[],1,?_,?_,by simp⟩
  ·
   have e:ZaD.f g m u d=some 1:=by rw[ZaD.f_eq];((with_reducible repeat (first|refine Zj (by first|assumption|omega|rfl|exact B_pos (by omega)) ?_|refine Zi (by first|assumption|omega|decide|exact B_not (by omega)) ?_|refine Ze (by first|assumption) ?_|dsimp only));first|done|(with_reducible rfl)|simp (disch:=omega) only[w64]|(show False;done))
   rw[Zay.f_eq];((with_reducible repeat (first|refine Zj (by first|assumption|omega|rfl|exact B_pos (by omega)) ?_|refine Zi (by first|assumption|omega|decide|exact B_not (by omega)) ?_|refine Ze (by first|assumption) ?_|dsimp only));first|done|(with_reducible rfl)|simp (disch:=omega) only[w64]|(show False;done))
  ·
   rw[ZP.f_eq,hC]
   dsimp only[Option.bind_some]
   rw[if_neg (by decide),ZP.j0_eq,if_neg (by decide)]
 rw[B_pos h]at hA
 rw[ZbK h]at hC
 by_cases hd:0≤d∧d≤3
 rotate_left
 ·
  rw[B_neg hd]at hD hI
  refine⟨0,[],2,?_,?_,by simp⟩
  ·
   have e:ZaD.f g m u d=some 2:=by rw[ZaD.f_eq];((with_reducible repeat (first|refine Zj (by first|assumption|omega|rfl|exact B_pos (by omega)) ?_|refine Zi (by first|assumption|omega|decide|exact B_not (by omega)) ?_|refine Ze (by first|assumption) ?_|dsimp only));first|done|(with_reducible rfl)|simp (disch:=omega) only[w64]|(show False;done))
   rw[Zay.f_eq];((with_reducible repeat (first|refine Zj (by first|assumption|omega|rfl|exact B_pos (by omega)) ?_|refine Zi (by first|assumption|omega|decide|exact B_not (by omega)) ?_|refine Ze (by first|assumption) ?_|dsimp only));first|done|(with_reducible rfl)|simp (disch:=omega) only[w64]|(show False;done))
  ·
   rw[ZP.f_eq,hC]
   dsimp only[Option.bind_some]
   rw[if_pos rfl,hI]
   dsimp only[Option.bind_some]
   rw[if_neg (by decide),ZP.j0_eq,if_neg (by decide)]
 rw[B_pos hd]at hD hI
 obtain⟨n,rfl⟩:=Int.eq_ofNat_of_zero_le hd.1
 have hb:=ZbA h.1 (d:=(n:Int)) (by omega)
 have z1:=zero_ h.1 (n:=n) (by omega)
 have z2:=zero03 h.1 hd.1 hd.2
 refine⟨(n:Int),List.replicate (cells g (n:Int)).toNat 0,0,?_,?_,by rw[List.length_replicate];omega⟩
 ·
  have e:ZaD.f g m u (n:Int)=some 0:=by rw[ZaD.f_eq];((with_reducible repeat (first|refine Zj (by first|assumption|omega|rfl|exact B_pos (by omega)) ?_|refine Zi (by first|assumption|omega|decide|exact B_not (by omega)) ?_|refine Ze (by first|assumption) ?_|dsimp only));first|done|(with_reducible rfl)|simp (disch:=omega) only[w64]|(show False;done))
  rw[Zay.f_eq];((with_reducible repeat (first|refine Zj (by first|assumption|omega|rfl|exact B_pos (by omega)) ?_|refine Zi (by first|assumption|omega|decide|exact B_not (by omega)) ?_|refine Ze (by first|assumption) ?_|dsimp only));first|done|(with_reducible rfl)|simp (disch:=omega) only[w64]|(show False;done))
 ·
  rw[ZP.f_eq]
  (with_reducible repeat (first|refine Zj (by first|assumption|omega|rfl|exact B_pos (by omega)) ?_|refine Zi (by first|assumption|omega|decide|exact B_not (by omega)) ?_|refine Ze (by first|assumption) ?_|dsimp only))
  rw[ZP.j0_eq]
  ((with_reducible repeat (first|refine Zj (by first|assumption|omega|rfl|exact B_pos (by omega)) ?_|refine Zi (by first|assumption|omega|decide|exact B_not (by omega)) ?_|refine Ze (by first|assumption) ?_|dsimp only));first|done|(with_reducible rfl)|simp (disch:=omega) only[w64]|(show False;done))
theorem Boundary03 {g:List (List Int)} (hg:Grp g) {m:Int} {u v:List Int} (hm:Mdl g m u) {n:Nat} (hc:Co g m n v) :
  Z4.f g m u n v=some (((n+1:Nat):Int),bdL g m u v n):=by
 have m2:=hm.m2;have m12:=hm.m12;have n8:=hg.n8
 have hn:=hc.1.2
 have hb:=ZbA hg (d:=((n+1:Nat):Int)) (by omega)
 have hCl:=Zft hg (d:=((n+1:Nat):Int)) (by omega) (by omega)
 obtain⟨G,hG⟩:∃G:Nat→Int,∀i:Nat,G i=Bd g u v (lst ((g.length:Int) - 1) (n+1) (i:Int)) n%m:=⟨_,fun _=>rfl⟩
 have hL:bdL g m u v n=(List.range (cells g ((n+1:Nat):Int)).toNat).map G:=List.map_congr_left fun i _=>(hG i).symm
 rw[hL,Z4.f_eq,wn (j:=n) (by omega)]
 have:=up (cells g ((n+1:Nat):Int)).toNat (fun i=>Z4.l0 ((n+1:Nat):Int) (i:Int) g m u n v 0 ((n+1:Nat):Int) ((List.range i).map G)) (fun i hi=>by
  obtain⟨hx,_⟩:=Zb7 hg (n:=n+1) (i:=i) (by omega)
  have hll:=ZbE ((g.length:Int) - 1) (n+1) i
  have hLi:=(Zdl hg (n:=n+1) (i:=i) (by omega) (by omega)).2
  have hS:=Side_ hg hm hc hx hll
  rw[←hG i]at hS
  have l2:((List.range i).map G).length=i:=by rw[List.length_map,List.length_range]
  have l3:∀y:Int,([y]:List Int).length=1:=fun _=>rfl
  rw[List.range_succ,List.map_append,List.map_singleton,Z4.l0_eq,hCl,Option.bind_some,wn (j:=i) (by omega),l2]
  (with_reducible repeat (first|refine Zj (by first|assumption|omega|rfl|exact B_pos (by omega)) ?_|refine Zi (by first|assumption|omega|decide|exact B_not (by omega)) ?_|refine Ze (by first|assumption) ?_|dsimp only))
  rw[l3]
  ((with_reducible repeat (first|refine Zj (by first|assumption|omega|rfl|exact B_pos (by omega)) ?_|refine Zi (by first|assumption|omega|decide|exact B_not (by omega)) ?_|refine Ze (by first|assumption) ?_|dsimp only));first|done|(with_reducible rfl)|simp (disch:=omega) only[w64]|(show False;done)))
 simp only[Int.natCast_zero,List.range_zero,List.map_nil]at this
 rw[this,Z4.l0_eq,hCl,Option.bind_some]
 ((with_reducible repeat (first|refine Zj (by first|assumption|omega|rfl|exact B_pos (by omega)) ?_|refine Zi (by first|assumption|omega|decide|exact B_not (by omega)) ?_|refine Ze (by first|assumption) ?_|dsimp only));first|done|(with_reducible rfl)|simp (disch:=omega) only[w64]|(show False;done))
theorem ZjA {g:List (List Int)} (hg:Grp g) {x b:Int} (x0:0≤x) (x1:x < g.length) (b0:0≤b) (b1:b < g.length) (hi:ZS.f g x=some b) (hl:g.length≤maxLen) (hr:∀r∈g,r.length≤maxLen) :
  Zbi.f g x (-1)=some (b,0):=by
 have hG:=Ze1 g hl hr
 rw[B_pos hg]at hG
 have hA:=areIn (g.length:Int) [x] (Zbu (by simp))
 rw[B_pos (ZbR x0 x1)]at hA
 have n8:=hg.n8
 obtain⟨K,hK⟩:=ord_ hg b0 b1
 have hO:=Zki hg b0 b1 hK
 have hp:=hK.pos;have hKl:=hK.le
 have ht:=times2 hg (x:=0) (by omega) (by omega) b0 b1
 rw[hg.one b b0 b1]at ht
 have e1:wrapI (0 - -1)=1:=w64 (by omega) (by omega)
 have w1:wrapI (0+1)=1:=w64 (by omega) (by omega)
 have hj:ZE.j0 b 1 g=some b:=by
  rw[ZE.j0_eq,hO,Option.bind_some,if_neg (by omega)]
  by_cases hk:K=1
  ·
   subst hk
   have hz:=hK.zero
   rw[ZkI hg b0 b1]at hz
   subst hz
   have:Int.tmod 1 ((1:Nat):Int)=0:=rfl
   rw[this,ZE.l1_eq,if_neg (by omega)]
  ·
   have:Int.tmod 1 (K:Int)=1:=Int.tmod_eq_of_lt (by omega) (by omega)
   rw[this,ZE.l1_eq,if_pos (by omega),ht,Option.bind_some,w1,ZE.l1_eq,if_neg (by omega)]
 have hP:ZE.f g x (-1)=some b:=by
  rw[ZE.f_eq,if_pos (by decide),hi,Option.bind_some,e1,hj]
 have hE:ZaA.f g [x]=some 0:=by
  rw[ZaA.f_eq,hG,Option.bind_some,if_pos rfl,ZX.f_eq,Option.bind_some,hA,Option.bind_some,if_pos rfl]
 rw[Zbi.f_eq,hE,Option.bind_some,if_pos rfl,if_neg (by decide),if_neg (by decide),hP]
 rfl
end Go.Proofs.YtoljodiflhbohaaGreatDoor.V
namespace Go.Proofs.YtoljodiflhbohaaGreatDoor.V
open Go.RowKit Go.Proofs.YtoljodiflhbohaaGreatDoor.D Go.Proofs.YtoljodiflhbohaaGreatDoor.P
theorem likeI (xs:List Int) (hl:xs.length≤1048576):Zap.f xs xs=some true:=by
 have main:=up xs.length (fun k=>Zap.l0 xs xs (k:Int)) (fun k hk=>by
  rw[Zap.l0_eq,if_pos (by omega),if_pos (by omega),if_pos (by omega),if_pos (by omega),if_pos (by omega),if_pos rfl,wn (j:=k) (by omega)])
 simp only[Int.natCast_zero]at main
 rw[Zap.f_eq,if_pos rfl,main,Zap.l0_eq,if_neg (by omega)]
theorem likeC (d:Int) (xs:List Int) (hl:xs.length≤1048576):Zax.f d xs d xs=some true:=by
 rw[Zax.f_eq,if_pos rfl,likeI xs hl]
 rfl
theorem likeM (d:Int) (xs:List Int) (hl:xs.length≤1048576):Zbe.f d xs d xs=some true:=by
 rw[Zbe.f_eq,if_pos rfl,likeI xs hl]
 rfl
theorem Ziv:((List.range 13).all fun m=>(List.range m).all fun a=>(List.range m).all fun b=>decide (m < 2∨Nat.gcd a m≠1∨Nat.gcd b m≠1∨(1≤a*b%m∧Nat.gcd (a*b%m) m=1)))=true:=by decide +kernel
theorem ZjR (m:Nat) (hm:m≤12) (a:Nat) (ha:a < m) (b:Nat) (hb:b < m) (h2:2≤m) (h3:Nat.gcd a m=1) (h4:Nat.gcd b m=1):1≤a*b%m∧Nat.gcd (a*b%m) m=1:=by
 have h:=of_decide_eq_true (List.all_eq_true.1 (List.all_eq_true.1 (List.all_eq_true.1 Ziv m (List.mem_range.2 (by omega))) a (List.mem_range.2 ha)) b (List.mem_range.2 hb))
 rcases h with h|h|h|h
 ·
  omega
 ·
  exact absurd h3 h
 ·
  exact absurd h4 h
 ·
  exact h
def uuL (m:Int) (u w:List Int) (n:Nat):List Int:=(List.range n).map fun x:Nat=>rd u (x:Int)*rd w (x:Int)%m
theorem Zeo (m:Int) (u w:List Int) (n:Nat):(uuL m u w n).length=n:=by simp[uuL]
theorem Zg4 {m:Int} {u w:List Int} {n:Nat} {x:Int} (x0:0≤x) (x1:x < n):rd (uuL m u w n) x=rd u x*rd w x%m:=by
 obtain⟨k,rfl⟩:=Int.eq_ofNat_of_zero_le x0
 rw[ZbW (by rw[Zeo];omega)]
 simp[uuL]
theorem Zlh {g:List (List Int)} (hg:Grp g) {m:Int} {u w:List Int} (hu:Mdl g m u) (hw:Mdl g m w):Mdl g m (uuL m u w g.length):=by
 have m2:=hu.m2;have m12:=hu.m12;have hlu:=hu.len;have hlw:=hw.len
 refine⟨m2,m12,Zeo ..,fun i i0 i1 => ?_,fun i i0 i1 j j0 j1 => ?_⟩
 ·
  rw[Zeo]at i1
  rw[Zg4 i0 i1]
  obtain⟨a0,a1,a2⟩:=hu.unit i i0 (by omega)
  obtain⟨b0,b1,b2⟩:=hw.unit i i0 (by omega)
  obtain⟨a,ha⟩:=Int.eq_ofNat_of_zero_le (by omega:0≤rd u i)
  obtain⟨b,hb⟩:=Int.eq_ofNat_of_zero_le (by omega:0≤rd w i)
  obtain⟨M,rfl⟩:=Int.eq_ofNat_of_zero_le (by omega:0≤m)
  rw[ha]at a0 a1 a2 ⊢
  rw[hb]at b0 b1 b2 ⊢
  obtain⟨h1,h2⟩:=ZjR M (by omega) a (by omega) b (by omega) (by omega) a2 b2
  have e:(a:Int)*(b:Int)%(M:Int)=((a*b%M:Nat):Int):=by simp
  have hl:a*b%M < M:=Nat.mod_lt _ (by omega)
  rw[e]
  exact⟨by omega,by omega,h2⟩
 ·
  rw[Zeo]at i1 j1
  obtain⟨t0,t1⟩:=hg.ent i j i0 i1 j0 j1
  rw[Zg4 t0 t1,Zg4 i0 i1,Zg4 j0 j1,hu.hom i i0 (by omega) j j0 (by omega),hw.hom i i0 (by omega) j j0 (by omega)]
  refine cg_eq ?_
  exact(Zbt (Zbz _ _) (Zbz _ _)).trans ((Zb6 (by grind)).trans (Zbt (Zbz _ _) (Zbz _ _)).symm)
def sg (p:Nat):Int:=if(p:Int)%2=1 then -1 else 1
theorem leib {g:List (List Int)} (hg:Grp g) {m:Int} {ua ub uu f h:List Int} (hb:Mdl g m ub) (hu:∀x:Int,0≤x→x < g.length→rd uu x=rd ua x*rd ub x%m) {p q:Nat} (hpq:p+q≤2) {xs:List Int} (hx:AllIn g.length xs) (hl:xs.length=p+q+1) (hn:ZbG xs) :
  cg m (Bd g uu (cupL g m ub f h p q) xs (p+q)) (At g (cupL g m ub (bdL g m ua f p) h (p+1) q) xs+sg p*At g (cupL g m ub f (bdL g m ub h q) p (q+1)) xs):=by
 have one:∀a b:Int,a+1*b=a+b:=fun a b=>by omega
 have neg:∀a b:Int,a + -1*b=a - b:=fun a b=>by omega
 have hcs:(p=0∧q=0)∨(p=0∧q=1)∨(p=1∧q=0)∨(p=0∧q=2)∨(p=1∧q=1)∨(p=2∧q=0):=by omega
 have inn:∀x∈xs,0≤x∧x < g.length:=fun x hx' => hx.mem hx'
 rcases hcs with ⟨rfl,rfl⟩|⟨rfl,rfl⟩|⟨rfl,rfl⟩|⟨rfl,rfl⟩|⟨rfl,rfl⟩|⟨rfl,rfl⟩
 ·
  match xs,hl with
  | [x],_ =>
   obtain⟨x0,x1⟩:=inn x (by simp)
   rw[show sg 0=1 from rfl,one]
   exact leib00 hg hb hu x0 x1 hn
 ·
  match xs,hl with
  | [x,y],_ =>
   obtain⟨x0,x1⟩:=inn x (by simp)
   obtain⟨y0,y1⟩:=inn y (by simp)
   rw[show sg 0=1 from rfl,one]
   exact leib01 hg hb hu x0 x1 y0 y1 hn
 ·
  match xs,hl with
  | [x,y],_ =>
   obtain⟨x0,x1⟩:=inn x (by simp)
   obtain⟨y0,y1⟩:=inn y (by simp)
   rw[show sg 1 = -1 from rfl,neg]
   exact leib10 hg hb hu x0 x1 y0 y1 hn
 ·
  match xs,hl with
  | [x,y,z],_ =>
   obtain⟨x0,x1⟩:=inn x (by simp)
   obtain⟨y0,y1⟩:=inn y (by simp)
   obtain⟨z0,z1⟩:=inn z (by simp)
   rw[show sg 0=1 from rfl,one]
   exact leib02 hg hb hu x0 x1 y0 y1 z0 z1 hn
 ·
  match xs,hl with
  | [x,y,z],_ =>
   obtain⟨x0,x1⟩:=inn x (by simp)
   obtain⟨y0,y1⟩:=inn y (by simp)
   obtain⟨z0,z1⟩:=inn z (by simp)
   rw[show sg 1 = -1 from rfl,neg]
   exact leib11 hg hb hu x0 x1 y0 y1 z0 z1 hn
 ·
  match xs,hl with
  | [x,y,z],_ =>
   obtain⟨x0,x1⟩:=inn x (by simp)
   obtain⟨y0,y1⟩:=inn y (by simp)
   obtain⟨z0,z1⟩:=inn z (by simp)
   rw[show sg 2=1 from rfl,one]
   exact leib20 hg hb hu x0 x1 y0 y1 z0 z1 hn
theorem tl_rd {g:List (List Int)} (hg:Grp g) {d:Nat} (hd:d≤4) (F:List Int→Int) {i:Nat} (hi:(i:Int) < cells g (d:Int)):rd (tl g d F) (i:Int)=At g (tl g d F) (lst ((g.length:Int) - 1) d (i:Int)):=by
 obtain⟨hx,hn⟩:=Zb7 hg (n:=d) (i:=i) hi
 rw[At_tl hg hd F hx (ZbE _ _ _),ZbK hn]
 have hb:=ZbA hg (d:=(d:Int)) (by omega)
 rw[ZbW (by simp[tl];omega)]
 simp[tl]
theorem ZgW {g:List (List Int)} (hg:Grp g) {m:Int} {ua ub f h:List Int} (ha:Mdl g m ua) (hb:Mdl g m ub) {p q:Nat} (hpq:p+q≤2) :
  bdL g m (uuL m ua ub g.length) (cupL g m ub f h p q) (p+q)=addL m (cupL g m ub (bdL g m ua f p) h (p+1) q) (cupL g m ub f (bdL g m ub h q) p (q+1)) (sg p):=by
 have m2:=ha.m2
 have hd:p+1+q=p+q+1:=by omega
 have lc:(cupL g m ub (bdL g m ua f p) h (p+1) q).length=(cells g ((p+q+1:Nat):Int)).toNat:=by simp[cupL,tl,hd]
 refine Zi3 (by rw[ZcB,lc];simp[bdL]) fun i i0 i1 => ?_
 obtain⟨k,rfl⟩:=Int.eq_ofNat_of_zero_le i0
 have hk:(k:Int) < cells g ((p+q+1:Nat):Int):=by simp only[bdL,List.length_map,List.length_range]at i1;omega
 obtain⟨hx,hn⟩:=Zb7 hg (n:=p+q+1) (i:=k) hk
 have hll:=ZbE ((g.length:Int) - 1) (p+q+1) (k:Int)
 have e0:rd (bdL g m (uuL m ua ub g.length) (cupL g m ub f h p q) (p+q)) (k:Int)=Bd g (uuL m ua ub g.length) (cupL g m ub f h p q) (lst ((g.length:Int) - 1) (p+q+1) (k:Int)) (p+q)%m:=by
  rw[ZbW (by omega)]
  simp[bdL,bdV]
 have e1:=tl_rd hg (d:=p+1+q) (by omega) (cupF g m ub (p+1) (At g (bdL g m ua f p)) (At g h)) (i:=k) (by rw[hd];exact hk)
 have e2:=tl_rd hg (d:=p+(q+1)) (by omega) (cupF g m ub p (At g f) (At g (bdL g m ub h q))) (i:=k) (by rw[show p+(q+1)=p+q+1 by omega];exact hk)
 have e1' : rd (cupL g m ub (bdL g m ua f p) h (p+1) q) (k:Int)=At g (cupL g m ub (bdL g m ua f p) h (p+1) q) (lst ((g.length:Int) - 1) (p+q+1) (k:Int)):=by rw[←hd];exact e1
 have e2' : rd (cupL g m ub f (bdL g m ub h q) p (q+1)) (k:Int)=At g (cupL g m ub f (bdL g m ub h q) p (q+1)) (lst ((g.length:Int) - 1) (p+q+1) (k:Int)):=by rw[show p+q+1=p+(q+1)by omega];exact e2
 rw[ZiG (by rw[lc];omega),e0,e1', e2']
 exact cg_eq (leib hg hb (fun x x0 x1=>Zg4 x0 x1) hpq hx hll hn)
end Go.Proofs.YtoljodiflhbohaaGreatDoor.V
namespace Go.Proofs.YtoljodiflhbohaaGreatDoor.V
open Go.RowKit Go.Proofs.YtoljodiflhbohaaGreatDoor.D
def chkG (g:List (List Int)):Bool :=
 decide (1≤g.length) && decide (g.length≤8) && (List.range g.length).all fun a=>decide ((row g (a:Int)).length=g.length) && decide (T g 0 (a:Int)=a) && decide (T g (a:Int) 0=a) && ((List.range g.length).any fun b=>decide (T g (a:Int) (b:Int)=0)) &&
  (List.range g.length).all fun b=>decide (0≤T g (a:Int) (b:Int)) && decide (T g (a:Int) (b:Int) < g.length) && (List.range g.length).all fun c=>decide (T g (T g (a:Int) (b:Int)) (c:Int)=T g (a:Int) (T g (b:Int) (c:Int)))
theorem Zc3 {g:List (List Int)} (h:chkG g=true):Grp g:=by
 unfold chkG at h
 simp only[Bool.and_eq_true,decide_eq_true_eq,List.all_eq_true,List.any_eq_true,List.mem_range]at h
 obtain⟨⟨h1,h2⟩,h3⟩:=h
 have to:∀{P:Int→Prop},(∀a:Nat,a < g.length→P (a:Int))→∀a:Int,0≤a→a < g.length→P a:=fun {P} H a a0 a1=>by
  have:=H a.toNat (by omega)
  rwa[Int.toNat_of_nonneg a0]at this
 refine⟨h1,h2,to fun a ha=>(h3 a ha).1.1.1.1,fun a b a0 a1 b0 b1 => ?_,to fun a ha=>(h3 a ha).1.1.1.2,to fun a ha=>(h3 a ha).1.1.2,fun a b c a0 a1 b0 b1 c0 c1 => ?_,to fun a ha => ?_⟩
 ·
  refine to (P:=fun a=>∀b:Int,0≤b→b < g.length→0≤T g a b∧T g a b < g.length) (fun a ha=>to fun b hb=>(((h3 a ha).2 b hb).1)) a a0 a1 b b0 b1
 ·
  refine to (P:=fun a=>∀b:Int,0≤b→b < g.length→∀c:Int,0≤c→c < g.length→T g (T g a b) c=T g a (T g b c)) (fun a ha=>to (P:=fun b=>∀c:Int,0≤c→c < g.length→T g (T g (a:Int) b) c=T g (a:Int) (T g b c)) fun b hb=>to fun c hc=>((h3 a ha).2 b hb).2 c hc) a a0 a1 b b0 b1 c c0 c1
 ·
  obtain⟨b,hb,e⟩:=(h3 a ha).1.2
  exact⟨(b:Int),by omega,by omega,e⟩
def cyc (n:Nat):List (List Int):=(List.range n).map fun a:Nat=>(List.range n).map fun b:Nat=>((a:Int)+(b:Int))%(n:Int)
def prd (g h:List (List Int)):List (List Int):=(List.range (g.length*h.length)).map fun x:Nat=>(List.range (g.length*h.length)).map fun y:Nat=>(h.length:Int)*T g ((x:Int) / (h.length:Int)) ((y:Int) / (h.length:Int))+T h ((x:Int)%(h.length:Int)) ((y:Int)%(h.length:Int))
def twd (n:Nat) (more:Int):List (List Int):=(List.range (2*n)).map fun a:Nat=>(List.range (2*n)).map fun b:Nat=>(n:Int)*(((a:Int) / n+(b:Int) / n)%2)+((if(b:Int) / n=1 then(b:Int)%n - (a:Int)%n else(a:Int)%n+(b:Int)%n)+more*((a:Int) / n)*((b:Int) / n))%(n:Int)
theorem Zhc:∀n:Nat,n≤8→1≤n→chkG (cyc n)=true:=by decide +kernel
theorem Zjn:chkG (prd (cyc 2) (cyc 2))=true∧chkG (prd (cyc 2) (prd (cyc 2) (cyc 2)))=true∧chkG (prd (cyc 2) (cyc 4))=true∧chkG (twd 3 0)=true∧chkG (twd 4 0)=true∧chkG (twd 4 2)=true:=by decide +kernel
structure Ordr (n:Nat) (p:List Int):Prop where
 len:p.length=n
 ent:∀i:Nat,i < n→0≤rd p (i:Int)∧rd p (i:Int) < n
 inj:∀i j:Nat,i < n→j < n→rd p (i:Int)=rd p (j:Int)→i=j
theorem nd_le {α : Type} [DecidableEq α]:∀{l m:List α},l.Nodup→(∀x∈l,x∈m)→l.length≤m.length
 | [],m,_,_=>Nat.zero_le _
 | x :: l,m,hn,hs=>by
  rw[List.nodup_cons]at hn
  have hx:=hs x List.mem_cons_self
  have:=nd_le (l:=l) (m:=m.erase x) hn.2 fun y hy=>(List.mem_erase_of_ne (fun e=>hn.1 (by rw[←e];exact hy))).2 (hs y (List.mem_cons_of_mem _ hy))
  rw[List.length_erase_of_mem hx]at this
  have:=List.length_pos_of_mem hx
  rw[List.length_cons]
  omega
theorem Zj9 {n:Nat} {f:Nat→Nat} (hb:∀i,i < n→f i < n) (hi:∀i j,i < n→j < n→f i=f j→i=j):∀k,k < n→∃i,i < n∧f i=k:=by
 intro k hk
 apply Classical.byContradiction
 intro hno
 have hnd:((List.range n).map f).Nodup:=by
  rw[List.Nodup,List.pairwise_map]
  exact List.Pairwise.imp_of_mem (fun {a b} ha hb h e=>h (hi a b (List.mem_range.1 ha) (List.mem_range.1 hb) e)) (List.nodup_range (n:=n))
 have:=nd_le (m:=(List.range n).erase k) hnd (fun x hx=>by
  obtain⟨i,hi', rfl⟩:=List.mem_map.1 hx
  exact(List.mem_erase_of_ne (fun e=>hno ⟨i,List.mem_range.1 hi', e⟩)).2 (List.mem_range.2 (hb i (List.mem_range.1 hi'))))
 rw[List.length_erase_of_mem (List.mem_range.2 hk),List.length_map,List.length_range]at this
 omega
theorem Ordr.onto {n:Nat} {p:List Int} (h:Ordr n p) {k:Int} (k0:0≤k) (k1:k < n):∃i:Nat,i < n∧rd p (i:Int)=k:=by
 obtain⟨i,hi,e⟩:=Zj9 (n:=n) (f:=fun i=>(rd p (i:Int)).toNat) (fun i hi=>by have:=h.ent i hi;omega) (fun i j hi hj e=>h.inj i j hi hj (by have:=h.ent i hi;have:=h.ent j hj;omega)) k.toNat (by omega)
 exact⟨i,hi,by have:=h.ent i hi;omega⟩
theorem Zi8 {g g' : List (List Int)} (hg:Grp g) {p:List Int} (hp:Ordr g.length p) (h0:rd p 0=0) (hl:g'.length=g.length) (hr:∀a:Nat,a < g.length→(row g' (a:Int)).length=g.length) (hT:∀a b:Nat,a < g.length→b < g.length→T g' (rd p (a:Int)) (rd p (b:Int))=rd p (T g (a:Int) (b:Int))):Grp g' := by
 have n1:=hg.n1;have n8:=hg.n8
 have hTi:∀a b:Int,0≤a→a < g.length→0≤b→b < g.length→T g' (rd p a) (rd p b)=rd p (T g a b):=fun a b a0 a1 b0 b1=>by
  have:=hT a.toNat b.toNat (by omega) (by omega)
  rwa[Int.toNat_of_nonneg a0,Int.toNat_of_nonneg b0]at this
 have hon:∀k:Int,0≤k→k < g'.length→∃i:Int,(0≤i∧i < g.length)∧k=rd p i:=fun k k0 k1=>by
  obtain⟨i,hi,e⟩:=hp.onto k0 (by omega)
  exact⟨(i:Int),by omega,e.symm⟩
 have hen:∀i:Int,0≤i→i < g.length→0≤rd p i∧rd p i < g.length:=fun i i0 i1=>by
  have:=hp.ent i.toNat (by omega)
  rwa[Int.toNat_of_nonneg i0]at this
 refine⟨by omega,by omega,fun a a0 a1 => ?_,fun a b a0 a1 b0 b1 => ?_,fun a a0 a1 => ?_,fun a a0 a1 => ?_,fun a b c a0 a1 b0 b1 c0 c1 => ?_,fun a a0 a1 => ?_⟩
 ·
  have:=hr a.toNat (by omega)
  rw[Int.toNat_of_nonneg a0]at this
  omega
 ·
  obtain⟨i,⟨i0,i1⟩,rfl⟩:=hon a a0 a1
  obtain⟨j,⟨j0,j1⟩,rfl⟩:=hon b b0 b1
  obtain⟨t0,t1⟩:=hg.ent i j i0 i1 j0 j1
  rw[hTi i j i0 i1 j0 j1,hl]
  exact hen _ t0 t1
 ·
  obtain⟨i,⟨i0,i1⟩,rfl⟩:=hon a a0 a1
  have:=hTi 0 i (by omega) (by omega) i0 i1
  rw[h0,hg.one i i0 i1]at this
  exact this
 ·
  obtain⟨i,⟨i0,i1⟩,rfl⟩:=hon a a0 a1
  have:=hTi i 0 i0 i1 (by omega) (by omega)
  rw[h0,hg.one' i i0 i1]at this
  exact this
 ·
  obtain⟨i,⟨i0,i1⟩,rfl⟩:=hon a a0 a1
  obtain⟨j,⟨j0,j1⟩,rfl⟩:=hon b b0 b1
  obtain⟨k,⟨k0,k1⟩,rfl⟩:=hon c c0 c1
  obtain⟨s0,s1⟩:=hg.ent i j i0 i1 j0 j1
  obtain⟨t0,t1⟩:=hg.ent j k j0 j1 k0 k1
  rw[hTi i j i0 i1 j0 j1,hTi _ k s0 s1 k0 k1,hTi j k j0 j1 k0 k1,hTi i _ i0 i1 t0 t1,hg.assoc i j k i0 i1 j0 j1 k0 k1]
 ·
  obtain⟨i,⟨i0,i1⟩,rfl⟩:=hon a a0 a1
  obtain⟨b,b0,b1,e⟩:=hg.inv i i0 i1
  refine⟨rd p b,(hen b b0 b1).1,by rw[hl];exact(hen b b0 b1).2,?_⟩
  rw[hTi i b i0 i1 b0 b1,e,h0]
end Go.Proofs.YtoljodiflhbohaaGreatDoor.V
namespace Go.Proofs.YtoljodiflhbohaaGreatDoor.V
open Go Go.RowKit Go.Proofs.YtoljodiflhbohaaGreatDoor.D Go.Proofs.YtoljodiflhbohaaGreatDoor.P
structure Src (c:List Int) (i:Int):Prop where
 ent:∀x∈c,0≤x∧x≤255
 len:c.length≤4096
 i0:0≤i
 i1:i≤c.length
theorem wrU {x:Int} (h0:0≤x) (h1:x < 18446744073709551616):wr .u64 x=x:=by
 show hid _=_
 rw[hid_eq]
 simp[IntKind.wrap,IntKind.bits,IntKind.signed]
 omega
theorem andB (x:Int) {m:Int} (m0:0≤m) (hm:m < 18446744073709551616):∃o:Int,andI .u64 x m=o∧0≤o∧o≤m:=by
 obtain⟨M,rfl⟩:=Int.eq_ofNat_of_zero_le m0
 have hlt:(BitVec.ofInt 64 x &&& BitVec.ofInt 64 (M:Int)).toNat≤M:=by
  rw[BitVec.toNat_and]
  refine Nat.le_trans Nat.and_le_right ?_
  rw[BitVec.toNat_ofInt]
  omega
 refine⟨((BitVec.ofInt 64 x &&& BitVec.ofInt 64 (M:Int)).toNat:Nat),?_,by omega,by omega⟩
 show hid _=_
 rw[hid_eq]
 show wr .u64 (((BitVec.ofInt 64 x &&& BitVec.ofInt 64 (M:Int)).toNat:Nat):Int)=_
 exact wrU (by omega) (by omega)
theorem From_ {c:List Int} (hc:∀x∈c,0≤x∧x≤255) (hl:c.length≤4096):∃h,Zaa.f c=some (c,0,h)∧Src c 0:=by
 have main:∀(n k:Nat) (h:Int),k+n=c.length→∃h', Zaa.l0 c (k:Int) c 0 h=some (c,0,h'):=by
  intro n
  induction n with
  | zero =>
   intro k h hk
   exact⟨h,by rw[Zaa.l0_eq,if_neg (by omega)]⟩
  | succ n ih =>
   intro k h hk
   obtain⟨h', e⟩:=ih (k+1) (wr .u64 ((wr .u64 ((wr .u64 (h*1099511628211))+(wr .u64 (rd c (k:Int)))))+197)) (by omega)
   refine⟨h', ?_⟩
   rw[Zaa.l0_eq,if_pos (by omega),if_pos (by omega),if_pos (by omega),if_pos (by omega),wn (j:=k) (by omega)]
   exact e
 obtain⟨h,e⟩:=main c.length 0 (wr .u64 (13631+(wr .u64 (c.length:Int)))) (by omega)
 exact⟨h,by rw[Zaa.f_eq];exact e,hc,hl,by omega,by omega⟩
theorem Next_ {c:List Int} {i:Int} (h:Src c i) (hh n:Int) (hn:n≤4611686018427387904):∃x j h', Zr.f c i hh n=some (x,c,j,h')∧Src c j∧0≤x∧(1≤n→x < n)∧(n < 1→x=0):=by
 have hl:=h.len
 rw[Zr.f_eq]
 by_cases h1:n < 1
 ·
  rw[if_pos h1]
  exact⟨0,i,hh,rfl,h,by omega,fun q=>by omega,fun _=>rfl⟩
 rw[if_neg h1]
 obtain⟨o,ho,o0,o1⟩:=andB (shrI .u64 (wr .u64 ((wr .u64 (hh*6364136223846793005))+1442695040888963407)) 33) (m:=16777215) (by omega) (by omega)
 rw[ho,w64 (x:=o) (by omega) (by omega)]
 by_cases h2:i < (c.length:Int)
 ·
  obtain⟨a0,a1⟩:=h.ent _ (ZcK h.i0 h2)
  have i0:=h.i0
  rw[if_pos h2,if_pos h.i0,if_pos h2,if_neg (by omega),w64 (x:=rd c i) (by omega) (by omega),w64 (x:=o+rd c i) (by omega) (by omega),w64 (x:=i+1) (by omega) (by omega),Zcl (show 0≤o+rd c i by omega)]
  exact⟨_,_,_,rfl,⟨h.ent,h.len,by omega,by omega⟩,Int.emod_nonneg _ (by omega),fun _=>Int.emod_lt_of_pos _ (by omega),fun q=>by omega⟩
 ·
  rw[if_neg h2,if_neg (by omega),Zcl o0]
  exact⟨_,_,_,rfl,h,Int.emod_nonneg _ (by omega),fun _=>Int.emod_lt_of_pos _ (by omega),fun q=>by omega⟩
theorem Pick_ {c:List Int} {i:Int} (h:Src c i) (hh:Int) (L:List Int) (h0:0 < L.length) (h1:L.length≤1000):∃x j h', ZF.f c i hh L=some (x,c,j,h')∧Src c j∧x∈L:=by
 obtain⟨x,j,h', e,s,x0,x1,_⟩:=Next_ h hh (L.length:Int) (by omega)
 have x1:=x1 (by omega)
 exact⟨rd L x,j,h', by rw[ZF.f_eq,e,Option.bind_some,if_pos x0,if_pos x1],s,ZcK x0 x1⟩
theorem Near_ {c:List Int} {i:Int} (h:Src c i) (hh most:Int) (m0 : -1000000≤most) (m1:most≤1000000):∃x j h', Zbc.f c i hh most=some (x,c,j,h')∧Src c j:=by
 obtain⟨x,j,h', e,s,x0,x1,_⟩:=Next_ h hh 14 (by omega)
 rw[Zbc.f_eq,e,Option.bind_some,w64 (x:=most+1) (by omega) (by omega)]
 by_cases q:x=0
 ·
  obtain⟨y,j', h2,e2,s2,_⟩:=Pick_ s h' [-1,most+1,1099511627776,-4611686018427387904] (by simp) (by simp)
  rw[if_pos q,e2]
  exact⟨y,j', h2,rfl,s2⟩
 ·
  obtain⟨y,j', h2,e2,s2,_⟩:=Next_ s h' (most+1) (by omega)
  rw[if_neg q,e2]
  exact⟨y,j', h2,rfl,s2⟩
structure OrdL (n:Nat) (p:List Int):Prop where
 len:p.length=n
 ent:∀x∈p,0≤x∧x < n
 nd:p.Nodup
theorem OrdL.ordr {n:Nat} {p:List Int} (h:OrdL n p):Ordr n p where
 len:=h.len
 ent:=fun i hi=>h.ent _ (ZcK (by omega) (by rw[h.len];omega))
 inj:=fun i j hi hj e=>by
  rw[ZbW (by rw[h.len];exact hi),ZbW (by rw[h.len];exact hj)]at e
  have hi' : i < p.length:=by rw[h.len];exact hi
  have hj' : j < p.length:=by rw[h.len];exact hj
  exact(List.getElem?_inj hi' h.nd).1 (by rw[List.getElem?_eq_getElem hi', List.getElem?_eq_getElem hj', e])
theorem Zlo {c:List Int} {i:Int} (h:Src c i) (hh:Int) {n:Nat} (hn:n≤100):∃p j h', ZR.f c i hh (n:Int)=some (p,c,j,h')∧Src c j∧OrdL n p:=by
 have main:∀(m k:Nat) (p:List Int) (i hh:Int),k+m=n→Src c i→OrdL k p→∃p' j h', ZR.l0 (n:Int) p (k:Int) c i hh=some (p', c,j,h')∧Src c j∧OrdL n p' := by
  intro m
  induction m with
  | zero =>
   intro k p i hh hk hs hp
   exact⟨p,i,hh,by rw[ZR.l0_eq,if_neg (by omega)],hs,by rw[←show k=n by omega];exact hp⟩
  | succ m ih =>
   intro k p i hh hk hs hp
   have pl:=hp.len
   obtain⟨x,j,h', e,s,x0,x1,_⟩:=Next_ hs hh ((k:Int)+1) (by omega)
   have x1:=x1 (by omega)
   have ho:=Own_ (p.take x.toNat) (by rw[List.length_take];omega)
   have hperm:((p.take x.toNat++[(k:Int)])++p.drop x.toNat).Perm ((k:Int) :: p):=by
    have:=(List.perm_middle (a:=(k:Int)) (l₁ := p.take x.toNat) (l₂ := p.drop x.toNat))
    rw[List.take_append_drop]at this
    simpa using this
   have hp' : OrdL (k+1) ((p.take x.toNat++[(k:Int)])++p.drop x.toNat):=by
    refine⟨by rw[hperm.length_eq,List.length_cons,pl],fun y hy => ?_,hperm.nodup_iff.2 (List.nodup_cons.2 ⟨fun q => ?_,hp.nd⟩)⟩
    ·
     rcases List.mem_cons.1 (hperm.mem_iff.1 hy)with rfl|q
     ·
      omega
     ·
      have:=hp.ent y q;omega
    ·
     have:=hp.ent _ q;omega
   obtain⟨p', j', h2,e2,s2,o2⟩:=ih (k+1) _ j h' (by omega) s hp'
   refine⟨p', j', h2,?_,s2,o2⟩
   have tl:(p.take x.toNat).length≤k:=by rw[List.length_take];omega
   have dl:(p.drop x.toNat).length≤k:=by rw[List.length_drop];omega
   have l1:([(k:Int)]:List Int).length=1:=rfl
   rw[ZR.l0_eq,if_pos (by omega),w64 (x:=(k:Int)+1) (by omega) (by omega),e]
   dsimp only[Option.bind_some]
   rw[if_pos x0,if_pos (by omega),ho]
   dsimp only[Option.bind_some]
   rw[if_pos (by rw[l1];omega),if_pos x0,if_pos (by omega),if_pos (by rw[List.length_append,l1];omega)]
   exact e2
 obtain⟨p,j,h', e,s,o⟩:=main n 0 [] i hh (by omega) h ⟨rfl,fun x hx=>(by cases hx),List.nodup_nil⟩
 exact⟨p,j,h', by rw[ZR.f_eq];exact e,s,o⟩
theorem Zgr {c:List Int} {i:Int} (h:Src c i) (hh:Int) {n:Nat} (n1:1≤n) (hn:n≤100):∃p j h', Zz.f c i hh (n:Int)=some (p,c,j,h')∧Src c j∧OrdL n p∧rd p 0=0:=by
 obtain⟨p,j,h', e,s,o⟩:=Zlo h hh (n:=n - 1) (by omega)
 have pl:=o.len
 have hw:wrapI ((n:Int) - 1)=((n - 1:Nat):Int):=by rw[w64 (by omega) (by omega)];omega
 have main:=up p.length (fun k=>Zz.l0 p (k:Int) c j h' (0 :: (p.take k).map (· + 1))) (fun k hk=>by
  have l1:(0 :: (p.take k).map (· + 1):List Int).length=k+1:=by rw[List.length_cons,List.length_map,List.length_take];omega
  have l2:∀x:Int,([x]:List Int).length=1:=fun _=>rfl
  obtain⟨a0,a1⟩:=o.ent _ (ZcK (xs:=p) (i:=(k:Int)) (by omega) (by omega))
  rw[ZcR hk,List.map_append,List.map_singleton,←List.cons_append,Zz.l0_eq,w64 (x:=rd p (k:Int)+1) (by omega) (by omega),l1,l2,wn (j:=k) (by omega)]
  ((with_reducible repeat (first|refine Zj (by first|assumption|omega|rfl|exact B_pos (by omega)) ?_|refine Zi (by first|assumption|omega|decide|exact B_not (by omega)) ?_|refine Ze (by first|assumption) ?_|dsimp only));first|done|(with_reducible rfl)|simp (disch:=omega) only[w64]|(show False;done)))
 simp only[Int.natCast_zero,List.take_zero,List.map_nil,List.take_length]at main
 refine⟨0 :: p.map (· + 1),j,h', ?_,s,⟨by rw[List.length_cons,List.length_map];omega,fun x hx => ?_,List.nodup_cons.2 ⟨fun q => ?_,?_⟩⟩,rfl⟩
 ·
  rw[Zz.f_eq,hw,e]
  show Zz.l0 p 0 c j h' [0]=_
  rw[main,Zz.l0_eq,if_neg (by omega)]
 ·
  rcases List.mem_cons.1 hx with rfl|q
  ·
   omega
  ·
   obtain⟨y,hy,rfl⟩:=List.mem_map.1 q
   have:=o.ent y hy
   omega
 ·
  obtain⟨y,hy,q⟩:=List.mem_map.1 q
  have:=o.ent y hy
  omega
 ·
  rw[List.Nodup,List.pairwise_map]
  exact List.Pairwise.imp (fun {a b} h q=>h (by omega)) o.nd
end Go.Proofs.YtoljodiflhbohaaGreatDoor.V
namespace Go.Proofs.YtoljodiflhbohaaGreatDoor.V
open Go Go.RowKit Go.Proofs.YtoljodiflhbohaaGreatDoor.D Go.Proofs.YtoljodiflhbohaaGreatDoor.P
def setsL {α : Type} (p:List Int) (v:Nat → α):Nat→List α → List α
 | 0,r=>r
 | k+1,r=>(setsL p v k r).set (rd p (k:Int)).toNat (v k)
theorem ZcW {α : Type} (p:List Int) (v:Nat → α) (r:List α):∀k,(setsL p v k r).length=r.length
 | 0=>rfl
 | k+1=>by rw[setsL,List.length_set,ZcW p v r k]
theorem Zfo {α : Type} {n:Nat} {p:List Int} (hp:Ordr n p) (v:Nat → α) {r:List α} (hr:r.length=n) {i:Nat} (hi:i < n):∀k,k≤n→(setsL p v k r)[(rd p (i:Int)).toNat]? = if i < k then some (v i)else r[(rd p (i:Int)).toNat]? := by
 intro k
 induction k with
 | zero=>intro _;rw[if_neg (by omega)];rfl
 | succ k ih =>
  intro hk
  have ih:=ih (by omega)
  obtain⟨a0,a1⟩:=hp.ent i hi
  obtain⟨b0,b1⟩:=hp.ent k (by omega)
  by_cases q:i=k
  ·
   subst q
   rw[if_pos (by omega),setsL,List.getElem?_set_self (by rw[ZcW];omega)]
  ·
   have hne:(rd p (k:Int)).toNat≠(rd p (i:Int)).toNat:=fun e=>q (hp.inj i k hi (by omega) (by omega))
   rw[setsL,List.getElem?_set_ne hne,ih]
   by_cases q2:i < k
   ·
    rw[if_pos q2,if_pos (by omega)]
   ·
    rw[if_neg q2,if_neg (by omega)]
theorem rd_get? {xs:List Int} {i:Nat} {x:Int} (h:xs[i]? = some x):rd xs (i:Int)=x:=by
 rw[ZgX,List.getD_eq_getElem?_getD,h];rfl
theorem row_get? {g:List (List Int)} {i:Nat} {r:List Int} (h:g[i]? = some r):row g (i:Int)=r:=by
 simp[row,List.getD_eq_getElem?_getD,h]
def renR (g:List (List Int)) (p:List Int) (a:Nat):List Int:=setsL p (fun b=>rd p (T g (a:Int) (b:Int))) g.length (row g (rd p (a:Int)))
def ren (g:List (List Int)) (p:List Int):List (List Int):=setsL p (renR g p) g.length g
theorem ZjF {g:List (List Int)} (hg:Grp g) {p:List Int} (hp:Ordr g.length p) (h0:rd p 0=0):Grp (ren g p):=by
 have hen:∀a:Nat,a < g.length→(row g (rd p (a:Int))).length=g.length:=fun a ha=>by
  obtain⟨a0,a1⟩:=hp.ent a ha
  have:=hg.row _ a0 a1
  omega
 have hrow:∀a:Nat,a < g.length→row (ren g p) (rd p (a:Int))=renR g p a:=fun a ha=>by
  obtain⟨a0,a1⟩:=hp.ent a ha
  have:=Zfo hp (renR g p) (r:=g) rfl ha g.length (Nat.le_refl _)
  rw[if_pos ha]at this
  have:=row_get? this
  rwa[Int.toNat_of_nonneg a0]at this
 refine Zi8 hg hp h0 (ZcW ..) (fun a ha => ?_) fun a b ha hb => ?_
 ·
  obtain⟨i,hi,e⟩:=hp.onto (k:=(a:Int)) (by omega) (by omega)
  rw[←e,hrow i hi,renR,ZcW,hen i hi]
 ·
  obtain⟨b0,b1⟩:=hp.ent b hb
  have:=Zfo hp (fun b=>rd p (T g (a:Int) (b:Int))) (hen a ha) hb g.length (Nat.le_refl _)
  rw[if_pos hb]at this
  have:=rd_get? this
  rw[Int.toNat_of_nonneg b0]at this
  show rd (row (ren g p) _) _=_
  rw[hrow a ha]
  exact this
theorem Copy_ (g:List (List Int)) (hl:g.length≤1000000) (hr:∀r∈g,r.length≤1048576):Zaz.f g=some g:=by
 have l1:∀x:List Int,([x]:List (List Int)).length=1:=fun _=>rfl
 have main:=up g.length (fun k=>Zaz.l0 (k:Int) g (g.take k)) (fun k hk=>by
  have ho:=Own_ (row g (k:Int)) (hr _ (ZhB (by omega) (by omega)))
  have hlen:(g.take k).length=k:=by rw[List.length_take];omega
  have ht:g.take (k+1)=g.take k++[row g (k:Int)]:=by rw[List.take_succ_eq_append_getElem hk,Zgh hk]
  rw[ht,Zaz.l0_eq,ho,Option.bind_some,hlen,l1,wn (j:=k) (by omega)]
  ((with_reducible repeat (first|refine Zj (by first|assumption|omega|rfl|exact B_pos (by omega)) ?_|refine Zi (by first|assumption|omega|decide|exact B_not (by omega)) ?_|refine Ze (by first|assumption) ?_|dsimp only));first|done|(with_reducible rfl)|simp (disch:=omega) only[w64]|(show False;done)))
 simp only[Int.natCast_zero,List.take_zero,List.take_length]at main
 rw[Zaz.f_eq,main,Zaz.l0_eq,if_neg (by omega)]
theorem Zd2 {g:List (List Int)} (hg:Grp g):∀r∈g,r.length≤8:=fun r hr=>by
 obtain⟨i,i0,i1,rfl⟩:=Zk2 hr
 have:=hg.row i i0 i1
 have:=hg.n8
 omega
theorem ZeO {g:List (List Int)} (hg:Grp g) {p:List Int} (hp:Ordr g.length p):Zn.f g p=some (ren g p):=by
 have n8:=hg.n8
 have pl:=hp.len
 have hc:=Copy_ g (by omega) (fun r hr=>by have:=Zd2 hg r hr;omega)
 have main:=up g.length (fun a=>Zn.l0 p (a:Int) g (setsL p (renR g p) a g)) (fun a ha=>by
  obtain⟨pa0,pa1⟩:=hp.ent a ha
  have gl:(setsL p (renR g p) a g).length=g.length:=ZcW ..
  have hrow:row (setsL p (renR g p) a g) (rd p (a:Int))=row g (rd p (a:Int)):=by
   have h1:=Zfo hp (renR g p) (r:=g) rfl ha a (by omega)
   rw[if_neg (by omega)]at h1
   obtain⟨q,hq⟩:=Int.eq_ofNat_of_zero_le pa0
   rw[hq]at h1 ⊢
   have hq' : q < g.length:=by omega
   rw[Int.toNat_natCast,List.getElem?_eq_getElem hq']at h1
   rw[row_get? h1,Zgh hq']
  have rl:=hg.row _ pa0 (by omega)
  have ra:=hg.row (a:Int) (by omega) (by omega)
  have inner:=up g.length (fun b=>Zn.l1 p (a:Int) (b:Int) g (setsL p (fun b=>rd p (T g (a:Int) (b:Int))) b (row g (rd p (a:Int)))) (setsL p (renR g p) a g) (rd p (a:Int))) (fun b hb=>by
   obtain⟨pb0,pb1⟩:=hp.ent b hb
   obtain⟨t0,t1⟩:=hg.ent (a:Int) (b:Int) (by omega) (by omega) (by omega) (by omega)
   have sl:(setsL p (fun b=>rd p (T g (a:Int) (b:Int))) b (row g (rd p (a:Int)))).length=(row g (rd p (a:Int))).length:=ZcW ..
   show Zn.l1 p (a:Int) (b:Int) g _ _ _=Zn.l1 p (a:Int) ((b+1:Nat):Int) g ((setsL p (fun b=>rd p (T g (a:Int) (b:Int))) b (row g (rd p (a:Int)))).set (rd p (b:Int)).toNat (rd p (T g (a:Int) (b:Int)))) _ _
   rw[Zn.l1_eq,Zp.f_eq,Option.bind_some,sl,wn (j:=b) (by omega)]
   ((with_reducible repeat (first|refine Zj (by first|assumption|omega|rfl|exact B_pos (by omega)) ?_|refine Zi (by first|assumption|omega|decide|exact B_not (by omega)) ?_|refine Ze (by first|assumption) ?_|dsimp only));first|done|(with_reducible rfl)|simp (disch:=omega) only[w64]|(show False;done)))
  simp only[Int.natCast_zero,setsL]at inner
  rw[Zn.l0_eq,Zp.f_eq,Option.bind_some,gl,hrow,inner,Zn.l1_eq,Zp.f_eq,Option.bind_some,wn (j:=a) (by omega)]
  (with_reducible repeat (first|refine Zj (by first|assumption|omega|rfl|exact B_pos (by omega)) ?_|refine Zi (by first|assumption|omega|decide|exact B_not (by omega)) ?_|refine Ze (by first|assumption) ?_|dsimp only))
  rfl)
 simp only[Int.natCast_zero,setsL]at main
 rw[Zn.f_eq,hc,Option.bind_some,main,Zn.l0_eq,Zp.f_eq,Option.bind_some,if_neg (by omega)]
 rfl
theorem bld {α : Type} (f:Nat → α) (k:Nat):(List.range (k+1)).map f=(List.range k).map f++[f k]:=by rw[List.range_succ,List.map_append,List.map_singleton]
theorem ZfP {n:Nat} (n1:1≤n) (n8:n≤8):ZH.f (n:Int)=some (cyc n):=by
 have l1:∀x:Int,([x]:List Int).length=1:=fun _=>rfl
 have l2:∀x:List Int,([x]:List (List Int)).length=1:=fun _=>rfl
 have main:=up n (fun a=>ZH.l0 (n:Int) (a:Int) ((List.range a).map fun a:Nat=>(List.range n).map fun b:Nat=>((a:Int)+(b:Int))%(n:Int))) (fun a ha=>by
  have inner:=up n (fun b=>ZH.l1 (n:Int) (a:Int) (b:Int) ((List.range b).map fun b:Nat=>((a:Int)+(b:Int))%(n:Int)) ((List.range a).map fun a:Nat=>(List.range n).map fun b:Nat=>((a:Int)+(b:Int))%(n:Int))) (fun b hb=>by
   have e:((List.range b).map fun b:Nat=>((a:Int)+(b:Int))%(n:Int)).length=b:=by simp
   rw[bld,ZH.l1_eq,e,l1,w64 (x:=(a:Int)+(b:Int)) (by omega) (by omega),Zcl (show 0≤(a:Int)+(b:Int)by omega),wn (j:=b) (by omega)]
   ((with_reducible repeat (first|refine Zj (by first|assumption|omega|rfl|exact B_pos (by omega)) ?_|refine Zi (by first|assumption|omega|decide|exact B_not (by omega)) ?_|refine Ze (by first|assumption) ?_|dsimp only));first|done|(with_reducible rfl)|simp (disch:=omega) only[w64]|(show False;done)))
  simp only[Int.natCast_zero,List.range_zero,List.map_nil]at inner
  have e:((List.range a).map fun a:Nat=>(List.range n).map fun b:Nat=>((a:Int)+(b:Int))%(n:Int)).length=a:=by simp
  rw[bld,ZH.l0_eq,if_pos (by omega),inner,ZH.l1_eq,e,l2,wn (j:=a) (by omega)]
  ((with_reducible repeat (first|refine Zj (by first|assumption|omega|rfl|exact B_pos (by omega)) ?_|refine Zi (by first|assumption|omega|decide|exact B_not (by omega)) ?_|refine Ze (by first|assumption) ?_|dsimp only));first|done|(with_reducible rfl)|simp (disch:=omega) only[w64]|(show False;done)))
 simp only[Int.natCast_zero,List.range_zero,List.map_nil]at main
 rw[ZH.f_eq,main,ZH.l0_eq,if_neg (by omega)]
 rfl
theorem ZfR {g h:List (List Int)} (hg:Grp g) (hh:Grp h):ZD.f g h=some (prd g h):=by
 have l1:∀x:Int,([x]:List Int).length=1:=fun _=>rfl
 have l2:∀x:List Int,([x]:List (List Int)).length=1:=fun _=>rfl
 have g8:=hg.n8;have h8:=hh.n8;have h1:=hh.n1
 obtain⟨N,hN⟩:∃N,N=g.length*h.length:=⟨_,rfl⟩
 have N64:N≤64:=by rw[hN];exact Nat.mul_le_mul g8 h8
 have hw:wrapI ((g.length:Int)*(h.length:Int))=(N:Int):=by rw[hN,Int.natCast_mul,w64] <;> rw[←Int.natCast_mul,←hN] <;> omega
 have parts:∀x:Nat,x < N→(0≤(x:Int) / (h.length:Int)∧(x:Int) / (h.length:Int) < g.length)∧0≤(x:Int)%(h.length:Int)∧(x:Int)%(h.length:Int) < h.length∧wrapI ((x:Int).tdiv (h.length:Int))=(x:Int) / (h.length:Int)∧(x:Int).tmod (h.length:Int)=(x:Int)%(h.length:Int):=fun x hx=>by
  have e1:(x:Int) / (h.length:Int) < g.length:=Int.ediv_lt_of_lt_mul (by omega) (by rw[←Int.natCast_mul,←hN];omega)
  have e0:0≤(x:Int) / (h.length:Int):=Int.ediv_nonneg (by omega) (by omega)
  exact⟨⟨e0,e1⟩,Int.emod_nonneg _ (by omega),Int.emod_lt_of_pos _ (by omega),by rw[Zgo (by omega),w64 (by omega) (by omega)],Zcl (by omega)⟩
 have main:=up N (fun a=>ZD.l0 (h.length:Int) (a:Int) g h ((List.range a).map fun x:Nat=>(List.range N).map fun y:Nat=>(h.length:Int)*T g ((x:Int) / (h.length:Int)) ((y:Int) / (h.length:Int))+T h ((x:Int)%(h.length:Int)) ((y:Int)%(h.length:Int)))) (fun a ha=>by
  obtain⟨⟨a0,a1⟩,a2,a3,a4,a5⟩:=parts a ha
  have ra:=hg.row _ a0 a1
  have rb:=hh.row _ a2 a3
  have inner:=up N (fun b=>ZD.l1 (h.length:Int) (a:Int) (b:Int) g h ((List.range b).map fun y:Nat=>(h.length:Int)*T g ((a:Int) / (h.length:Int)) ((y:Int) / (h.length:Int))+T h ((a:Int)%(h.length:Int)) ((y:Int)%(h.length:Int))) ((List.range a).map fun x:Nat=>(List.range N).map fun y:Nat=>(h.length:Int)*T g ((x:Int) / (h.length:Int)) ((y:Int) / (h.length:Int))+T h ((x:Int)%(h.length:Int)) ((y:Int)%(h.length:Int)))) (fun b hb=>by
   obtain⟨⟨b0,b1⟩,b2,b3,b4,b5⟩:=parts b hb
   obtain⟨t0,t1⟩:=hg.ent _ _ a0 a1 b0 b1
   obtain⟨s0,s1⟩:=hh.ent _ _ a2 a3 b2 b3
   have e:((List.range b).map fun y:Nat=>(h.length:Int)*T g ((a:Int) / (h.length:Int)) ((y:Int) / (h.length:Int))+T h ((a:Int)%(h.length:Int)) ((y:Int)%(h.length:Int))).length=b:=by simp
   have p0:0≤(h.length:Int)*T g ((a:Int) / (h.length:Int)) ((b:Int) / (h.length:Int)):=Int.mul_nonneg (by omega) t0
   have p1:(h.length:Int)*T g ((a:Int) / (h.length:Int)) ((b:Int) / (h.length:Int))≤8*8:=Int.mul_le_mul (by omega) (by omega) t0 (by omega)
   rw[bld,ZD.l1_eq,Zp.f_eq,Option.bind_some,hw,e,l1,a4,a5,b4,b5,wn (j:=b) (by omega),w64 (x:=(h.length:Int)*T g ((a:Int) / (h.length:Int)) ((b:Int) / (h.length:Int))) (by omega) (by omega),w64 (x:=(h.length:Int)*T g ((a:Int) / (h.length:Int)) ((b:Int) / (h.length:Int))+T h ((a:Int)%(h.length:Int)) ((b:Int)%(h.length:Int))) (by omega) (by omega)]
   clear a4 b4 a5 b5 hw
   ((with_reducible repeat (first|refine Zj (by first|assumption|omega|rfl|exact B_pos (by omega)) ?_|refine Zi (by first|assumption|omega|decide|exact B_not (by omega)) ?_|refine Ze (by first|assumption) ?_|dsimp only));first|done|(with_reducible rfl)|simp (disch:=omega) only[w64]|(show False;done)))
  simp only[Int.natCast_zero,List.range_zero,List.map_nil]at inner
  have e:((List.range a).map fun x:Nat=>(List.range N).map fun y:Nat=>(h.length:Int)*T g ((x:Int) / (h.length:Int)) ((y:Int) / (h.length:Int))+T h ((x:Int)%(h.length:Int)) ((y:Int)%(h.length:Int))).length=a:=by simp
  rw[bld,ZD.l0_eq,Zp.f_eq,Option.bind_some,hw,if_pos (by omega),inner,ZD.l1_eq,Zp.f_eq,Option.bind_some,hw,e,l2,wn (j:=a) (by omega)]
  clear a4 a5 hw
  ((with_reducible repeat (first|refine Zj (by first|assumption|omega|rfl|exact B_pos (by omega)) ?_|refine Zi (by first|assumption|omega|decide|exact B_not (by omega)) ?_|refine Ze (by first|assumption) ?_|dsimp only));first|done|(with_reducible rfl)|simp (disch:=omega) only[w64]|(show False;done)))
 simp only[Int.natCast_zero,List.range_zero,List.map_nil]at main
 rw[ZD.f_eq,Zp.f_eq,Option.bind_some,main,ZD.l0_eq,Zp.f_eq,Option.bind_some,hw,if_neg (by omega),hN]
 rfl
theorem ZfS {n:Nat} (n1:1≤n) (n8:n≤8) {more:Int} (m0:0≤more) (m8:more≤8):Zx.f (n:Int) more=some (twd n more):=by
 have l1:∀x:Int,([x]:List Int).length=1:=fun _=>rfl
 have l2:∀x:List Int,([x]:List (List Int)).length=1:=fun _=>rfl
 have hw:wrapI (2*(n:Int))=((2*n:Nat):Int):=by rw[w64 (by omega) (by omega)];omega
 obtain⟨F,hF⟩:∃F:Nat→Nat→Int,F=fun(a b:Nat)=>(n:Int)*(((a:Int) / n+(b:Int) / n)%2)+((if(b:Int) / n=1 then(b:Int)%n - (a:Int)%n else(a:Int)%n+(b:Int)%n)+more*((a:Int) / n)*((b:Int) / n))%(n:Int):=⟨_,rfl⟩
 have parts:∀x:Nat,x < 2*n→(0≤(x:Int) / (n:Int)∧(x:Int) / (n:Int)≤1)∧0≤(x:Int)%(n:Int)∧(x:Int)%(n:Int) < n∧wrapI ((x:Int).tdiv (n:Int))=(x:Int) / (n:Int)∧(x:Int).tmod (n:Int)=(x:Int)%(n:Int):=fun x hx=>by
  have e1:(x:Int) / (n:Int) < 2:=Int.ediv_lt_of_lt_mul (by omega) (by omega)
  have e0:0≤(x:Int) / (n:Int):=Int.ediv_nonneg (by omega) (by omega)
  exact⟨⟨e0,by omega⟩,Int.emod_nonneg _ (by omega),Int.emod_lt_of_pos _ (by omega),by rw[Zgo (by omega),w64 (by omega) (by omega)],Zcl (by omega)⟩
 have cell:∀(a b:Nat),a < 2*n→b < 2*n→∀(r2:List Int) (r3:List (List Int)),r2.length=b→Zx.l1 (n:Int) more (a:Int) (b:Int) r2 r3=Zx.l1 (n:Int) more (a:Int) ((b+1:Nat):Int) (r2++[F a b]) r3:=fun a b ha hb r2 r3 hr=>by
  obtain⟨⟨a0,a1⟩,a2,a3,a4,a5⟩:=parts a ha
  obtain⟨⟨b0,b1⟩,b2,b3,b4,b5⟩:=parts b hb
  have hFab:F a b=(n:Int)*(((a:Int) / n+(b:Int) / n)%2)+((if(b:Int) / n=1 then(b:Int)%n - (a:Int)%n else(a:Int)%n+(b:Int)%n)+more*((a:Int) / n)*((b:Int) / n))%(n:Int):=by rw[hF]
  rw[hFab,Zx.l1_eq,hw,a4,b4,a5,b5,hr,wn (j:=b) (by omega)]
  clear a4 b4 a5 b5 hw hFab
  generalize (a:Int) / (n:Int)=A at *
  generalize (b:Int) / (n:Int)=B at *
  generalize (a:Int)%(n:Int)=y at *
  generalize (b:Int)%(n:Int)=w at *
  have p0:0≤more*A:=Int.mul_nonneg m0 a0
  have p1:more*A≤8*1:=Int.mul_le_mul m8 a1 a0 (by omega)
  have q0:0≤more*A*B:=Int.mul_nonneg p0 b0
  have q1:more*A*B≤8*1:=Int.mul_le_mul (by omega) b1 b0 (by omega)
  have r0:=Int.emod_nonneg (A+B) (show(2:Int)≠0 by omega)
  have r1:=Int.emod_lt_of_pos (A+B) (show(0:Int) < 2 by omega)
  have s0:0≤(n:Int)*((A+B)%2):=Int.mul_nonneg (by omega) r0
  have s1:(n:Int)*((A+B)%2)≤8*1:=Int.mul_le_mul (by omega) (by omega) r0 (by omega)
  rw[w64 (x:=more*A) (by omega) (by omega),w64 (x:=more*A*B) (by omega) (by omega),w64 (x:=A+B) (by omega) (by omega),Zcl (show 0≤A+B by omega),w64 (x:=(n:Int)*((A+B)%2)) (by omega) (by omega),w64 (x:=w - y) (by omega) (by omega),w64 (x:=y+w) (by omega) (by omega),w64 (x:=w - y+more*A*B) (by omega) (by omega),w64 (x:=y+w+more*A*B) (by omega) (by omega)]
  have hn:¬ (n:Int)=0:=by omega
  rw[if_pos (by omega),if_neg hn,if_neg hn,if_neg hn,if_neg hn]
  by_cases hB:B=1
  ·
   have u0:=Int.emod_nonneg (w - y+more*A*B) hn
   have u1:=Int.emod_lt_of_pos (w - y+more*A*B) (show(0:Int) < n by omega)
   rw[if_pos hB,if_pos hB,Mod_ (by omega) (by omega) (by omega) (by omega),Option.bind_some,if_pos (by rw[l1];omega),w64 (x:=(n:Int)*((A+B)%2)+(w - y+more*A*B)%(n:Int)) (by omega) (by omega)]
  ·
   have u0:=Int.emod_nonneg (y+w+more*A*B) hn
   have u1:=Int.emod_lt_of_pos (y+w+more*A*B) (show(0:Int) < n by omega)
   rw[if_neg hB,if_neg hB,Mod_ (by omega) (by omega) (by omega) (by omega),Option.bind_some,if_pos (by rw[l1];omega),w64 (x:=(n:Int)*((A+B)%2)+(y+w+more*A*B)%(n:Int)) (by omega) (by omega)]
 have main:=up (2*n) (fun a=>Zx.l0 (n:Int) more (a:Int) ((List.range a).map fun a:Nat=>(List.range (2*n)).map fun b:Nat=>F a b)) (fun a ha=>by
  have inner:=up (2*n) (fun b=>Zx.l1 (n:Int) more (a:Int) (b:Int) ((List.range b).map fun b:Nat=>F a b) ((List.range a).map fun a:Nat=>(List.range (2*n)).map fun b:Nat=>F a b)) (fun b hb=>by
   rw[bld]
   exact cell a b ha hb _ _ (by simp))
  simp only[Int.natCast_zero,List.range_zero,List.map_nil]at inner
  have e:((List.range a).map fun a:Nat=>(List.range (2*n)).map fun b:Nat=>F a b).length=a:=by simp
  rw[bld,Zx.l0_eq,hw,if_pos (by omega),inner,Zx.l1_eq,hw,e,l2,wn (j:=a) (by omega),if_neg (by omega),if_pos (by omega)])
 simp only[Int.natCast_zero,List.range_zero,List.map_nil]at main
 rw[Zx.f_eq,main,Zx.l0_eq,hw,if_neg (by omega),hF]
 rfl
theorem wrB {x:Int} (h0:0≤x) (h1:x < 256):wr .u8 x=x:=by
 show hid _=_
 rw[hid_eq]
 simp[IntKind.wrap,IntKind.bits,IntKind.signed]
 omega
theorem ZkP {d:Nat} (d1:1≤d) (d8:d≤8) {s:ByteArray} (h1:¬ s=⟨#[107,108,101,105,110]⟩) (h2:¬ s=⟨#[99,117,98,101]⟩) (h3:¬ s=⟨#[99,50,99,52]⟩) (h4:¬ s=⟨#[115,51]⟩) (h5:¬ s=⟨#[100,105,104,101,100,114,97,108]⟩) (h6:¬ s=⟨#[113,117,97,116,101,114,110,105,111,110]⟩) (hs:s.size=2) (b0:ZdF s 0=99) (b1:ZdF s 1=48+(d:Int)):Zab.f s=some (cyc d,true):=by
 have c2:=ZfP (n:=2) (by omega) (by omega)
 have c2:ZH.f 2=some (cyc 2):=c2
 have cd:=ZfP (n:=d) d1 d8
 rw[Zab.f_eq,c2,Option.bind_some,if_neg h1,if_neg h2,if_neg h3,if_neg h4,if_neg h5,if_neg h6,b0,b1,if_pos (by omega),if_pos (by omega),if_pos rfl,if_pos (by omega),if_pos (by omega),if_pos (by omega),if_pos (by omega),if_pos (by omega),wrB (by omega) (by omega),w64 (by omega) (by omega),show 48+(d:Int) - 48=(d:Int)by omega,cd,Option.bind_some]
def nmL:List ByteArray:=[⟨#[99,49]⟩,⟨#[99,50]⟩,⟨#[99,51]⟩,⟨#[99,52]⟩,⟨#[99,53]⟩,⟨#[99,54]⟩,⟨#[99,55]⟩,⟨#[99,56]⟩,⟨#[107,108,101,105,110]⟩,⟨#[115,51]⟩,⟨#[99,50,99,52]⟩,⟨#[99,117,98,101]⟩,⟨#[100,105,104,101,100,114,97,108]⟩,⟨#[113,117,97,116,101,114,110,105,111,110]⟩]
theorem Zeq {i:Int} (i0:0≤i) (i1:i < 14):∃G,Zab.f (Ty.rd .str nmL i)=some (G,true)∧Grp G:=by
 have c2:=ZfP (n:=2) (by omega) (by omega)
 have c2:ZH.f 2=some (cyc 2):=c2
 have c4:=ZfP (n:=4) (by omega) (by omega)
 have c4:ZH.f 4=some (cyc 4):=c4
 have t3:Zx.f 3 0=some (twd 3 0):=ZfS (n:=3) (by omega) (by omega) (by omega) (by omega)
 have t4:Zx.f 4 0=some (twd 4 0):=ZfS (n:=4) (by omega) (by omega) (by omega) (by omega)
 have t5:Zx.f 4 2=some (twd 4 2):=ZfS (n:=4) (by omega) (by omega) (by omega) (by omega)
 obtain⟨g1,g2,g3,g4,g5,g6⟩:=Zjn
 have g2' := Zc3 (Zhc 2 (by omega) (by omega))
 have g4' := Zc3 (Zhc 4 (by omega) (by omega))
 have g22:=Zc3 g1
 have p1:=ZfR g2' g2'
 have p2:=ZfR g2' g22
 have p3:=ZfR g2' g4'
 have cyc' : ∀d:Nat,1≤d→d≤8→Ty.rd .str nmL ((d:Int) - 1)=⟨#[99,UInt8.ofNat (48+d)]⟩→∃G,Zab.f (Ty.rd .str nmL ((d:Int) - 1))=some (G,true)∧Grp G:=fun d d1 d8 e=>by
  rw[e]
  refine⟨cyc d,?_,Zc3 (Zhc d d8 d1)⟩
  have hd:d=1∨d=2∨d=3∨d=4∨d=5∨d=6∨d=7∨d=8:=by omega
  rcases hd with rfl|rfl|rfl|rfl|rfl|rfl|rfl|rfl <;> exact ZkP (by omega) (by omega) (by decide) (by decide) (by decide) (by decide) (by decide) (by decide) rfl rfl rfl
 have hi:i=0∨i=1∨i=2∨i=3∨i=4∨i=5∨i=6∨i=7∨i=8∨i=9∨i=10∨i=11∨i=12∨i=13:=by omega
 rcases hi with rfl|rfl|rfl|rfl|rfl|rfl|rfl|rfl|rfl|rfl|rfl|rfl|rfl|rfl
 ·
  exact cyc' 1 (by omega) (by omega) rfl
 ·
  exact cyc' 2 (by omega) (by omega) rfl
 ·
  exact cyc' 3 (by omega) (by omega) rfl
 ·
  exact cyc' 4 (by omega) (by omega) rfl
 ·
  exact cyc' 5 (by omega) (by omega) rfl
 ·
  exact cyc' 6 (by omega) (by omega) rfl
 ·
  exact cyc' 7 (by omega) (by omega) rfl
 ·
  exact cyc' 8 (by omega) (by omega) rfl
 ·
  refine⟨_,?_,g22⟩
  show Zab.f ⟨#[107,108,101,105,110]⟩=_
  rw[Zab.f_eq,c2,Option.bind_some,if_pos rfl,p1,Option.bind_some]
 ·
  refine⟨_,?_,Zc3 g4⟩
  show Zab.f ⟨#[115,51]⟩=_
  rw[Zab.f_eq,c2,Option.bind_some,if_neg (by decide),if_neg (by decide),if_neg (by decide),if_pos rfl,t3,Option.bind_some]
 ·
  refine⟨_,?_,Zc3 g3⟩
  show Zab.f ⟨#[99,50,99,52]⟩=_
  rw[Zab.f_eq,c2,Option.bind_some,if_neg (by decide),if_neg (by decide),if_pos rfl,c4,Option.bind_some,p3,Option.bind_some]
 ·
  refine⟨_,?_,Zc3 g2⟩
  show Zab.f ⟨#[99,117,98,101]⟩=_
  rw[Zab.f_eq,c2,Option.bind_some,if_neg (by decide),if_pos rfl,p1,Option.bind_some,p2,Option.bind_some]
 ·
  refine⟨_,?_,Zc3 g5⟩
  show Zab.f ⟨#[100,105,104,101,100,114,97,108]⟩=_
  rw[Zab.f_eq,c2,Option.bind_some,if_neg (by decide),if_neg (by decide),if_neg (by decide),if_neg (by decide),if_pos rfl,t4,Option.bind_some]
 ·
  refine⟨_,?_,Zc3 g6⟩
  show Zab.f ⟨#[113,117,97,116,101,114,110,105,111,110]⟩=_
  rw[Zab.f_eq,c2,Option.bind_some,if_neg (by decide),if_neg (by decide),if_neg (by decide),if_neg (by decide),if_neg (by decide),if_pos rfl,t5,Option.bind_some]
theorem Draw_ {c:List Int} {i:Int} (h:Src c i) (hh:Int):∃G j h', Zbh.f c i hh=some (G,c,j,h')∧Src c j∧Grp G:=by
 obtain⟨x,j,h', e,s,x0,x1,_⟩:=Next_ h hh 14 (by omega)
 have x1:=x1 (by omega)
 obtain⟨G,hG,hgr⟩:=Zeq x0 x1
 obtain⟨y,j2,h2,e2,s2,y0,y1,_⟩:=Next_ s h' 2 (by omega)
 have hN:Zbf.f=some nmL:=Zbf.f_eq
 have hl:((nmL.length:Nat):Int)=14:=rfl
 by_cases q:y=0
 ·
  refine⟨G,j2,h2,?_,s2,hgr⟩
  rw[Zbh.f_eq,hN,Option.bind_some,hl,e]
  dsimp only[Option.bind_some]
  rw[if_pos x0,if_pos x1,if_pos x0,if_pos x1,hG]
  dsimp only[Option.bind_some]
  rw[e2]
  dsimp only[Option.bind_some]
  rw[if_pos q]
 ·
  obtain⟨p,j3,h3,e3,s3,o,p0⟩:=Zgr s2 h2 (n:=G.length) hgr.n1 (by have:=hgr.n8;omega)
  have hr:=ZeO hgr o.ordr
  refine⟨ren G p,j3,h3,?_,s3,ZjF hgr o.ordr p0⟩
  rw[Zbh.f_eq,hN,Option.bind_some,hl,e]
  dsimp only[Option.bind_some]
  rw[if_pos x0,if_pos x1,if_pos x0,if_pos x1,hG]
  dsimp only[Option.bind_some]
  rw[e2]
  dsimp only[Option.bind_some]
  rw[if_neg q,Zp.f_eq,Option.bind_some,e3]
  dsimp only[Option.bind_some]
  rw[hr]
  rfl
end Go.Proofs.YtoljodiflhbohaaGreatDoor.V
namespace Go.Proofs.YtoljodiflhbohaaGreatDoor.V
open Go.RowKit Go.Proofs.YtoljodiflhbohaaGreatDoor.D Go.Proofs.YtoljodiflhbohaaGreatDoor.P
theorem ZkC {g:List (List Int)} (hg:Grp g):g.length≤maxLen∧∀r∈g,r.length≤maxLen:=⟨Zbu (by have:=hg.n8;omega),fun r hr=>Zbu (by have:=Zd2 hg r hr;omega)⟩
theorem ZdJ {g:List (List Int)} (hg:Grp g) {m:Int} {u:List Int} (hm:Mdl g m u):u.length≤maxLen:=Zbu (by have:=hg.n8;have:=hm.len;omega)
theorem ZdH {g:List (List Int)} (hg:Grp g) {m d:Int} {v:List Int} (h:Co g m d v):v.length≤16807:=by
 have:=h.1;have hb:=ZbA hg (d:=d) (by omega);have:=h.2.1;omega
theorem co_mx {g:List (List Int)} (hg:Grp g) {m d:Int} {v:List Int} (h:Co g m d v):v.length≤maxLen:=Zbu (by have:=ZdH hg h;omega)
theorem Zko {c:List Int} {g:List (List Int)} (hg:Grp g) {m:Int} {ua ub f h:List Int} {p q:Nat} (ha:Mdl g m ua) (hb:Mdl g m ub) (hf:Co g m p f) (hh:Co g m q h) (hpq:p+q≤2) :
  Zd.l0 c 0 g m ua m ub p q ((p+q:Nat):Int) [] f h (cupL g m ub f h p q)=Zd.j1 c:=by
 obtain⟨hl,hr⟩:=ZkC hg
 have m2:=ha.m2;have m12:=ha.m12;have n8:=hg.n8;have hla:=ha.len;have hlb:=hb.len
 have hu:=Zlh hg ha hb
 have hlu:(uuL m ua ub g.length).length=g.length:=Zeo ..
 have hR:=Zf0 hg m2 ub f h (p:=p) (q:=q) (by omega)
 have bF:=Zgt hg m2 ua f (n:=p) (by omega)
 have bH:=Zgt hg m2 ub h (n:=q) (by omega)
 have bR:=Zgt hg m2 (uuL m ua ub g.length) (cupL g m ub f h p q) (n:=p+q) (by omega)
 have c1:=Zf0 hg m2 ub (bdL g m ua f p) h (p:=p+1) (q:=q) (by omega)
 have c2:=Zf0 hg m2 ub f (bdL g m ub h q) (p:=p) (q:=q+1) (by omega)
 rw[show p+1+q=p+q+1 by omega]at c1
 rw[show p+(q+1)=p+q+1 by omega]at c2
 have t1:=ZcD hg hu hR (by omega) hl hr (ZdJ hg hu) (co_mx hg hR)
 have t2:=ZcD hg ha hf (by omega) hl hr (ZdJ hg ha) (co_mx hg hf)
 have t3:=ZcD hg hb hh (by omega) hl hr (ZdJ hg hb) (co_mx hg hh)
 have t4:=Zge hg ha hb bF hh hl hr (ZdJ hg ha) (ZdJ hg hb) (co_mx hg bF) (co_mx hg hh) (by omega)
 have t5:=Zge hg ha hb hf bH hl hr (ZdJ hg ha) (ZdJ hg hb) (co_mx hg hf) (co_mx hg bH) (by omega)
 rw[show p+1+q=p+q+1 by omega]at t4
 rw[show p+(q+1)=p+q+1 by omega]at t5
 have s0 : -1000≤sg p∧sg p≤1000:=by unfold sg;split <;> omega
 have t6:=Zlq hg hu c1 c2 hl hr (ZdJ hg hu) (co_mx hg c1) (co_mx hg c2) s0.1 s0.2
 have t7:=ZgW (f:=f) (h:=h) hg ha hb hpq
 have pb:∀k:Nat,k < g.length→0≤rd ua (k:Int)*rd ub (k:Int)∧rd ua (k:Int)*rd ub (k:Int)≤1000000:=fun k hk=>by
  obtain⟨a0,a1⟩:=ha.at (x:=(k:Int)) (by omega) (by omega)
  obtain⟨b0,b1⟩:=hb.at (x:=(k:Int)) (by omega) (by omega)
  exact Zcs (m:=1000) (by omega) (by omega) (by omega) (by omega) (by omega)
 have l1:∀x:Int,([x]:List Int).length=1:=fun _=>rfl
 have main:=up g.length (fun k=>Zd.l0 c (k:Int) g m ua m ub p q ((p+q:Nat):Int) (uuL m ua ub k) f h (cupL g m ub f h p q)) (fun k hk=>by
  obtain⟨p0,p1⟩:=pb k hk
  have e:(uuL m ua ub k).length=k:=Zeo ..
  have e2:uuL m ua ub (k+1)=uuL m ua ub k++[rd ua (k:Int)*rd ub (k:Int)%m]:=by unfold uuL;rw[List.range_succ,List.map_append,List.map_singleton]
  rw[e2,Zd.l0_eq,if_pos (by omega),if_pos (by omega),if_pos (by omega),if_pos (by omega),if_pos (by omega),if_neg (by omega),w64 (x:=rd ua (k:Int)*rd ub (k:Int)) (by omega) (by omega),Zcl p0,e,l1,if_pos (by omega),wn (j:=k) (by omega)])
 have z:uuL m ua ub 0=[]:=rfl
 simp only[Int.natCast_zero,z]at main
 have lk:=likeC ((p+q+1:Nat):Int) (bdL g m (uuL m ua ub g.length) (cupL g m ub f h p q) (p+q)) (by have:=ZdH hg bR;omega)
 rw[main,Zd.l0_eq,if_neg (by omega),t1,Option.bind_some,t2,Option.bind_some,t3,Option.bind_some]
 dsimp only
 rw[t4,Option.bind_some,t5,Option.bind_some,Zcl (by omega)]
 dsimp only
 rw[←t7]at t6
 by_cases hs:(p:Int)%2=1
 ·
  have e:sg p = -1:=by unfold sg;exact if_pos hs
  rw[e]at t6
  rw[if_pos hs,t6,Option.bind_some]
  dsimp only
  rw[if_pos rfl,if_pos rfl,if_pos rfl,if_pos rfl,if_pos rfl,if_pos rfl,lk,Option.bind_some,if_pos rfl]
 ·
  have e:sg p=1:=by unfold sg;exact if_neg hs
  rw[e]at t6
  rw[if_neg hs,t6,Option.bind_some]
  dsimp only
  rw[if_pos rfl,if_pos rfl,if_pos rfl,if_pos rfl,if_pos rfl,if_pos rfl,lk,Option.bind_some,if_pos rfl]
end Go.Proofs.YtoljodiflhbohaaGreatDoor.V
set_option maxHeartbeats 2000000
namespace Go.Proofs.YtoljodiflhbohaaGreatDoor.V
open Go.RowKit Go.Proofs.YtoljodiflhbohaaGreatDoor.D Go.Proofs.YtoljodiflhbohaaGreatDoor.P
theorem elements {g:List (List Int)} (hg:Grp g) {xs:List Int} (hl:xs.length≤maxLen):ZQ.f g xs=some (ite_ (AllIn g.length xs) 0 2):=by
 have hm:=Zcj
 have n8:=hg.n8
 have hG:Zs.f g=some true:=by rw[Is_ g,B_pos hg]
 rw[ZQ.f_eq]
 (with_reducible repeat (first|refine Zj (by first|assumption|omega|rfl|exact B_pos (by omega)) ?_|refine Zi (by first|assumption|omega|decide|exact B_not (by omega)) ?_|refine Ze (by first|assumption) ?_|dsimp only))
 have hw:wrapI ((g.length:Int) - 1)=g.length - 1:=w64 (by omega) (by omega)
 rcases scan xs.length (fun i=>ZQ.l0 xs i g) (fun i=>0≤rd xs i∧rd xs i < g.length) (some 2) (fun i i0 i1 _=>by
  refine⟨fun h => ?_,fun h => ?_⟩ <;> (rw[ZQ.l0_eq,Zp.f_eq,Option.bind_some,hw]) <;> ((with_reducible repeat (first|refine Zj (by first|assumption|omega|rfl|exact B_pos (by omega)) ?_|refine Zi (by first|assumption|omega|decide|exact B_not (by omega)) ?_|refine Ze (by first|assumption|exact In_ _ _ _) ?_|dsimp only));first|done|(with_reducible rfl)|simp (disch:=omega) only[w64]|(show False;done)))with ⟨h,e⟩|⟨j,j0,j1,_,h,_,e⟩
 ·
  have h:AllIn g.length xs:=h
  rw[ZbK h,e]
  (rw[ZQ.l0_eq])
  ((with_reducible repeat (first|refine Zj (by first|assumption|omega|rfl|exact B_pos (by omega)) ?_|refine Zi (by first|assumption|omega|decide|exact B_not (by omega)) ?_|refine Ze (by first|assumption) ?_|dsimp only));first|done|(with_reducible rfl)|simp (disch:=omega) only[w64]|(show False;done))
 ·
  rw[ZbN fun k=>h (k j j0 j1)]
  exact e
theorem ZdT {n x:Int}:AllIn n [x]↔0≤x∧x < n:=⟨fun h=>h.mem (List.mem_singleton.2 rfl),fun h=>ZbR h.1 h.2⟩
theorem ZkG {n:Int} {xs:List Int} {C:Int→Int} (hx:AllIn n xs) (hC:∀y:Int,0≤y→y < n→0≤C y∧C y < n):AllIn n (xs.map C):=ZbU fun x h=>by
 obtain⟨y,hy,rfl⟩:=List.mem_map.1 h
 obtain⟨a,b⟩:=hx.mem hy
 exact hC y a b
end Go.Proofs.YtoljodiflhbohaaGreatDoor.V
namespace Go.Proofs.YtoljodiflhbohaaGreatDoor.V
open Go.RowKit Go.Proofs.YtoljodiflhbohaaGreatDoor.D Go.Proofs.YtoljodiflhbohaaGreatDoor.P
theorem Zia (g h:List (List Int)) (hl:g.length≤maxLen) (hr:∀r∈g,r.length≤maxLen) (kl:h.length≤maxLen) (kr:∀r∈h,r.length≤maxLen):Zac.f [g,h]=some (B (Grp g∧Grp h)):=by
 have h1:=Ze1 g hl hr
 have h2:=Ze1 h kl kr
 have r0:Ty.rd (.sl 27 (.sl 2 (.int .i64))) [g,h] 0=g:=rfl
 have r1:Ty.rd (.sl 27 (.sl 2 (.int .i64))) [g,h] 1=h:=rfl
 have w0:wrapI (0+1)=1:=w64 (by omega) (by omega)
 have w1:wrapI (1+1)=2:=w64 (by omega) (by omega)
 have ll:(([g,h]:List (List (List Int))).length:Int)=2:=rfl
 rw[Zac.f_eq,ll,Zac.l0_eq,ll,r0,w0]
 by_cases c1:Grp g
 ·
  rw[B_pos c1]at h1
  (with_reducible repeat (first|refine Zj (by first|assumption|omega|rfl|exact B_pos (by omega)) ?_|refine Zi (by first|assumption|omega|decide|exact B_not (by omega)) ?_|refine Ze (by first|assumption) ?_|dsimp only))
  rw[Zac.l0_eq,ll,r1,w1]
  by_cases c2:Grp h
  ·
   rw[B_pos c2]at h2
   rw[B_pos ⟨c1,c2⟩]
   (with_reducible repeat (first|refine Zj (by first|assumption|omega|rfl|exact B_pos (by omega)) ?_|refine Zi (by first|assumption|omega|decide|exact B_not (by omega)) ?_|refine Ze (by first|assumption) ?_|dsimp only))
   rw[Zac.l0_eq]
   ((with_reducible repeat (first|refine Zj (by first|assumption|omega|rfl|exact B_pos (by omega)) ?_|refine Zi (by first|assumption|omega|decide|exact B_not (by omega)) ?_|refine Ze (by first|assumption) ?_|dsimp only));first|done|(with_reducible rfl)|simp (disch:=omega) only[w64]|(show False;done))
  ·
   rw[B_neg c2]at h2
   rw[B_neg fun q=>c2 q.2]
   ((with_reducible repeat (first|refine Zj (by first|assumption|omega|rfl|exact B_pos (by omega)) ?_|refine Zi (by first|assumption|omega|decide|exact B_not (by omega)) ?_|refine Ze (by first|assumption) ?_|dsimp only));first|done|(with_reducible rfl)|simp (disch:=omega) only[w64]|(show False;done))
 ·
  rw[B_neg c1]at h1
  rw[B_neg fun q=>c1 q.1]
  ((with_reducible repeat (first|refine Zj (by first|assumption|omega|rfl|exact B_pos (by omega)) ?_|refine Zi (by first|assumption|omega|decide|exact B_not (by omega)) ?_|refine Ze (by first|assumption) ?_|dsimp only));first|done|(with_reducible rfl)|simp (disch:=omega) only[w64]|(show False;done))
def Hom (g h:List (List Int)) (f:List Int):Prop:=∀x:Int,0≤x→x < g.length→∀y:Int,0≤y→y < g.length→rd f (T g x y)=T h (rd f x) (rd f y)
theorem Zfr {g h:List (List Int)} (hg:Grp g) (hh:Grp h) {f:List Int} (hf:AllIn h.length f) (hl:f.length=g.length):Zm.f g h f=some (B (Hom g h f)):=by
 have n8:=hg.n8;have m8:=hh.n8
 rw[Zm.f_eq,hl]
 refine scanT g.length (fun i=>Zm.l0 f (g.length:Int) (g.length:Int) i g h) (fun x=>∀y:Int,0≤y→y < g.length→rd f (T g x y)=T h (rd f x) (rd f y)) (fun x x0 x1 _ => ?_) (fun _=>by(rw[Zm.l0_eq]);((with_reducible repeat (first|refine Zj (by first|assumption|omega|rfl|exact B_pos (by omega)) ?_|refine Zi (by first|assumption|omega|decide|exact B_not (by omega)) ?_|refine Ze (by first|assumption) ?_|dsimp only));first|done|(with_reducible rfl)|simp (disch:=omega) only[w64]|(show False;done)))
 have inner:=scanI g.length (fun y=>Zm.l1 f (g.length:Int) x (g.length:Int) x (g.length:Int) y g h) (fun y=>rd f (T g x y)=T h (rd f x) (rd f y)) (some false) (Zm.l0 f (g.length:Int) (g.length:Int) (x+1) g h) (fun y y0 y1 _=>by
  obtain⟨a0,a1⟩:=hf x x0 (by omega)
  obtain⟨b0,b1⟩:=hf y y0 (by omega)
  obtain⟨e0,e1⟩:=hg.ent x y x0 x1 y0 y1
  have t1:=times2 hg x0 x1 y0 y1
  have t2:=times2 hh a0 a1 b0 b1
  refine⟨fun h => ?_,fun h => ?_⟩ <;> (rw[Zm.l1_eq]) <;> ((with_reducible repeat (first|refine Zj (by first|assumption|omega|rfl|exact B_pos (by omega)) ?_|refine Zi (by first|assumption|omega|decide|exact B_not (by omega)) ?_|refine Ze (by first|assumption) ?_|dsimp only));first|done|(with_reducible rfl)|simp (disch:=omega) only[w64]|(show False;done))) (fun _=>by(rw[Zm.l1_eq]);((with_reducible repeat (first|refine Zj (by first|assumption|omega|rfl|exact B_pos (by omega)) ?_|refine Zi (by first|assumption|omega|decide|exact B_not (by omega)) ?_|refine Ze (by first|assumption) ?_|dsimp only));first|done|(with_reducible rfl)|simp (disch:=omega) only[w64]|(show False;done)))
 refine⟨fun h => ?_,fun h => ?_⟩ <;> (rw[Zm.l0_eq]) <;> (with_reducible repeat (first|refine Zj (by first|assumption|omega|rfl|exact B_pos (by omega)) ?_|refine Zi (by first|assumption|omega|decide|exact B_not (by omega)) ?_|refine Ze (by first|assumption) ?_|dsimp only))
 ·
  exact inner.1 h
 ·
  exact inner.2 h
theorem ZfQ {g h:List (List Int)} (hg:Grp g) (hh:Grp h) {f:List Int} (hf:AllIn h.length f) (hl:f.length=g.length):Zk.f g h f=some (B (Hom g h f)):=by
 have n8:=hg.n8;have m8:=hh.n8
 rw[Zk.f_eq]
 refine scanT g.length (fun i=>Zk.l0 f i g h) (fun x=>∀y:Int,0≤y→y < g.length→rd f (T g x y)=T h (rd f x) (rd f y)) (fun x x0 x1 _ => ?_) (fun _=>by(rw[Zk.l0_eq,Zp.f_eq,Option.bind_some]);((with_reducible repeat (first|refine Zj (by first|assumption|omega|rfl|exact B_pos (by omega)) ?_|refine Zi (by first|assumption|omega|decide|exact B_not (by omega)) ?_|refine Ze (by first|assumption) ?_|dsimp only));first|done|(with_reducible rfl)|simp (disch:=omega) only[w64]|(show False;done)))
 have rx:=hg.row x x0 x1
 have inner:=scanI g.length (fun y=>Zk.l1 f x y g h) (fun y=>rd f (T g x y)=T h (rd f x) (rd f y)) (some false) (Zk.l0 f (x+1) g h) (fun y y0 y1 _=>by
  obtain⟨a0,a1⟩:=hf x x0 (by omega)
  obtain⟨b0,b1⟩:=hf y y0 (by omega)
  obtain⟨e0,e1⟩:=hg.ent x y x0 x1 y0 y1
  have ra:=hh.row _ a0 a1
  refine⟨fun h => ?_,fun h => ?_⟩ <;> (rw[Zk.l1_eq,Zp.f_eq,Option.bind_some]) <;> ((with_reducible repeat (first|refine Zj (by first|assumption|omega|rfl|exact B_pos (by omega)) ?_|refine Zi (by first|assumption|omega|decide|exact B_not (by omega)) ?_|refine Ze (by first|assumption) ?_|dsimp only));first|done|(with_reducible rfl)|simp (disch:=omega) only[w64]|(show False;done))) (fun _=>by(rw[Zk.l1_eq,Zp.f_eq,Option.bind_some]);((with_reducible repeat (first|refine Zj (by first|assumption|omega|rfl|exact B_pos (by omega)) ?_|refine Zi (by first|assumption|omega|decide|exact B_not (by omega)) ?_|refine Ze (by first|assumption) ?_|dsimp only));first|done|(with_reducible rfl)|simp (disch:=omega) only[w64]|(show False;done)))
 refine⟨fun h => ?_,fun h => ?_⟩ <;> (rw[Zk.l0_eq,Zp.f_eq,Option.bind_some]) <;> (with_reducible repeat (first|refine Zj (by first|assumption|omega|rfl|exact B_pos (by omega)) ?_|refine Zi (by first|assumption|omega|decide|exact B_not (by omega)) ?_|refine Ze (by first|assumption) ?_|dsimp only))
 ·
  exact inner.1 h
 ·
  exact inner.2 h
theorem Zlg {g:List (List Int)} (hl:g.length≤1048576) (m:Int) {F:Int→Option Int} {G:Nat→Int} (hF:∀i:Nat,i < g.length→F (i:Int)=some (G i)):ZaM.f g m F=some (m,(List.range g.length).map G):=by
 rw[ZaM.f_eq,ZX.f_eq,Option.bind_some]
 have:=up g.length (fun j=>ZaM.l0 F (g.length:Int) (j:Int) 0 m [] ((List.range j).map G)) (fun j h=>by
  have l1:((List.range j).map G).length=j:=by rw[List.length_map,List.length_range]
  have l2:∀x:Int,([x]:List Int).length=1:=fun _=>rfl
  rw[List.range_succ,List.map_append,List.map_singleton,ZaM.l0_eq,wn (j:=j) (by omega),hF j h,Option.bind_some,l1,l2]
  ((with_reducible repeat (first|refine Zj (by first|assumption|omega|rfl|exact B_pos (by omega)) ?_|refine Zi (by first|assumption|omega|decide|exact B_not (by omega)) ?_|refine Ze (by first|assumption) ?_|dsimp only));first|done|(with_reducible rfl)|simp (disch:=omega) only[w64]|(show False;done)))
 simp only[Int.natCast_zero,List.range_zero,List.map_nil]at this
 rw[this,ZaM.l0_eq]
 ((with_reducible repeat (first|refine Zj (by first|assumption|omega|rfl|exact B_pos (by omega)) ?_|refine Zi (by first|assumption|omega|decide|exact B_not (by omega)) ?_|refine Ze (by first|assumption) ?_|dsimp only));first|done|(with_reducible rfl)|simp (disch:=omega) only[w64]|(show False;done))
theorem Zks {xs:List Int} (C:Int→Int) {j:Nat} (h:j < xs.length):((xs.take j).map C++xs.drop j).set j (C (rd xs (j:Int)))=(xs.take (j+1)).map C++xs.drop (j+1):=by
 have hl:((xs.take j).map C).length=j:=by rw[List.length_map,List.length_take];omega
 rw[List.set_append,if_neg (by omega),hl,Nat.sub_self,Zi0 h,List.set_cons_zero,ZcR h,List.map_append]
 simp
theorem ZlD {xs:List Int} (C:Int→Int) {j:Nat} (h:j < xs.length):rd ((xs.take j).map C++xs.drop j) (j:Int)=rd xs (j:Int):=by
 have hl:((xs.take j).map C).length=j:=by rw[List.length_map,List.length_take];omega
 simp[rd,List.getD_eq_getElem?_getD,List.getElem?_append,hl,Nat.min_eq_left (Nat.le_of_lt h)]
theorem Zle {xs:List Int} (C:Int→Int) {j:Nat} (h:j≤xs.length):((xs.take j).map C++xs.drop j).length=xs.length:=by rw[List.length_append,List.length_map,List.length_take,List.length_drop];omega
theorem Zdt {n:Nat} {F G:Nat→Int} (h:∀i,i < n→F i=G i):(List.range n).map F=(List.range n).map G:=List.map_congr_left fun i hi=>h i (List.mem_range.1 hi)
theorem Zd0 (g h:List (List Int)) (m:Int) (u f:List Int) (d:Int) (v:List Int) (hl:g.length≤maxLen) (hr:∀r∈g,r.length≤maxLen) (kl:h.length≤maxLen) (kr:∀r∈h,r.length≤maxLen) (hu:u.length≤maxLen) (hfl:f.length≤maxLen) (hv:v.length≤maxLen) :
  ∃(a:Int) (R:List Int) (b:Int) (S:List Int) (c:Int),Z8.f g h m u f d v=some (a,R,b,S,c)∧ZaQ.f g h m u f d v=some (a,R,b,S,c)∧R.length≤1048576∧S.length≤1048576∧(c=0→Grp g∧Grp h∧Mdl h m u∧f.length=g.length∧AllIn h.length f∧Hom g h f∧∃n:Nat,Co h m n v∧d=n∧a=m∧R=(List.range g.length).map (fun i:Nat=>rd u (rd f (i:Int)))∧b=n∧S=(List.range (cells g (n:Int)).toNat).map (fun i:Nat=>At h v ((lst ((g.length:Int) - 1) n (i:Int)).map (rd f))))∧(Grp g→Grp h→Mdl h m u→f.length=g.length→AllIn h.length f→Hom g h f→Co h m d v→c=0):=by
 have hIs:=Is_ g
 have hG2:=Zia g h hl hr kl kr
 have hM:=Zc0 h kl kr m u hu
 by_cases h0:Grp g
 rotate_left
 ·
  rcases co_codes h kl kr m u hu d v hv with ⟨_,_,_,cI,cS⟩|⟨_,cI,cS⟩ <;> refine⟨0,[],0,[],1,?_,?_,by simp,by simp,fun q=>absurd q (by decide),fun q=>absurd q h0⟩
  ·
   rw[Z8.f_eq];(with_reducible repeat (first|refine Zj (by first|assumption|omega|rfl|exact B_pos (by omega)) ?_|refine Zi (by first|assumption|omega|decide|exact B_not (by omega)) ?_|refine Ze (by first|assumption) ?_|dsimp only));rw[Z8.j0_eq];((with_reducible repeat (first|refine Zj (by first|assumption|omega|rfl|exact B_pos (by omega)) ?_|refine Zi (by first|assumption|omega|decide|exact B_not (by omega)) ?_|refine Ze (by first|assumption) ?_|dsimp only));first|done|(with_reducible rfl)|simp (disch:=omega) only[w64]|(show False;done))
  ·
   rw[B_neg fun q=>h0 q.1]at hG2
   rw[ZaQ.f_eq];((with_reducible repeat (first|refine Zj (by first|assumption|omega|rfl|exact B_pos (by omega)) ?_|refine Zi (by first|assumption|omega|decide|exact B_not (by omega)) ?_|refine Ze (by first|assumption) ?_|dsimp only));first|done|(with_reducible rfl)|simp (disch:=omega) only[w64]|(show False;done))
  ·
   rw[Z8.f_eq];(with_reducible repeat (first|refine Zj (by first|assumption|omega|rfl|exact B_pos (by omega)) ?_|refine Zi (by first|assumption|omega|decide|exact B_not (by omega)) ?_|refine Ze (by first|assumption) ?_|dsimp only));rw[Z8.j0_eq];((with_reducible repeat (first|refine Zj (by first|assumption|omega|rfl|exact B_pos (by omega)) ?_|refine Zi (by first|assumption|omega|decide|exact B_not (by omega)) ?_|refine Ze (by first|assumption) ?_|dsimp only));first|done|(with_reducible rfl)|simp (disch:=omega) only[w64]|(show False;done))
  ·
   rw[B_neg fun q=>h0 q.1]at hG2
   rw[ZaQ.f_eq];((with_reducible repeat (first|refine Zj (by first|assumption|omega|rfl|exact B_pos (by omega)) ?_|refine Zi (by first|assumption|omega|decide|exact B_not (by omega)) ?_|refine Ze (by first|assumption) ?_|dsimp only));first|done|(with_reducible rfl)|simp (disch:=omega) only[w64]|(show False;done))
 rcases co_codes h kl kr m u hu d v hv with ⟨hh,hm,hc,cI,cS⟩|⟨hn,cI,cS⟩
 rotate_left
 ·
  refine⟨0,[],0,[],1,?_,?_,by simp,by simp,fun q=>absurd q (by decide),fun _ a b _ _ _ e=>absurd ⟨a,b,e⟩ hn⟩
  ·
   rw[Z8.f_eq];(with_reducible repeat (first|refine Zj (by first|assumption|omega|rfl|exact B_pos (by omega)) ?_|refine Zi (by first|assumption|omega|decide|exact B_not (by omega)) ?_|refine Ze (by first|assumption) ?_|dsimp only));rw[Z8.j0_eq];((with_reducible repeat (first|refine Zj (by first|assumption|omega|rfl|exact B_pos (by omega)) ?_|refine Zi (by first|assumption|omega|decide|exact B_not (by omega)) ?_|refine Ze (by first|assumption) ?_|dsimp only));first|done|(with_reducible rfl)|simp (disch:=omega) only[w64]|(show False;done))
  ·
   rw[ZaQ.f_eq]
   by_cases hh:Grp h
   ·
    rw[B_pos ⟨h0,hh⟩]at hG2
    by_cases hm:Mdl h m u
    ·
     rw[B_pos ⟨hh,hm⟩]at hM
     have hc:=Zci hh m u d v hv
     rw[B_neg fun q=>hn ⟨hh,hm,q⟩]at hc
     ((with_reducible repeat (first|refine Zj (by first|assumption|omega|rfl|exact B_pos (by omega)) ?_|refine Zi (by first|assumption|omega|decide|exact B_not (by omega)) ?_|refine Ze (by first|assumption) ?_|dsimp only));first|done|(with_reducible rfl)|simp (disch:=omega) only[w64]|(show False;done))
    ·
     rw[B_neg fun q=>hm q.2]at hM
     ((with_reducible repeat (first|refine Zj (by first|assumption|omega|rfl|exact B_pos (by omega)) ?_|refine Zi (by first|assumption|omega|decide|exact B_not (by omega)) ?_|refine Ze (by first|assumption) ?_|dsimp only));first|done|(with_reducible rfl)|simp (disch:=omega) only[w64]|(show False;done))
   ·
    rw[B_neg fun q=>hh q.2]at hG2
    ((with_reducible repeat (first|refine Zj (by first|assumption|omega|rfl|exact B_pos (by omega)) ?_|refine Zi (by first|assumption|omega|decide|exact B_not (by omega)) ?_|refine Ze (by first|assumption) ?_|dsimp only));first|done|(with_reducible rfl)|simp (disch:=omega) only[w64]|(show False;done))
 have n8:=h0.n8;have m8:=hh.n8;have hlu:=hm.len;have m2:=hm.m2;have m12:=hm.m12
 rw[B_pos ⟨h0,hh⟩]at hG2
 rw[B_pos ⟨hh,hm⟩]at hM
 have hcI:=Zci hh m u d v hv
 rw[B_pos hc]at hcI
 have hE:=elements hh (xs:=f) hfl
 have hA:=areIn (h.length:Int) f hfl
 have hI:ZaT.f g h f=some (ite_ (f.length=g.length∧AllIn h.length f) 0 2):=by
  rw[ZaT.f_eq,ZX.f_eq,Option.bind_some,ZX.f_eq,Option.bind_some]
  by_cases c1:f.length=g.length
  ·
   by_cases c2:AllIn h.length f
   ·
    rw[B_pos c2]at hA;rw[ZbK ⟨c1,c2⟩];((with_reducible repeat (first|refine Zj (by first|assumption|omega|rfl|exact B_pos (by omega)) ?_|refine Zi (by first|assumption|omega|decide|exact B_not (by omega)) ?_|refine Ze (by first|assumption) ?_|dsimp only));first|done|(with_reducible rfl)|simp (disch:=omega) only[w64]|(show False;done))
   ·
    rw[B_neg c2]at hA;rw[ZbN fun q=>c2 q.2];((with_reducible repeat (first|refine Zj (by first|assumption|omega|rfl|exact B_pos (by omega)) ?_|refine Zi (by first|assumption|omega|decide|exact B_not (by omega)) ?_|refine Ze (by first|assumption) ?_|dsimp only));first|done|(with_reducible rfl)|simp (disch:=omega) only[w64]|(show False;done))
  ·
   rw[ZbN fun q=>c1 q.1];((with_reducible repeat (first|refine Zj (by first|assumption|omega|rfl|exact B_pos (by omega)) ?_|refine Zi (by first|assumption|omega|decide|exact B_not (by omega)) ?_|refine Ze (by first|assumption) ?_|dsimp only));first|done|(with_reducible rfl)|simp (disch:=omega) only[w64]|(show False;done))
 by_cases c:f.length=g.length∧AllIn h.length f
 rotate_left
 ·
  rw[ZbN c]at hI
  refine⟨0,[],0,[],2,?_,?_,by simp,by simp,fun q=>absurd q (by decide),fun _ _ _ a b _ _=>absurd ⟨a,b⟩ c⟩
  ·
   rw[Z8.f_eq];(with_reducible repeat (first|refine Zj (by first|assumption|omega|rfl|exact B_pos (by omega)) ?_|refine Zi (by first|assumption|omega|decide|exact B_not (by omega)) ?_|refine Ze (by first|assumption) ?_|dsimp only));rw[Z8.j0_eq]
   by_cases c1:f.length=g.length
   ·
    rw[ZbN fun q=>c ⟨c1,q⟩]at hE;((with_reducible repeat (first|refine Zj (by first|assumption|omega|rfl|exact B_pos (by omega)) ?_|refine Zi (by first|assumption|omega|decide|exact B_not (by omega)) ?_|refine Ze (by first|assumption) ?_|dsimp only));first|done|(with_reducible rfl)|simp (disch:=omega) only[w64]|(show False;done))
   ·
    ((with_reducible repeat (first|refine Zj (by first|assumption|omega|rfl|exact B_pos (by omega)) ?_|refine Zi (by first|assumption|omega|decide|exact B_not (by omega)) ?_|refine Ze (by first|assumption) ?_|dsimp only));first|done|(with_reducible rfl)|simp (disch:=omega) only[w64]|(show False;done))
  ·
   rw[ZaQ.f_eq];((with_reducible repeat (first|refine Zj (by first|assumption|omega|rfl|exact B_pos (by omega)) ?_|refine Zi (by first|assumption|omega|decide|exact B_not (by omega)) ?_|refine Ze (by first|assumption) ?_|dsimp only));first|done|(with_reducible rfl)|simp (disch:=omega) only[w64]|(show False;done))
 rw[ZbK c]at hI
 obtain⟨c1,c2⟩:=c
 rw[ZbK c2]at hE
 have hHI:=Zfr h0 hh c2 c1
 have hHS:=ZfQ h0 hh c2 c1
 by_cases hH:Hom g h f
 rotate_left
 ·
  rw[B_neg hH]at hHI hHS
  refine⟨0,[],0,[],5,?_,?_,by simp,by simp,fun q=>absurd q (by decide),fun _ _ _ _ _ a _=>absurd a hH⟩
  ·
   rw[Z8.f_eq];(with_reducible repeat (first|refine Zj (by first|assumption|omega|rfl|exact B_pos (by omega)) ?_|refine Zi (by first|assumption|omega|decide|exact B_not (by omega)) ?_|refine Ze (by first|assumption) ?_|dsimp only));rw[Z8.j0_eq];((with_reducible repeat (first|refine Zj (by first|assumption|omega|rfl|exact B_pos (by omega)) ?_|refine Zi (by first|assumption|omega|decide|exact B_not (by omega)) ?_|refine Ze (by first|assumption) ?_|dsimp only));first|done|(with_reducible rfl)|simp (disch:=omega) only[w64]|(show False;done))
  ·
   rw[ZaQ.f_eq];((with_reducible repeat (first|refine Zj (by first|assumption|omega|rfl|exact B_pos (by omega)) ?_|refine Zi (by first|assumption|omega|decide|exact B_not (by omega)) ?_|refine Ze (by first|assumption) ?_|dsimp only));first|done|(with_reducible rfl)|simp (disch:=omega) only[w64]|(show False;done))
 rw[B_pos hH]at hHI hHS
 obtain⟨n,rfl⟩:=Int.eq_ofNat_of_zero_le hc.1.1
 have n3:n≤3:=by have:=hc.1.2;omega
 have hb:=ZbA h0 (d:=(n:Int)) (by omega)
 have hCl:=Zft h0 (d:=(n:Int)) (by omega) (by omega)
 obtain⟨U,hU⟩:∃U:Nat→Int,∀i,U i=rd u (rd f (i:Int)):=⟨_,fun _=>rfl⟩
 obtain⟨V,hV⟩:∃V:Nat→Int,∀i,V i=At h v ((lst ((g.length:Int) - 1) n (i:Int)).map (rd f)):=⟨_,fun _=>rfl⟩
 have val:∀i:Nat,(i:Int) < cells g n→AllIn h.length ((lst ((g.length:Int) - 1) n (i:Int)).map (rd f))∧0≤V i∧V i < m:=fun i hi=>by
  obtain⟨hx,_⟩:=Zb7 h0 (n:=n) (i:=i) hi
  have hll:=ZbE ((g.length:Int) - 1) n i
  have hy:AllIn h.length ((lst ((g.length:Int) - 1) n i).map (rd f)):=ZbU fun y hy=>by
   obtain⟨x,hx', rfl⟩:=List.mem_map.1 hy
   obtain⟨x0,x1⟩:=hx.mem hx'
   exact c2 x x0 (by omega)
  rw[hV]
  exact⟨hy,At_bd hh (by omega) hc hy (by rw[List.length_map];omega)⟩
 refine⟨m,(List.range g.length).map U,(n:Int),(List.range (cells g n).toNat).map V,0,?_,?_,by rw[List.length_map,List.length_range];omega,by rw[List.length_map,List.length_range];omega,fun _=>⟨h0,hh,hm,c1,c2,hH,n,hc,rfl,rfl,List.map_congr_left fun i _=>hU i,rfl,List.map_congr_left fun i _=>hV i⟩,fun _ _ _ _ _ _ _=>rfl⟩
 ·
  have hP:ZL.f g m u f h n v=some (m,(List.range g.length).map U,(n:Int),(List.range (cells g n).toNat).map V):=by
   rw[ZL.f_eq]
   have s1:=up g.length (fun j=>ZL.l0 f (j:Int) g m u h n v 0 0 m n ((List.range j).map U) []) (fun j hj=>by
    have l1:((List.range j).map U).length=j:=by rw[List.length_map,List.length_range]
    have l2:∀x:Int,([x]:List Int).length=1:=fun _=>rfl
    obtain⟨a0,a1⟩:=c2 j (by omega) (by omega)
    rw[List.range_succ,List.map_append,List.map_singleton,hU,ZL.l0_eq,Zp.f_eq,Option.bind_some,wn (j:=j) (by omega),l1,l2]
    ((with_reducible repeat (first|refine Zj (by first|assumption|omega|rfl|exact B_pos (by omega)) ?_|refine Zi (by first|assumption|omega|decide|exact B_not (by omega)) ?_|refine Ze (by first|assumption) ?_|dsimp only));first|done|(with_reducible rfl)|simp (disch:=omega) only[w64]|(show False;done)))
   simp only[Int.natCast_zero,List.range_zero,List.map_nil]at s1
   rw[s1,ZL.l0_eq,Zp.f_eq,Option.bind_some]
   (with_reducible repeat (first|refine Zj (by first|assumption|omega|rfl|exact B_pos (by omega)) ?_|refine Zi (by first|assumption|omega|decide|exact B_not (by omega)) ?_|refine Ze (by first|assumption) ?_|dsimp only))
   have s2:=up (cells g n).toNat (fun i=>ZL.l1 f (i:Int) g h n v 0 0 m n ((List.range g.length).map U) ((List.range i).map V)) (fun i hi=>by
    have hVi:=hV i
    obtain⟨hy,_⟩:=val i (by omega)
    obtain⟨hx,_⟩:=Zb7 h0 (n:=n) (i:=i) (by omega)
    have hll:=ZbE ((g.length:Int) - 1) n i
    have hL:=(Zdl h0 (n:=n) (i:=i) (by omega) (by omega)).2
    obtain⟨xs,hxs⟩:∃xs,xs=lst ((g.length:Int) - 1) n i:=⟨_,rfl⟩
    rw[←hxs]at hx hll hL hy hVi
    have hat:=At_ (u:=u) hh hc hy (by rw[List.length_map];omega)
    rw[←hVi]at hat
    clear hVi
    have inner:=up xs.length (fun j=>ZL.l2 f i (j:Int) g h n v 0 0 m n ((xs.take j).map (rd f)++xs.drop j) ((List.range g.length).map U) ((List.range i).map V)) (fun j hj=>by
     obtain⟨a0,a1⟩:=hx j (by omega) (by omega)
     have l1:=Zle (rd f) (xs:=xs) (j:=j) (by omega)
     rw[←Zks (rd f) hj,ZL.l2_eq,ZlD (rd f) hj,wn (j:=j) (by omega),Int.toNat_natCast]
     ((with_reducible repeat (first|refine Zj (by first|assumption|omega|rfl|exact B_pos (by omega)) ?_|refine Zi (by first|assumption|omega|decide|exact B_not (by omega)) ?_|refine Ze (by first|assumption) ?_|dsimp only));first|done|(with_reducible rfl)|simp (disch:=omega) only[w64]|(show False;done)))
    simp only[Int.natCast_zero,List.take_zero,List.map_nil,List.drop_zero,List.nil_append,List.take_length,List.drop_length,List.append_nil]at inner
    have l2:((List.range i).map V).length=i:=by rw[List.length_map,List.length_range]
    have l3:∀y:Int,([y]:List Int).length=1:=fun _=>rfl
    have l4:(xs.map (rd f)).length=xs.length:=List.length_map ..
    rw[List.range_succ,List.map_append,List.map_singleton,ZL.l1_eq,hCl,Option.bind_some]
    (with_reducible repeat (first|refine Zj (by first|assumption|omega|rfl|exact B_pos (by omega)) ?_|refine Zi (by first|assumption|omega|decide|exact B_not (by omega)) ?_|refine Ze (by first|assumption) ?_|dsimp only))
    rw[inner,ZL.l2_eq,hat,Option.bind_some,l2,l3,wn (j:=i) (by omega)]
    ((with_reducible repeat (first|refine Zj (by first|assumption|omega|rfl|exact B_pos (by omega)) ?_|refine Zi (by first|assumption|omega|decide|exact B_not (by omega)) ?_|refine Ze (by first|assumption) ?_|dsimp only));first|done|(with_reducible rfl)|simp (disch:=omega) only[w64]|(show False;done)))
   simp only[Int.natCast_zero,List.range_zero,List.map_nil]at s2
   rw[s2,ZL.l1_eq,hCl,Option.bind_some]
   ((with_reducible repeat (first|refine Zj (by first|assumption|omega|rfl|exact B_pos (by omega)) ?_|refine Zi (by first|assumption|omega|decide|exact B_not (by omega)) ?_|refine Ze (by first|assumption) ?_|dsimp only));first|done|(with_reducible rfl)|simp (disch:=omega) only[w64]|(show False;done))
  rw[Z8.f_eq];(with_reducible repeat (first|refine Zj (by first|assumption|omega|rfl|exact B_pos (by omega)) ?_|refine Zi (by first|assumption|omega|decide|exact B_not (by omega)) ?_|refine Ze (by first|assumption) ?_|dsimp only));rw[Z8.j0_eq];((with_reducible repeat (first|refine Zj (by first|assumption|omega|rfl|exact B_pos (by omega)) ?_|refine Zi (by first|assumption|omega|decide|exact B_not (by omega)) ?_|refine Ze (by first|assumption) ?_|dsimp only));first|done|(with_reducible rfl)|simp (disch:=omega) only[w64]|(show False;done))
 ·
  have hR:ZaU.f g f m u=some (m,(List.range g.length).map U):=by
   have hun:=Zlg (g:=g) (by omega) m (F:=fun z0=>(Zar.f z0 m u f).map fun z=>z) (G:=U) (fun i hi=>by
    obtain⟨a0,a1⟩:=c2 i (by omega) (by omega)
    have:Zar.f (i:Int) m u f=some (U i):=by
     rw[Zar.f_eq,hU];((with_reducible repeat (first|refine Zj (by first|assumption|omega|rfl|exact B_pos (by omega)) ?_|refine Zi (by first|assumption|omega|decide|exact B_not (by omega)) ?_|refine Ze (by first|assumption) ?_|dsimp only));first|done|(with_reducible rfl)|simp (disch:=omega) only[w64]|(show False;done))
    show Option.map _ (Zar.f _ m u f)=_
    rw[this];rfl)
   rw[ZaU.f_eq];((with_reducible repeat (first|refine Zj (by first|assumption|omega|rfl|exact B_pos (by omega)) ?_|refine Zi (by first|assumption|omega|decide|exact B_not (by omega)) ?_|refine Ze (by first|assumption) ?_|dsimp only));first|done|(with_reducible rfl)|simp (disch:=omega) only[w64]|(show False;done))
  have hT:=told h0 m2 m12 (n:=n) (by omega) (F:=fun z0=>(Za6.f z0 n v h f).map fun z=>z) (G:=V) (fun i hi=>by
   obtain⟨hy,_⟩:=val i (by omega)
   obtain⟨hx,_⟩:=Zb7 h0 (n:=n) (i:=i) (by omega)
   have hll:=ZbE ((g.length:Int) - 1) n i
   have hat:=at_ hh hc hy (by rw[List.length_map];omega)
   have hmp:=mapped (F:=fun z0=>(ZaL.f z0 f).map fun z=>z) (G:=rd f) (lst ((g.length:Int) - 1) n i) (by omega) (fun y hy=>by
    obtain⟨y0,y1⟩:=hx.mem hy
    have:ZaL.f y f=some (rd f y):=by rw[ZaL.f_eq];((with_reducible repeat (first|refine Zj (by first|assumption|omega|rfl|exact B_pos (by omega)) ?_|refine Zi (by first|assumption|omega|decide|exact B_not (by omega)) ?_|refine Ze (by first|assumption) ?_|dsimp only));first|done|(with_reducible rfl)|simp (disch:=omega) only[w64]|(show False;done))
    show Option.map _ (ZaL.f y f)=_
    rw[this];rfl)
   have e:Za6.f (lst ((g.length:Int) - 1) n i) n v h f=some (V i):=by
    rw[Za6.f_eq,hV];((with_reducible repeat (first|refine Zj (by first|assumption|omega|rfl|exact B_pos (by omega)) ?_|refine Zi (by first|assumption|omega|decide|exact B_not (by omega)) ?_|refine Ze (by first|assumption) ?_|dsimp only));first|done|(with_reducible rfl)|simp (disch:=omega) only[w64]|(show False;done))
   show Option.map _ (Za6.f _ n v h f)=_
   rw[e];rfl)
  rw[Zdt (G:=V) fun i hi=>Int.emod_eq_of_lt (val i (by omega)).2.1 (val i (by omega)).2.2]at hT
  have hP:Zbk.f g h m u f n v=some (m,(List.range g.length).map U,(n:Int),(List.range (cells g n).toNat).map V):=by
   rw[Zbk.f_eq];((with_reducible repeat (first|refine Zj (by first|assumption|omega|rfl|exact B_pos (by omega)) ?_|refine Zi (by first|assumption|omega|decide|exact B_not (by omega)) ?_|refine Ze (by first|assumption) ?_|dsimp only));first|done|(with_reducible rfl)|simp (disch:=omega) only[w64]|(show False;done))
  rw[ZaQ.f_eq];((with_reducible repeat (first|refine Zj (by first|assumption|omega|rfl|exact B_pos (by omega)) ?_|refine Zi (by first|assumption|omega|decide|exact B_not (by omega)) ?_|refine Ze (by first|assumption) ?_|dsimp only));first|done|(with_reducible rfl)|simp (disch:=omega) only[w64]|(show False;done))
end Go.Proofs.YtoljodiflhbohaaGreatDoor.V
set_option maxHeartbeats 4000000
namespace Go.Proofs.YtoljodiflhbohaaGreatDoor.V
open Go.RowKit Go.Proofs.YtoljodiflhbohaaGreatDoor.D Go.Proofs.YtoljodiflhbohaaGreatDoor.P
theorem nu_of {l:List Int} (h:∀y∈l,y≠0):ZbG l:=fun j j0 j1 e=>h _ (ZcK j0 j1) e
theorem un_of {l:List Int} (h:(0:Int)∈l):¬ ZbG l:=fun k=>by
 obtain⟨i,hi,e⟩:=List.mem_iff_getElem.1 h
 exact k (i:Int) (by omega) (by omega) (by rw[ZbW hi,e])
theorem ZjQ {l:List Int} (h:¬ ZbG l):(0:Int)∈l:=Classical.byContradiction fun k=>h (nu_of fun y hy e=>k (e ▸ hy))
theorem At_z {g:List (List Int)} {v l:List Int} (h:(0:Int)∈l):At g v l=0:=ZfN (un_of h)
theorem ZkR {g:List (List Int)} (hg:Grp g) {m:Int} {u v:List Int} (hm:Mdl g m u) {d:Nat} (hd:d≤2) {xs:List Int} (hx:AllIn g.length xs) (hl:xs.length=d+1) (hn:¬ ZbG xs):Bd g u v xs d=0:=by
 have hz:=ZjQ hn
 have inn:∀x∈xs,0≤x∧x < g.length:=fun x hx' => hx.mem hx'
 have u0:=hm.one hg
 have hcs:d=0∨d=1∨d=2:=by omega
 rcases hcs with rfl|rfl|rfl
 ·
  match xs,hl with
  | [x],_ =>
   have e:x=0:=by simp at hz;exact hz.symm
   rw[bdZ,e,u0]
   omega
 ·
  match xs,hl with
  | [x,y],_ =>
   obtain⟨x0,x1⟩:=inn x (by simp)
   obtain⟨y0,y1⟩:=inn y (by simp)
   rw[Zes]
   by_cases e:x=0
   ·
    rw[e,u0,hg.one y y0 y1,At_z (l:=[0]) (by simp)];omega
   ·
    have e:y=0:=by simp at hz;omega
    rw[e,hg.one' x x0 x1,At_z (l:=[0]) (by simp)];omega
 ·
  match xs,hl with
  | [x,y,z],_ =>
   obtain⟨x0,x1⟩:=inn x (by simp)
   obtain⟨y0,y1⟩:=inn y (by simp)
   obtain⟨z0,z1⟩:=inn z (by simp)
   rw[bdT]
   by_cases e:x=0
   ·
    rw[e,u0,hg.one y y0 y1,At_z (l:=[0,T g y z]) (by simp),At_z (l:=[0,y]) (by simp)];omega
   by_cases e2:y=0
   ·
    rw[e2,hg.one' x x0 x1,hg.one z z0 z1,At_z (l:=[0,z]) (by simp),At_z (l:=[x,0]) (by simp)];omega
   ·
    have e:z=0:=by simp at hz;omega
    rw[e,hg.one' y y0 y1,At_z (l:=[y,0]) (by simp),At_z (l:=[T g x y,0]) (by simp)];omega
theorem Zj8 {g h:List (List Int)} (hg:Grp g) (hh:Grp h) {f:List Int} (hf:AllIn h.length f) (hl:f.length=g.length) (hH:Hom g h f):rd f 0=0:=by
 have n1:=hg.n1;have k1:=hh.n1
 obtain⟨a0,a1⟩:=hf 0 (by omega) (by omega)
 have e:=hH 0 (by omega) (by omega) 0 (by omega) (by omega)
 rw[hg.one 0 (by omega) (by omega)]at e
 refine hh.cancel_right (c:=rd f 0) a0 a1 (by omega) (by omega) a0 a1 ?_
 rw[hh.one _ a0 a1]
 exact e.symm
noncomputable def plL (g h:List (List Int)) (f v:List Int) (n:Nat):List Int:=tl g n fun xs=>At h v (xs.map (rd f))
def plU (g:List (List Int)) (u f:List Int):List Int:=(List.range g.length).map fun i:Nat=>rd u (rd f (i:Int))
theorem ZgV {g:List (List Int)} {u f:List Int} {x:Int} (x0:0≤x) (x1:x < g.length):rd (plU g u f) x=rd u (rd f x):=by
 obtain⟨k,rfl⟩:=Int.eq_ofNat_of_zero_le x0
 rw[ZbW (by simp[plU];omega)]
 simp[plU]
theorem map_f {g h:List (List Int)} {f:List Int} (hf:AllIn h.length f) (hl:f.length=g.length) {xs:List Int} (hx:AllIn g.length xs):AllIn h.length (xs.map (rd f)):=ZbU fun y hy=>by
 obtain⟨x,hx', rfl⟩:=List.mem_map.1 hy
 obtain⟨x0,x1⟩:=hx.mem hx'
 exact hf x x0 (by omega)
theorem Zk5 {g:List (List Int)} {h:List (List Int)} (hg:Grp g) (hh:Grp h) {m:Int} {u:List Int} {f:List Int} (hm:Mdl h m u) (hf:AllIn h.length f) (hl:f.length=g.length) (hH:Hom g h f):Mdl g m (plU g u f):=by
 have hlu:=hm.len
 have ln:(plU g u f).length=g.length:=by simp[plU]
 refine⟨hm.m2,hm.m12,ln,fun i i0 i1 => ?_,fun i i0 i1 j j0 j1 => ?_⟩
 ·
  obtain⟨a0,a1⟩:=hf i i0 (by omega)
  rw[ZgV i0 (by omega)]
  exact hm.unit _ a0 (by omega)
 ·
  obtain⟨t0,t1⟩:=hg.ent i j i0 (by omega) j0 (by omega)
  obtain⟨a0,a1⟩:=hf i i0 (by omega)
  obtain⟨b0,b1⟩:=hf j j0 (by omega)
  rw[ZgV t0 t1,ZgV i0 (by omega),ZgV j0 (by omega),hH i i0 (by omega) j j0 (by omega)]
  exact hm.hom _ a0 (by omega) _ b0 (by omega)
theorem ZlC {g:List (List Int)} {h:List (List Int)} (hg:Grp g) (hh:Grp h) {m:Int} {u:List Int} {f:List Int} {v:List Int} (hm:Mdl h m u) (hf:AllIn h.length f) (hl:f.length=g.length) (hH:Hom g h f) {n:Nat} (hc:Co h m n v):Co g m n (plL g h f v n):=by
 have n3:=hc.1
 have hb:=ZbA hg (d:=(n:Int)) (by omega)
 have m2:=hm.m2
 refine⟨n3,by simp[plL,tl];omega,ZbU fun x hx => ?_⟩
 obtain⟨i,hi,rfl⟩:=List.mem_map.1 hx
 have hi:=List.mem_range.1 hi
 obtain⟨hx,_⟩:=Zb7 hg (n:=n) (i:=i) (by omega)
 exact At_bd hh (by omega) hc (map_f hf hl hx) (by rw[List.length_map,ZbE])
theorem Zk9 {g:List (List Int)} {h:List (List Int)} (hg:Grp g) (hh:Grp h) {m:Int} {u:List Int} {f:List Int} {v:List Int} (hm:Mdl h m u) (hf:AllIn h.length f) (hl:f.length=g.length) (hH:Hom g h f) {n:Nat} (hn:n≤2):plL g h f (bdL h m u v n) (n+1)=bdL g m (plU g u f) (plL g h f v n) n:=by
 have m2:=hm.m2
 have fz:=Zj8 hg hh hf hl hH
 have hb:=ZbA hg (d:=((n+1:Nat):Int)) (by omega)
 refine Zdt fun i hi => ?_
 obtain⟨hx,hnu⟩:=Zb7 hg (n:=n+1) (i:=i) (by omega)
 have hll:=ZbE ((g.length:Int) - 1) (n+1) (i:Int)
 show At h (bdL h m u v n) ((lst ((g.length:Int) - 1) (n+1) (i:Int)).map (rd f))=Bd g (plU g u f) (plL g h f v n) (lst ((g.length:Int) - 1) (n+1) (i:Int)) n%m
 obtain⟨xs,hxs⟩:∃xs,xs=lst ((g.length:Int) - 1) (n+1) (i:Int):=⟨_,rfl⟩
 rw[←hxs]at hx hnu hll ⊢
 have hy:=map_f hf hl hx
 have hyl:(xs.map (rd f)).length=n+1:=by rw[List.length_map];exact hll
 have key:cg m (BdS g (plU g u f) (At g (plL g h f v n)) xs n) (1*BdS h u (At h v) (xs.map (rd f)) n):=by
  refine Ziy hg hx hll (fun x y x0 x1 y0 y1=>hH x x0 x1 y y0 y1) (fun l hl' hll' => ?_) (fun x x0 x1 => ?_)
  ·
   unfold plL
   rw[At_tl hg (by omega) _ hl' hll', Int.one_mul]
   by_cases q:ZbG l
   ·
    rw[ZbK q];exact Zbo _ _
   ·
    have h0:(0:Int)∈l.map (rd f):=List.mem_map.2 ⟨0,ZjQ q,fz⟩
    rw[ZbN q,At_z h0];exact Zbo _ _
  ·
   rw[ZgV x0 x1]
   exact Zb6 (by omega)
 rw[Int.one_mul,←Bd_eq,←Bd_eq]at key
 rw[cg_eq key]
 by_cases q:ZbG (xs.map (rd f))
 ·
  exact ZcS hh (by omega) hy hyl q
 ·
  rw[ZfN q,ZkR hh hm hn hy hyl q]
  simp
theorem Zkk {c:List Int} {g h:List (List Int)} {m:Int} {u f:List Int} {d:Int} {v:List Int} (hl:g.length≤maxLen) (hr:∀r∈g,r.length≤maxLen) (kl:h.length≤maxLen) (kr:∀r∈h,r.length≤maxLen) (hu:u.length≤maxLen) (hfl:f.length≤maxLen) (hv:v.length≤maxLen)
  (hD:ZG.f c=some (g,h,m,u,f,d,v)):Zd.j1 c=Zd.j2 c:=by
 obtain⟨a,R,b,S,e,h1,h2,h3,h4,h5,h6⟩:=Zd0 g h m u f d v hl hr kl kr hu hfl hv
 rw[Zd.j1_eq,hD,Option.bind_some]
 dsimp only
 rw[h2,Option.bind_some,h1,Option.bind_some]
 dsimp only
 rw[if_pos rfl,likeM a R h3,Option.bind_some,if_pos rfl,likeC b S h4,Option.bind_some,if_pos rfl]
 by_cases he:e=0
 rotate_left
 ·
  rw[if_neg he]
 obtain⟨hg,hh,hm,c1,c2,hH,n,hc,rfl,rfl,eR,rfl,eS⟩:=h5 he
 have eR:R=plU g u f:=eR
 have eS:S=plL g h f v n:=eS
 subst eR eS
 rw[if_pos he]
 by_cases hn:(n:Int) < 3
 rotate_left
 ·
  rw[if_neg hn]
 have hU:=Zk5 hg hh hm c2 c1 hH
 have hS:=ZlC hg hh hm c2 c1 hH hc
 have bV:=Zgt hh hm.m2 u v (n:=n) (by omega)
 have t1:=ZcD hh hm hc (by omega) kl kr hu hv
 obtain⟨a', R', b', S', e', k1,k2,k3,k4,k5,k6⟩:=Zd0 g h a u f ((n+1:Nat):Int) (bdL h a u v n) hl hr kl kr hu hfl (co_mx hh bV)
 have he' := k6 hg hh hm c1 c2 hH bV
 obtain⟨_,_,_,_,_,_,n', _,en,_,_,rfl,eS'⟩:=k5 he'
 have en:n+1=n' := by omega
 subst en
 have eS' : S' = plL g h f (bdL h a u v n) (n+1):=eS'
 rw[Zk9 hg hh hm c2 c1 hH (by omega)]at eS'
 have t3:=ZcD hg hU hS (by omega) hl hr (ZdJ hg hU) (co_mx hg hS)
 rw[if_pos hn,t1,Option.bind_some]
 dsimp only
 rw[k2,Option.bind_some,t3,Option.bind_some]
 dsimp only
 rw[←eS', if_pos rfl,if_pos he', if_pos rfl,likeC _ S' k4,Option.bind_some,if_pos rfl]
end Go.Proofs.YtoljodiflhbohaaGreatDoor.V
