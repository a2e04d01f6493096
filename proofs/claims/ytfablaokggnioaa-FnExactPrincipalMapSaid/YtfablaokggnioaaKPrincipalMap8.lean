/- What the proof of the law PrincipalMap stands on, part 8: words, each Go function's Lean function, and that the Go code comes to its answers; no condition. (Packed by wip/myprint/pack.py out of what the kit's printer wrote, its words among it, partly by our patches of it, and out of texts of this session.) -/
import Derived.Test.YtfablaokggnioaaKPrincipalMap1
import Derived.Test.YtfablaokggnioaaKPrincipalMap3
import Derived.Test.YtfablaokggnioaaKPrincipalMap6
import Derived.Test.YtfablaokggnioaaKPrincipalMap7
namespace Go.Proofs.Ytfablaokggnioaa.Pa
open Go.RowKit Go.Proofs.YtfablaokggnioaaW.PrintWords Go.Proofs.YtfablaokggnioaaW.PrintLast Go.Proofs.YtfablaokggnioaaW.PrintMore
attribute [local go_sem] max2_int min2_int max_two min_two max_three min_three max_four min_four
set_option linter.unusedVariables false
set_option linter.unusedSimpArgs false
def laws_FnExactPrincipalMap.f (k : Nat) (l0_0 : List (List Int)) (a1_0 : Int) (l1_1 : List Int) (a2 : Int) : Option Bool := (laws_szGroup.f k l0_0 1048576).bind fun t103 => if t103 < 0 then some true else ((laws_szModule.f a1_0 l1_1 t103).bind fun t105 => if t105 < 0 then some true else ((laws_toGroup.f k l0_0).bind fun t108 => (laws_toModule.f k a1_0 l1_1).bind fun bt111 => (spec_PrincipalMap.f k t108 bt111.1 bt111.2 a2).bind fun bt115 => (laws_toGroup.f k l0_0).bind fun t119 => (laws_toModule.f k a1_0 l1_1).bind fun bt124 => (impl_PrincipalMap.f k t119 bt124.1 bt124.2 a2).bind fun bt130 => (laws_eqInt64S.f k bt130.1 bt115.1).bind fun t134 => if t134 = true then (if bt130.2 = bt115.2 then ((laws_toGroup.f k l0_0).bind fun t137 => (laws_eqGroup.f k t119 t137).bind fun t140 => if t140 = true then ((laws_toModule.f k a1_0 l1_1).bind fun bt143 => (laws_eqModule.f k bt124.1 bt124.2 bt143.1 bt143.2).bind fun t147 => if t147 = true then ((laws_markGroup.f k t119 1).bind fun bt149 => (laws_markModule.f k bt124.1 bt124.2 bt149.1).bind fun bt152 => (laws_eqInt64S.f k bt130.1 bt115.1).bind fun t155 => if bt152.1 < 0 then none else (if t155 = true then (if bt130.2 = bt130.2 then ((laws_markInt64S.f k bt130.1 1).bind fun bt157 => (laws_heldInt64S.f k bt157.2 1).bind fun t160 => if t160 < 0 then none else (if t160 = bt157.1 then ((laws_toGroup.f k l0_0).bind fun t163 => (laws_toModule.f k a1_0 l1_1).bind fun bt166 => (impl_PrincipalMap.f k t163 bt166.1 bt166.2 a2).bind fun bt170 => (laws_eqInt64S.f k bt170.1 bt115.1).bind fun t174 => if t174 = true then (if bt170.2 = bt130.2 then ((laws_heldInt64S.f k bt157.2 1).bind fun t176 => if t176 < 0 then none else (if t176 = t160 then (some true) else none)) else none) else none) else none)) else none) else none)) else none) else none) else none) else none))
def laws_FnExactPrincipalMap.T8 : Bool × List (List Nat × List Nat) := (true, [([], []), ([0], [0]), ([], []), ([2, 1], [2]), ([], []), ([1, 3, 4, 3], [1, 3, 4]), ([5], [5]), ([6], [6]), ([6], [6]), ([7, 5, 0, 1, 2, 3, 4, 5, 6, 7], [7]), ([8, 9, 0, 1, 2, 3, 4, 5, 6, 7, 8, 9], [8])])
def laws_FnExactPrincipalMap.B8 : List Nat := [0, 1, 0, 7, 0, 31, 63, 127, 127, 255, 1023]
theorem laws_FnExactPrincipalMap.tab8 : rtab .any (opsOf Try.f7 8) = laws_FnExactPrincipalMap.T8 := by kernel_rfl
theorem laws_FnExactPrincipalMap.bits8 : waitsOk laws_FnExactPrincipalMap.T8.2 laws_FnExactPrincipalMap.B8 = true := by kernel_rfl
def laws_FnExactPrincipalMap.T14 : Bool × List (List Nat × List Nat) := (true, [([], []), ([], []), ([1], [1]), ([0, 2, 2], [0, 2]), ([3], [3])])
def laws_FnExactPrincipalMap.B14 : List Nat := [0, 0, 2, 7, 15]
theorem laws_FnExactPrincipalMap.tab14 : rtab .any (opsOf Try.f7 14) = laws_FnExactPrincipalMap.T14 := by kernel_rfl
theorem laws_FnExactPrincipalMap.bits14 : waitsOk laws_FnExactPrincipalMap.T14.2 laws_FnExactPrincipalMap.B14 = true := by kernel_rfl
def laws_FnExactPrincipalMap.T16 : Bool × List (List Nat × List Nat) := (true, [([], []), ([], []), ([1], [1]), ([0, 2, 2], [0, 2]), ([3], [3])])
def laws_FnExactPrincipalMap.B16 : List Nat := [0, 0, 2, 7, 15]
theorem laws_FnExactPrincipalMap.tab16 : rtab .any (opsOf Try.f7 16) = laws_FnExactPrincipalMap.T16 := by kernel_rfl
theorem laws_FnExactPrincipalMap.bits16 : waitsOk laws_FnExactPrincipalMap.T16.2 laws_FnExactPrincipalMap.B16 = true := by kernel_rfl
def laws_FnExactPrincipalMap.T31 : Bool × List (List Nat × List Nat) := (true, [([], []), ([0], [0]), ([], []), ([2, 1], [2]), ([], []), ([1, 3, 4, 3], [1, 3, 4]), ([5], [5]), ([6], [6]), ([6], [6]), ([7, 5, 0, 1, 2, 3, 4, 5, 6, 7], [7]), ([8, 9, 0, 1, 2, 3, 4, 5, 6, 7, 8, 9], [8])])
def laws_FnExactPrincipalMap.B31 : List Nat := [0, 1, 0, 7, 0, 31, 63, 127, 127, 255, 1023]
theorem laws_FnExactPrincipalMap.tab31 : rtab .any (opsOf Try.f7 31) = laws_FnExactPrincipalMap.T31 := by kernel_rfl
theorem laws_FnExactPrincipalMap.bits31 : waitsOk laws_FnExactPrincipalMap.T31.2 laws_FnExactPrincipalMap.B31 = true := by kernel_rfl
set_option maxHeartbeats 16000000 in
set_option maxRecDepth 100000 in
theorem laws_FnExactPrincipalMap.calls (k : Nat) (A0_0 : Option Addr) (c0_0 : Nat) (l0_0 : List (List Int)) (a1_0 : Int) (A1_1 : Option Addr) (c1_1 : Nat) (l1_1 : List Int) (a2 : Int) (r : Bool) (w : World) (hr0_0 : Kd.C (Kd.slice 2 (Kd.int .i64)) w A0_0 l0_0.length l0_0) (hc0_0 : l0_0.length ≤ c0_0) (hr1_1 : Kd.C (Kd.int .i64) w A1_1 l1_1.length l1_1) (hc1_1 : l1_1.length ≤ c1_1) (h : laws_FnExactPrincipalMap.f k l0_0 a1_0 l1_1 a2 = some r) :
  Calls Try.prog 7 #[.agg #[.slice A0_0 l0_0.length c0_0], .agg #[.int .i64 a1_0, .slice A1_1 l1_1.length c1_1], .int .i64 a2] w fun e w' => e = .returned (.bool r) ∧ Below w.heap.size w w' := by
 have hu24 := Try.underlying24
 have hu27 := Try.underlying27
 have hu32 := Try.underlying32
 have hu34 := Try.underlying34
 have HR0_0 := Aside0.mk hr0_0
 have HC0_0 := Aside0.mk hc0_0
 clear hr0_0 hc0_0
 have HR1_1 := Aside0.mk hr1_1
 have HC1_1 := Aside0.mk hc1_1
 clear hr1_1 hc1_1
 have HB := Aside0.mk (Below.refl w.heap.size w)
 have HN := Aside0.mk (Nat.le_refl w.heap.size)
 have H := h
 clear h
 unfold laws_FnExactPrincipalMap.f at H
 replace H := Option.bind_eq_some_iff.mp H
 obtain ⟨t103, hA_, H⟩ := H
 have H0A := Aside0.mk hA_
 clear hA_
 (try dsimp only at H)
 by_cases c2 : t103 < 0
 ·
  rw [if_pos c2] at H
  have c2b0 : decide (t103 < 0) = true := decide_eq_true c2
  clear c2
  obtain rfl := Option.some.inj H
  go_enter Try.func7, Try.ntmps7
  go_wp2_with (first | ((with_reducible refine gate_dst (N := 3) rfl ?_); refine box_event ?hg (N := 3) ?hd (cs := #[.slice A0_0 l0_0.length c0_0]) (t := 24) ?hr ?_; (case hd => rfl); (case hg => rfl); (case hr => first | (go_simp; done) | (go_simp; rfl)); intro gb3 hg w101 hbox hb; have n0_ := Aside0.mk (below_step (by repeat (first | (with_reducible first | exact HB.out | apply below_alloc | apply pw_below_drewN | apply below_drew1) | exact HB.out)) hb); have n1_ := Aside0.mk (hbox); have n2_ := Aside0.mk ((⟨by rw [hg]; exact (by repeat (first | (with_reducible first | exact HN.out | apply sz_alloc | apply sz_drewN | apply sz_drew) | exact HN.out)), Nat.le_succ _⟩ : w.heap.size ≤ gb3 ∧ gb3 ≤ gb3 + 1)); have n3_ := Aside0.mk ((by rw [hg]; exact below_size (by repeat (first | (with_reducible first | exact HB.out | apply below_alloc | apply pw_below_drewN | apply below_drew1) | exact HB.out)) : w.heap.size ≤ gb3)); have n4_ := Aside0.mk ((blk_lt hbox : gb3 + 1 ≤ w101.heap.size)); clear HB; clear HN; have HB := n0_; have BK3 := n1_; have CB3 := n2_; have GE3 := n3_; have HN := n4_; clear n0_ n1_ n2_ n3_ n4_; clear hb hbox hg; have hczgb3_0 : w101.cell? ⟨gb3, 0, none⟩ = some (.slice A0_0 l0_0.length c0_0) := (blk_cell BK3.out 0).trans rfl; have hfzgb3_0 := blk_frozen BK3.out 0) | ((with_reducible refine gate_dst (N := 4) rfl ?_); refine box_event ?hg (N := 4) ?hd (cs := #[.int .i64 a1_0, .slice A1_1 l1_1.length c1_1]) (t := 27) ?hr ?_; (case hd => rfl); (case hg => rfl); (case hr => first | (go_simp; done) | (go_simp; rfl)); intro gb4 hg w102 hbox hb; have n0_ := Aside0.mk (blk_below (g := gb3) (o := .cells #[.slice A0_0 l0_0.length c0_0] 24 (0, 0)) (by (with_reducible repeat (first | refine blk_drewN ?_ _ | refine blk_drew ?_ | refine blk_alloc ?_ _)); exact BK3.out) hb); have n1_ := Aside0.mk (below_step (by repeat (first | (with_reducible first | exact HB.out | apply below_alloc | apply pw_below_drewN | apply below_drew1) | exact HB.out)) hb); have n2_ := Aside0.mk (hbox); have n3_ := Aside0.mk ((⟨by rw [hg]; exact (by repeat (first | (with_reducible first | exact HN.out | apply sz_alloc | apply sz_drewN | apply sz_drew) | exact HN.out)), Nat.le_succ _⟩ : gb3 + 1 ≤ gb4 ∧ gb4 ≤ gb4 + 1)); have n4_ := Aside0.mk ((by rw [hg]; exact below_size (by repeat (first | (with_reducible first | exact HB.out | apply below_alloc | apply pw_below_drewN | apply below_drew1) | exact HB.out)) : w.heap.size ≤ gb4)); have n5_ := Aside0.mk ((blk_lt hbox : gb4 + 1 ≤ w102.heap.size)); clear BK3; clear HB; clear HN; have BK3 := n0_; have HB := n1_; have BK4 := n2_; have CB4 := n3_; have GE4 := n4_; have HN := n5_; clear n0_ n1_ n2_ n3_ n4_ n5_; clear hb hbox hg; clear hczgb3_0; have hczgb3_0 : w102.cell? ⟨gb3, 0, none⟩ = some (.slice A0_0 l0_0.length c0_0) := (blk_cell BK3.out 0).trans rfl; clear hfzgb3_0; have hfzgb3_0 := blk_frozen BK3.out 0; have hczgb4_0 : w102.cell? ⟨gb4, 0, none⟩ = some (.int .i64 a1_0) := (blk_cell BK4.out 0).trans rfl; have hfzgb4_0 := blk_frozen BK4.out 0; have hczgb4_1 : w102.cell? ⟨gb4, 1, none⟩ = some (.slice A1_1 l1_1.length c1_1) := (blk_cell BK4.out 1).trans rfl; have hfzgb4_1 := blk_frozen BK4.out 1) | ((with_reducible refine gate_callee (f := 9) rfl ?_); refine goesL_ (some 21) rfl rfl Try.func9 (by kernel_rfl) rfl #[.agg #[.slice A0_0 l0_0.length c0_0], .int .i64 1048576] rfl (by (try simp only [List.map_toArray, List.map_cons, List.map_nil]); first | done | rfl | (simp only [List.length_drop, List.length_take]; rfl)) ?_; (with_reducible refine (laws_szGroup.calls k _ _ l0_0 1048576 t103 _ ?side1 ?side2 H0A.out).mono ?_); (case side1 => repeat (first | exact (Kd.C_below HR0_0.out HB.out) | (with_reducible refine Kd.C_alloc ?_ _) | (with_reducible refine Kd.C_drewN ?_ _) | (with_reducible refine Kd.C_drew ?_))); (case side2 => exact HC0_0.out); rintro e w104 ⟨rfl, hb⟩; refine ⟨_, rfl, ?_⟩; have n0_ := Aside0.mk (blk_below (g := gb3) (o := .cells #[.slice A0_0 l0_0.length c0_0] 24 (0, 0)) (by (with_reducible repeat (first | refine blk_drewN ?_ _ | refine blk_drew ?_ | refine blk_alloc ?_ _)); exact BK3.out) hb); have n1_ := Aside0.mk (blk_below (g := gb4) (o := .cells #[.int .i64 a1_0, .slice A1_1 l1_1.length c1_1] 27 (0, 0)) (by (with_reducible repeat (first | refine blk_drewN ?_ _ | refine blk_drew ?_ | refine blk_alloc ?_ _)); exact BK4.out) hb); have n2_ := Aside0.mk (below_step (by repeat (first | (with_reducible first | exact HB.out | apply below_alloc | apply pw_below_drewN | apply below_drew1) | exact HB.out)) hb); have n3_ := Aside0.mk (Nat.le_trans (by repeat (first | (with_reducible first | exact HN.out | apply sz_alloc | apply sz_drewN | apply sz_drew) | exact HN.out)) hb.size); clear BK3; clear BK4; clear HB; clear HN; have BK3 := n0_; have BK4 := n1_; have HB := n2_; have HN := n3_; clear n0_ n1_ n2_ n3_; clear hb; clear hczgb3_0; have hczgb3_0 : w104.cell? ⟨gb3, 0, none⟩ = some (.slice A0_0 l0_0.length c0_0) := (blk_cell BK3.out 0).trans rfl; clear hfzgb3_0; have hfzgb3_0 := blk_frozen BK3.out 0; clear hczgb4_0; have hczgb4_0 : w104.cell? ⟨gb4, 0, none⟩ = some (.int .i64 a1_0) := (blk_cell BK4.out 0).trans rfl; clear hfzgb4_0; have hfzgb4_0 := blk_frozen BK4.out 0; clear hczgb4_1; have hczgb4_1 : w104.cell? ⟨gb4, 1, none⟩ = some (.slice A1_1 l1_1.length c1_1) := (blk_cell BK4.out 1).trans rfl; clear hfzgb4_1; have hfzgb4_1 := blk_frozen BK4.out 1))
  go_ret
  exact ⟨by first | rfl | (simp; done) | (simp [*]; done), (by repeat (first | (with_reducible first | exact HB.out | apply below_alloc | apply pw_below_drewN | apply below_drew1) | exact HB.out))⟩
 ·
  rw [if_neg c2] at H
  have c2b0 : decide (t103 < 0) = false := decide_eq_false c2
  clear c2
  replace H := Option.bind_eq_some_iff.mp H
  obtain ⟨t105, hA_, H⟩ := H
  have H1A := Aside0.mk hA_
  clear hA_
  (try dsimp only at H)
  by_cases c4 : t105 < 0
  ·
   rw [if_pos c4] at H
   have c4b0 : decide (t105 < 0) = true := decide_eq_true c4
   clear c4
   obtain rfl := Option.some.inj H
   go_enter Try.func7, Try.ntmps7
   go_wp2_with (first | ((with_reducible refine gate_dst (N := 3) rfl ?_); refine box_event ?hg (N := 3) ?hd (cs := #[.slice A0_0 l0_0.length c0_0]) (t := 24) ?hr ?_; (case hd => rfl); (case hg => rfl); (case hr => first | (go_simp; done) | (go_simp; rfl)); intro gb3 hg w101 hbox hb; have n0_ := Aside0.mk (below_step (by repeat (first | (with_reducible first | exact HB.out | apply below_alloc | apply pw_below_drewN | apply below_drew1) | exact HB.out)) hb); have n1_ := Aside0.mk (hbox); have n2_ := Aside0.mk ((⟨by rw [hg]; exact (by repeat (first | (with_reducible first | exact HN.out | apply sz_alloc | apply sz_drewN | apply sz_drew) | exact HN.out)), Nat.le_succ _⟩ : w.heap.size ≤ gb3 ∧ gb3 ≤ gb3 + 1)); have n3_ := Aside0.mk ((by rw [hg]; exact below_size (by repeat (first | (with_reducible first | exact HB.out | apply below_alloc | apply pw_below_drewN | apply below_drew1) | exact HB.out)) : w.heap.size ≤ gb3)); have n4_ := Aside0.mk ((blk_lt hbox : gb3 + 1 ≤ w101.heap.size)); clear HB; clear HN; have HB := n0_; have BK3 := n1_; have CB3 := n2_; have GE3 := n3_; have HN := n4_; clear n0_ n1_ n2_ n3_ n4_; clear hb hbox hg; have hczgb3_0 : w101.cell? ⟨gb3, 0, none⟩ = some (.slice A0_0 l0_0.length c0_0) := (blk_cell BK3.out 0).trans rfl; have hfzgb3_0 := blk_frozen BK3.out 0) | ((with_reducible refine gate_dst (N := 4) rfl ?_); refine box_event ?hg (N := 4) ?hd (cs := #[.int .i64 a1_0, .slice A1_1 l1_1.length c1_1]) (t := 27) ?hr ?_; (case hd => rfl); (case hg => rfl); (case hr => first | (go_simp; done) | (go_simp; rfl)); intro gb4 hg w102 hbox hb; have n0_ := Aside0.mk (blk_below (g := gb3) (o := .cells #[.slice A0_0 l0_0.length c0_0] 24 (0, 0)) (by (with_reducible repeat (first | refine blk_drewN ?_ _ | refine blk_drew ?_ | refine blk_alloc ?_ _)); exact BK3.out) hb); have n1_ := Aside0.mk (below_step (by repeat (first | (with_reducible first | exact HB.out | apply below_alloc | apply pw_below_drewN | apply below_drew1) | exact HB.out)) hb); have n2_ := Aside0.mk (hbox); have n3_ := Aside0.mk ((⟨by rw [hg]; exact (by repeat (first | (with_reducible first | exact HN.out | apply sz_alloc | apply sz_drewN | apply sz_drew) | exact HN.out)), Nat.le_succ _⟩ : gb3 + 1 ≤ gb4 ∧ gb4 ≤ gb4 + 1)); have n4_ := Aside0.mk ((by rw [hg]; exact below_size (by repeat (first | (with_reducible first | exact HB.out | apply below_alloc | apply pw_below_drewN | apply below_drew1) | exact HB.out)) : w.heap.size ≤ gb4)); have n5_ := Aside0.mk ((blk_lt hbox : gb4 + 1 ≤ w102.heap.size)); clear BK3; clear HB; clear HN; have BK3 := n0_; have HB := n1_; have BK4 := n2_; have CB4 := n3_; have GE4 := n4_; have HN := n5_; clear n0_ n1_ n2_ n3_ n4_ n5_; clear hb hbox hg; clear hczgb3_0; have hczgb3_0 : w102.cell? ⟨gb3, 0, none⟩ = some (.slice A0_0 l0_0.length c0_0) := (blk_cell BK3.out 0).trans rfl; clear hfzgb3_0; have hfzgb3_0 := blk_frozen BK3.out 0; have hczgb4_0 : w102.cell? ⟨gb4, 0, none⟩ = some (.int .i64 a1_0) := (blk_cell BK4.out 0).trans rfl; have hfzgb4_0 := blk_frozen BK4.out 0; have hczgb4_1 : w102.cell? ⟨gb4, 1, none⟩ = some (.slice A1_1 l1_1.length c1_1) := (blk_cell BK4.out 1).trans rfl; have hfzgb4_1 := blk_frozen BK4.out 1) | ((with_reducible refine gate_callee (f := 9) rfl ?_); refine goesL_ (some 21) rfl rfl Try.func9 (by kernel_rfl) rfl #[.agg #[.slice A0_0 l0_0.length c0_0], .int .i64 1048576] rfl (by (try simp only [List.map_toArray, List.map_cons, List.map_nil]); first | done | rfl | (simp only [List.length_drop, List.length_take]; rfl)) ?_; (with_reducible refine (laws_szGroup.calls k _ _ l0_0 1048576 t103 _ ?side1 ?side2 H0A.out).mono ?_); (case side1 => repeat (first | exact (Kd.C_below HR0_0.out HB.out) | (with_reducible refine Kd.C_alloc ?_ _) | (with_reducible refine Kd.C_drewN ?_ _) | (with_reducible refine Kd.C_drew ?_))); (case side2 => exact HC0_0.out); rintro e w104 ⟨rfl, hb⟩; refine ⟨_, rfl, ?_⟩; have n0_ := Aside0.mk (blk_below (g := gb3) (o := .cells #[.slice A0_0 l0_0.length c0_0] 24 (0, 0)) (by (with_reducible repeat (first | refine blk_drewN ?_ _ | refine blk_drew ?_ | refine blk_alloc ?_ _)); exact BK3.out) hb); have n1_ := Aside0.mk (blk_below (g := gb4) (o := .cells #[.int .i64 a1_0, .slice A1_1 l1_1.length c1_1] 27 (0, 0)) (by (with_reducible repeat (first | refine blk_drewN ?_ _ | refine blk_drew ?_ | refine blk_alloc ?_ _)); exact BK4.out) hb); have n2_ := Aside0.mk (below_step (by repeat (first | (with_reducible first | exact HB.out | apply below_alloc | apply pw_below_drewN | apply below_drew1) | exact HB.out)) hb); have n3_ := Aside0.mk (Nat.le_trans (by repeat (first | (with_reducible first | exact HN.out | apply sz_alloc | apply sz_drewN | apply sz_drew) | exact HN.out)) hb.size); clear BK3; clear BK4; clear HB; clear HN; have BK3 := n0_; have BK4 := n1_; have HB := n2_; have HN := n3_; clear n0_ n1_ n2_ n3_; clear hb; clear hczgb3_0; have hczgb3_0 : w104.cell? ⟨gb3, 0, none⟩ = some (.slice A0_0 l0_0.length c0_0) := (blk_cell BK3.out 0).trans rfl; clear hfzgb3_0; have hfzgb3_0 := blk_frozen BK3.out 0; clear hczgb4_0; have hczgb4_0 : w104.cell? ⟨gb4, 0, none⟩ = some (.int .i64 a1_0) := (blk_cell BK4.out 0).trans rfl; clear hfzgb4_0; have hfzgb4_0 := blk_frozen BK4.out 0; clear hczgb4_1; have hczgb4_1 : w104.cell? ⟨gb4, 1, none⟩ = some (.slice A1_1 l1_1.length c1_1) := (blk_cell BK4.out 1).trans rfl; clear hfzgb4_1; have hfzgb4_1 := blk_frozen BK4.out 1) | ((with_reducible refine gate_callee (f := 10) rfl ?_); refine goesL_ (some 26) rfl rfl Try.func10 (by kernel_rfl) rfl #[.agg #[.int .i64 a1_0, .slice A1_1 l1_1.length c1_1], .int .i64 t103] rfl (by (try simp only [List.map_toArray, List.map_cons, List.map_nil]); first | done | rfl | (simp only [List.length_drop, List.length_take]; rfl)) ?_; (with_reducible refine (laws_szModule.calls a1_0 _ _ l1_1 t103 t105 _ ?side1 ?side2 H1A.out).mono ?_); (case side1 => repeat (first | exact (Kd.C_below HR1_1.out HB.out) | (with_reducible refine Kd.C_alloc ?_ _) | (with_reducible refine Kd.C_drewN ?_ _) | (with_reducible refine Kd.C_drew ?_))); (case side2 => exact HC1_1.out); rintro e w106 ⟨rfl, hb⟩; refine ⟨_, rfl, ?_⟩; have n0_ := Aside0.mk (blk_below (g := gb3) (o := .cells #[.slice A0_0 l0_0.length c0_0] 24 (0, 0)) (by (with_reducible repeat (first | refine blk_drewN ?_ _ | refine blk_drew ?_ | refine blk_alloc ?_ _)); exact BK3.out) hb); have n1_ := Aside0.mk (blk_below (g := gb4) (o := .cells #[.int .i64 a1_0, .slice A1_1 l1_1.length c1_1] 27 (0, 0)) (by (with_reducible repeat (first | refine blk_drewN ?_ _ | refine blk_drew ?_ | refine blk_alloc ?_ _)); exact BK4.out) hb); have n2_ := Aside0.mk (below_step (by repeat (first | (with_reducible first | exact HB.out | apply below_alloc | apply pw_below_drewN | apply below_drew1) | exact HB.out)) hb); have n3_ := Aside0.mk (Nat.le_trans (by repeat (first | (with_reducible first | exact HN.out | apply sz_alloc | apply sz_drewN | apply sz_drew) | exact HN.out)) hb.size); clear BK3; clear BK4; clear HB; clear HN; have BK3 := n0_; have BK4 := n1_; have HB := n2_; have HN := n3_; clear n0_ n1_ n2_ n3_; clear hb; clear hczgb3_0; have hczgb3_0 : w106.cell? ⟨gb3, 0, none⟩ = some (.slice A0_0 l0_0.length c0_0) := (blk_cell BK3.out 0).trans rfl; clear hfzgb3_0; have hfzgb3_0 := blk_frozen BK3.out 0; clear hczgb4_0; have hczgb4_0 : w106.cell? ⟨gb4, 0, none⟩ = some (.int .i64 a1_0) := (blk_cell BK4.out 0).trans rfl; clear hfzgb4_0; have hfzgb4_0 := blk_frozen BK4.out 0; clear hczgb4_1; have hczgb4_1 : w106.cell? ⟨gb4, 1, none⟩ = some (.slice A1_1 l1_1.length c1_1) := (blk_cell BK4.out 1).trans rfl; clear hfzgb4_1; have hfzgb4_1 := blk_frozen BK4.out 1))
   go_ret
   exact ⟨by first | rfl | (simp; done) | (simp [*]; done), (by repeat (first | (with_reducible first | exact HB.out | apply below_alloc | apply pw_below_drewN | apply below_drew1) | exact HB.out))⟩
  ·
   rw [if_neg c4] at H
   have c4b0 : decide (t105 < 0) = false := decide_eq_false c4
   clear c4
   replace H := Option.bind_eq_some_iff.mp H
   obtain ⟨t108, hA_, H⟩ := H
   have H2A := Aside0.mk hA_
   clear hA_
   (try dsimp only at H)
   replace H := Option.bind_eq_some_iff.mp H
   obtain ⟨⟨t111, t112⟩, hA_, H⟩ := H
   have H3A := Aside0.mk hA_
   clear hA_
   (try dsimp only at H)
   replace H := Option.bind_eq_some_iff.mp H
   obtain ⟨⟨t115, t116⟩, hA_, H⟩ := H
   have H4A := Aside0.mk hA_
   clear hA_
   (try dsimp only at H)
   replace H := Option.bind_eq_some_iff.mp H
   obtain ⟨t119, hA_, H⟩ := H
   have H5A := Aside0.mk hA_
   clear hA_
   (try dsimp only at H)
   replace H := Option.bind_eq_some_iff.mp H
   obtain ⟨⟨t124, t125⟩, hA_, H⟩ := H
   have H6A := Aside0.mk hA_
   clear hA_
   (try dsimp only at H)
   replace H := Option.bind_eq_some_iff.mp H
   obtain ⟨⟨t130, t131⟩, hA_, H⟩ := H
   have H7A := Aside0.mk hA_
   clear hA_
   (try dsimp only at H)
   replace H := Option.bind_eq_some_iff.mp H
   obtain ⟨t134, hA_, H⟩ := H
   have H8A := Aside0.mk hA_
   clear hA_
   (try dsimp only at H)
   by_cases c12 : t134 = true
   rotate_left
   ·
    rw [if_neg c12] at H; exact absurd H (by simp)
   rw [if_pos c12] at H
   subst c12
   by_cases c13 : t131 = t116
   rotate_left
   ·
    rw [if_neg c13] at H; exact absurd H (by simp)
   rw [if_pos c13] at H
   subst c13
   replace H := Option.bind_eq_some_iff.mp H
   obtain ⟨t137, hA_, H⟩ := H
   have H9A := Aside0.mk hA_
   clear hA_
   (try dsimp only at H)
   replace H := Option.bind_eq_some_iff.mp H
   obtain ⟨t140, hA_, H⟩ := H
   have H10A := Aside0.mk hA_
   clear hA_
   (try dsimp only at H)
   by_cases c16 : t140 = true
   rotate_left
   ·
    rw [if_neg c16] at H; exact absurd H (by simp)
   rw [if_pos c16] at H
   subst c16
   replace H := Option.bind_eq_some_iff.mp H
   obtain ⟨⟨t143, t144⟩, hA_, H⟩ := H
   have H11A := Aside0.mk hA_
   clear hA_
   (try dsimp only at H)
   replace H := Option.bind_eq_some_iff.mp H
   obtain ⟨t147, hA_, H⟩ := H
   have H12A := Aside0.mk hA_
   clear hA_
   (try dsimp only at H)
   by_cases c19 : t147 = true
   rotate_left
   ·
    rw [if_neg c19] at H; exact absurd H (by simp)
   rw [if_pos c19] at H
   subst c19
   replace H := Option.bind_eq_some_iff.mp H
   obtain ⟨⟨t149, t150⟩, hA_, H⟩ := H
   have H13A := Aside0.mk hA_
   clear hA_
   (try dsimp only at H)
   replace H := Option.bind_eq_some_iff.mp H
   obtain ⟨⟨t152, t153⟩, hA_, H⟩ := H
   have H14A := Aside0.mk hA_
   clear hA_
   (try dsimp only at H)
   replace H := Option.bind_eq_some_iff.mp H
   obtain ⟨t155, hA_, H⟩ := H
   have H15A := Aside0.mk hA_
   clear hA_
   (try dsimp only at H)
   by_cases c23 : t152 < 0
   ·
    rw [if_pos c23] at H; exact absurd H (by simp)
   rw [if_neg c23] at H
   have c23b0 : decide (t152 < 0) = false := decide_eq_false c23
   clear c23
   by_cases c24 : t155 = true
   rotate_left
   ·
    rw [if_neg c24] at H; exact absurd H (by simp)
   rw [if_pos c24] at H
   subst c24
   rw [if_pos rfl] at H
   replace H := Option.bind_eq_some_iff.mp H
   obtain ⟨⟨t157, t158⟩, hA_, H⟩ := H
   have H16A := Aside0.mk hA_
   clear hA_
   (try dsimp only at H)
   replace H := Option.bind_eq_some_iff.mp H
   obtain ⟨t160, hA_, H⟩ := H
   have H17A := Aside0.mk hA_
   clear hA_
   (try dsimp only at H)
   by_cases c28 : t160 < 0
   ·
    rw [if_pos c28] at H; exact absurd H (by simp)
   rw [if_neg c28] at H
   have c28b0 : decide (t160 < 0) = false := decide_eq_false c28
   clear c28
   by_cases c29 : t160 = t157
   rotate_left
   ·
    rw [if_neg c29] at H; exact absurd H (by simp)
   rw [if_pos c29] at H
   subst c29
   replace H := Option.bind_eq_some_iff.mp H
   obtain ⟨t163, hA_, H⟩ := H
   have H18A := Aside0.mk hA_
   clear hA_
   (try dsimp only at H)
   replace H := Option.bind_eq_some_iff.mp H
   obtain ⟨⟨t166, t167⟩, hA_, H⟩ := H
   have H19A := Aside0.mk hA_
   clear hA_
   (try dsimp only at H)
   replace H := Option.bind_eq_some_iff.mp H
   obtain ⟨⟨t170, t171⟩, hA_, H⟩ := H
   have H20A := Aside0.mk hA_
   clear hA_
   (try dsimp only at H)
   replace H := Option.bind_eq_some_iff.mp H
   obtain ⟨t174, hA_, H⟩ := H
   have H21A := Aside0.mk hA_
   clear hA_
   (try dsimp only at H)
   by_cases c34 : t174 = true
   rotate_left
   ·
    rw [if_neg c34] at H; exact absurd H (by simp)
   rw [if_pos c34] at H
   subst c34
   by_cases c35 : t171 = t131
   rotate_left
   ·
    rw [if_neg c35] at H; exact absurd H (by simp)
   rw [if_pos c35] at H
   subst c35
   replace H := Option.bind_eq_some_iff.mp H
   obtain ⟨t176, hA_, H⟩ := H
   have H22A := Aside0.mk hA_
   clear hA_
   (try dsimp only at H)
   by_cases c37 : t176 < 0
   ·
    rw [if_pos c37] at H; exact absurd H (by simp)
   rw [if_neg c37] at H
   have c37b0 : decide (t176 < 0) = false := decide_eq_false c37
   clear c37
   by_cases c38 : t176 = t160
   rotate_left
   ·
    rw [if_neg c38] at H; exact absurd H (by simp)
   rw [if_pos c38] at H
   subst c38
   obtain rfl := Option.some.inj H
   go_enter Try.func7, Try.ntmps7
   try go_wp2_with (first | ((with_reducible refine gate_dst (N := 3) rfl ?_); refine box_event ?hg (N := 3) ?hd (cs := #[.slice A0_0 l0_0.length c0_0]) (t := 24) ?hr ?_; (case hd => rfl); (case hg => rfl); (case hr => first | (go_simp; done) | (go_simp; rfl)); intro gb3 hg w101 hbox hb; have n0_ := Aside0.mk (below_step (by repeat (first | (with_reducible first | exact HB.out | apply below_alloc | apply pw_below_drewN | apply below_drew1) | exact HB.out)) hb); have n1_ := Aside0.mk (hbox); have n2_ := Aside0.mk ((⟨by rw [hg]; exact (by repeat (first | (with_reducible first | exact HN.out | apply sz_alloc | apply sz_drewN | apply sz_drew) | exact HN.out)), Nat.le_succ _⟩ : w.heap.size ≤ gb3 ∧ gb3 ≤ gb3 + 1)); have n3_ := Aside0.mk ((by rw [hg]; exact below_size (by repeat (first | (with_reducible first | exact HB.out | apply below_alloc | apply pw_below_drewN | apply below_drew1) | exact HB.out)) : w.heap.size ≤ gb3)); have n4_ := Aside0.mk ((blk_lt hbox : gb3 + 1 ≤ w101.heap.size)); clear HB; clear HN; have HB := n0_; have BK3 := n1_; have CB3 := n2_; have GE3 := n3_; have HN := n4_; clear n0_ n1_ n2_ n3_ n4_; clear hb hbox hg; have hczgb3_0 : w101.cell? ⟨gb3, 0, none⟩ = some (.slice A0_0 l0_0.length c0_0) := (blk_cell BK3.out 0).trans rfl; have hfzgb3_0 := blk_frozen BK3.out 0) | ((with_reducible refine gate_dst (N := 4) rfl ?_); refine box_event ?hg (N := 4) ?hd (cs := #[.int .i64 a1_0, .slice A1_1 l1_1.length c1_1]) (t := 27) ?hr ?_; (case hd => rfl); (case hg => rfl); (case hr => first | (go_simp; done) | (go_simp; rfl)); intro gb4 hg w102 hbox hb; have n0_ := Aside0.mk (blk_below (g := gb3) (o := .cells #[.slice A0_0 l0_0.length c0_0] 24 (0, 0)) (by (with_reducible repeat (first | refine blk_drewN ?_ _ | refine blk_drew ?_ | refine blk_alloc ?_ _)); exact BK3.out) hb); have n1_ := Aside0.mk (below_step (by repeat (first | (with_reducible first | exact HB.out | apply below_alloc | apply pw_below_drewN | apply below_drew1) | exact HB.out)) hb); have n2_ := Aside0.mk (hbox); have n3_ := Aside0.mk ((⟨by rw [hg]; exact (by repeat (first | (with_reducible first | exact HN.out | apply sz_alloc | apply sz_drewN | apply sz_drew) | exact HN.out)), Nat.le_succ _⟩ : gb3 + 1 ≤ gb4 ∧ gb4 ≤ gb4 + 1)); have n4_ := Aside0.mk ((by rw [hg]; exact below_size (by repeat (first | (with_reducible first | exact HB.out | apply below_alloc | apply pw_below_drewN | apply below_drew1) | exact HB.out)) : w.heap.size ≤ gb4)); have n5_ := Aside0.mk ((blk_lt hbox : gb4 + 1 ≤ w102.heap.size)); clear BK3; clear HB; clear HN; have BK3 := n0_; have HB := n1_; have BK4 := n2_; have CB4 := n3_; have GE4 := n4_; have HN := n5_; clear n0_ n1_ n2_ n3_ n4_ n5_; clear hb hbox hg; clear hczgb3_0; have hczgb3_0 : w102.cell? ⟨gb3, 0, none⟩ = some (.slice A0_0 l0_0.length c0_0) := (blk_cell BK3.out 0).trans rfl; clear hfzgb3_0; have hfzgb3_0 := blk_frozen BK3.out 0; have hczgb4_0 : w102.cell? ⟨gb4, 0, none⟩ = some (.int .i64 a1_0) := (blk_cell BK4.out 0).trans rfl; have hfzgb4_0 := blk_frozen BK4.out 0; have hczgb4_1 : w102.cell? ⟨gb4, 1, none⟩ = some (.slice A1_1 l1_1.length c1_1) := (blk_cell BK4.out 1).trans rfl; have hfzgb4_1 := blk_frozen BK4.out 1) | ((with_reducible refine gate_callee (f := 9) rfl ?_); refine goesL_ (some 21) rfl rfl Try.func9 (by kernel_rfl) rfl #[.agg #[.slice A0_0 l0_0.length c0_0], .int .i64 1048576] rfl (by (try simp only [List.map_toArray, List.map_cons, List.map_nil]); first | done | rfl | (simp only [List.length_drop, List.length_take]; rfl)) ?_; (with_reducible refine (laws_szGroup.calls k _ _ l0_0 1048576 t103 _ ?side1 ?side2 H0A.out).mono ?_); (case side1 => repeat (first | exact (Kd.C_below HR0_0.out HB.out) | (with_reducible refine Kd.C_alloc ?_ _) | (with_reducible refine Kd.C_drewN ?_ _) | (with_reducible refine Kd.C_drew ?_))); (case side2 => exact HC0_0.out); rintro e w104 ⟨rfl, hb⟩; refine ⟨_, rfl, ?_⟩; have n0_ := Aside0.mk (blk_below (g := gb3) (o := .cells #[.slice A0_0 l0_0.length c0_0] 24 (0, 0)) (by (with_reducible repeat (first | refine blk_drewN ?_ _ | refine blk_drew ?_ | refine blk_alloc ?_ _)); exact BK3.out) hb); have n1_ := Aside0.mk (blk_below (g := gb4) (o := .cells #[.int .i64 a1_0, .slice A1_1 l1_1.length c1_1] 27 (0, 0)) (by (with_reducible repeat (first | refine blk_drewN ?_ _ | refine blk_drew ?_ | refine blk_alloc ?_ _)); exact BK4.out) hb); have n2_ := Aside0.mk (below_step (by repeat (first | (with_reducible first | exact HB.out | apply below_alloc | apply pw_below_drewN | apply below_drew1) | exact HB.out)) hb); have n3_ := Aside0.mk (Nat.le_trans (by repeat (first | (with_reducible first | exact HN.out | apply sz_alloc | apply sz_drewN | apply sz_drew) | exact HN.out)) hb.size); clear BK3; clear BK4; clear HB; clear HN; have BK3 := n0_; have BK4 := n1_; have HB := n2_; have HN := n3_; clear n0_ n1_ n2_ n3_; clear hb; clear hczgb3_0; have hczgb3_0 : w104.cell? ⟨gb3, 0, none⟩ = some (.slice A0_0 l0_0.length c0_0) := (blk_cell BK3.out 0).trans rfl; clear hfzgb3_0; have hfzgb3_0 := blk_frozen BK3.out 0; clear hczgb4_0; have hczgb4_0 : w104.cell? ⟨gb4, 0, none⟩ = some (.int .i64 a1_0) := (blk_cell BK4.out 0).trans rfl; clear hfzgb4_0; have hfzgb4_0 := blk_frozen BK4.out 0; clear hczgb4_1; have hczgb4_1 : w104.cell? ⟨gb4, 1, none⟩ = some (.slice A1_1 l1_1.length c1_1) := (blk_cell BK4.out 1).trans rfl; clear hfzgb4_1; have hfzgb4_1 := blk_frozen BK4.out 1) | ((with_reducible refine gate_callee (f := 10) rfl ?_); refine goesL_ (some 26) rfl rfl Try.func10 (by kernel_rfl) rfl #[.agg #[.int .i64 a1_0, .slice A1_1 l1_1.length c1_1], .int .i64 t103] rfl (by (try simp only [List.map_toArray, List.map_cons, List.map_nil]); first | done | rfl | (simp only [List.length_drop, List.length_take]; rfl)) ?_; (with_reducible refine (laws_szModule.calls a1_0 _ _ l1_1 t103 t105 _ ?side1 ?side2 H1A.out).mono ?_); (case side1 => repeat (first | exact (Kd.C_below HR1_1.out HB.out) | (with_reducible refine Kd.C_alloc ?_ _) | (with_reducible refine Kd.C_drewN ?_ _) | (with_reducible refine Kd.C_drew ?_))); (case side2 => exact HC1_1.out); rintro e w106 ⟨rfl, hb⟩; refine ⟨_, rfl, ?_⟩; have n0_ := Aside0.mk (blk_below (g := gb3) (o := .cells #[.slice A0_0 l0_0.length c0_0] 24 (0, 0)) (by (with_reducible repeat (first | refine blk_drewN ?_ _ | refine blk_drew ?_ | refine blk_alloc ?_ _)); exact BK3.out) hb); have n1_ := Aside0.mk (blk_below (g := gb4) (o := .cells #[.int .i64 a1_0, .slice A1_1 l1_1.length c1_1] 27 (0, 0)) (by (with_reducible repeat (first | refine blk_drewN ?_ _ | refine blk_drew ?_ | refine blk_alloc ?_ _)); exact BK4.out) hb); have n2_ := Aside0.mk (below_step (by repeat (first | (with_reducible first | exact HB.out | apply below_alloc | apply pw_below_drewN | apply below_drew1) | exact HB.out)) hb); have n3_ := Aside0.mk (Nat.le_trans (by repeat (first | (with_reducible first | exact HN.out | apply sz_alloc | apply sz_drewN | apply sz_drew) | exact HN.out)) hb.size); clear BK3; clear BK4; clear HB; clear HN; have BK3 := n0_; have BK4 := n1_; have HB := n2_; have HN := n3_; clear n0_ n1_ n2_ n3_; clear hb; clear hczgb3_0; have hczgb3_0 : w106.cell? ⟨gb3, 0, none⟩ = some (.slice A0_0 l0_0.length c0_0) := (blk_cell BK3.out 0).trans rfl; clear hfzgb3_0; have hfzgb3_0 := blk_frozen BK3.out 0; clear hczgb4_0; have hczgb4_0 : w106.cell? ⟨gb4, 0, none⟩ = some (.int .i64 a1_0) := (blk_cell BK4.out 0).trans rfl; clear hfzgb4_0; have hfzgb4_0 := blk_frozen BK4.out 0; clear hczgb4_1; have hczgb4_1 : w106.cell? ⟨gb4, 1, none⟩ = some (.slice A1_1 l1_1.length c1_1) := (blk_cell BK4.out 1).trans rfl; clear hfzgb4_1; have hfzgb4_1 := blk_frozen BK4.out 1))
   have n0_ := Aside0.mk (blk_drew BK3.out)
   have n1_ := Aside0.mk (blk_drew BK4.out)
   have n2_ := Aside0.mk (below_drew1 HB.out)
   have n3_ := Aside0.mk (sz_drew HN.out)
   clear BK3
   clear BK4
   clear HB
   clear HN
   have BK3 := n0_
   have BK4 := n1_
   have HB := n2_
   have HN := n3_
   clear n0_ n1_ n2_ n3_
   refine start_ (n := 11) (S := fun w' => w'.cell? ⟨gb3, 0, none⟩ = some (.slice A0_0 l0_0.length c0_0) ∧ w'.cell? ⟨gb4, 0, none⟩ = some (.int .i64 a1_0) ∧ w'.cell? ⟨gb4, 1, none⟩ = some (.slice A1_1 l1_1.length c1_1)) (ds := []) #[false, false, false, false, false, false, false, false, false, false, false] (by kernel_rfl) rfl rfl ⟨(blk_cell BK3.out 0).trans rfl, (blk_cell BK4.out 0).trans rfl, (blk_cell BK4.out 1).trans rfl⟩ (fun hHeld => ?_)
   refine with_tabW laws_FnExactPrincipalMap.tab8 laws_FnExactPrincipalMap.bits8 (fun HT_ HW_ => ?_)
   generalize w106.drew = w107 at BK3 BK4 HB HN hHeld ⊢
   refine take_ (i := 0) (N := some 30) (v := ?_) (a' := ?_) #[true, false, false, false, false, false, false, false, false, false, false] rfl rfl (take_ofW HT_.out HW_.out (by kernel_rfl)) (fun _ _ _ h => h) (Or.inl ⟨by rfl, ?_⟩) hHeld ?_ ?_
   rotate_left
   ·
    rintro w' ⟨s0, s1, s2⟩
    go_simp
    with_reducible rfl
   rotate_left
   ·
    simp only [Act.put, List.setIfInBounds_toArray, List.set_cons_zero, List.set_cons_succ, i64_w, i32_w]
    rfl
   refine take_ (i := 2) (N := some 32) (v := ?_) (a' := ?_) #[true, false, true, false, false, false, false, false, false, false, false] rfl rfl (take_ofW HT_.out HW_.out (by kernel_rfl)) (fun _ _ _ h => h) (Or.inl ⟨by rfl, ?_⟩) hHeld ?_ ?_
   rotate_left
   ·
    rintro w' ⟨s0, s1, s2⟩
    go_simp
    with_reducible rfl
   rotate_left
   ·
    simp only [Act.put, List.setIfInBounds_toArray, List.set_cons_zero, List.set_cons_succ, i64_w, i32_w]
    rfl
   refine pure_ (i := 4) (N := some 34) (v := ?_) (a' := ?_) #[true, false, true, false, true, false, false, false, false, false, false] rfl rfl (any_of HT_.out (by kernel_rfl)) (fun _ _ _ h => h) (Or.inl ⟨by rfl, ?_⟩) ?_ ?_
   rotate_left
   ·
    intro w'
    go_simp
    with_reducible rfl
   rotate_left
   ·
    simp only [Act.put, List.setIfInBounds_toArray, List.set_cons_zero, List.set_cons_succ, i64_w, i32_w]
    rfl
   refine one_ (i := 1) (N := some 31) #[true, true, true, false, true, false, false, false, false, false, false] rfl rfl (one_of HT_.out (by kernel_rfl)) (by decide) (fun K hK => ?_)
   refine goes_ Try.func12 (by kernel_rfl) rfl #[.agg #[.slice A0_0 l0_0.length c0_0]] (by rfl) rfl rfl (by (try simp only [List.map_toArray, List.map_cons, List.map_nil]); first | done | rfl | (simp only [List.length_drop, List.length_take]; rfl)) ?_
   (with_reducible refine (laws_toGroup.calls k _ _ l0_0 t108 _ ?side1 ?side2 H2A.out).mono ?_)
   (case side1 => repeat (first | exact (Kd.C_below HR0_0.out HB.out) | (with_reducible refine Kd.C_alloc ?_ _) | (with_reducible refine Kd.C_drewN ?_ _) | (with_reducible refine Kd.C_drew ?_)))
   (case side2 => exact HC0_0.out)
   rintro e w109 ⟨vv109_v0_, rfl, ho0, hb⟩
   obtain ⟨Ao110, co110, eo_⟩ := Kd.S_slice ho0
   subst eo_
   refine ⟨_, rfl, ?_⟩
   obtain ⟨lo110, hi110, hc_, hn_, hbo_⟩ := bornS (by repeat (first | (with_reducible first | exact HN.out | apply sz_alloc | apply sz_drewN | apply sz_drew) | exact HN.out)) (below_size (by repeat (first | (with_reducible first | exact HB.out | apply below_alloc | apply pw_below_drewN | apply below_drew1) | exact HB.out))) ho0 hb
   have n0_ := Aside0.mk (blk_below (g := gb3) (o := .cells #[.slice A0_0 l0_0.length c0_0] 24 (0, 0)) (by (with_reducible repeat (first | refine blk_drewN ?_ _ | refine blk_drew ?_ | refine blk_alloc ?_ _)); exact BK3.out) hb)
   have n1_ := Aside0.mk (blk_below (g := gb4) (o := .cells #[.int .i64 a1_0, .slice A1_1 l1_1.length c1_1] 27 (0, 0)) (by (with_reducible repeat (first | refine blk_drewN ?_ _ | refine blk_drew ?_ | refine blk_alloc ?_ _)); exact BK4.out) hb)
   have n2_ := Aside0.mk (hbo_)
   have n3_ := Aside0.mk (hc_)
   have n4_ := Aside0.mk (below_step (by repeat (first | (with_reducible first | exact HB.out | apply below_alloc | apply pw_below_drewN | apply below_drew1) | exact HB.out)) hb)
   have n5_ := Aside0.mk (hn_)
   clear BK3
   clear BK4
   clear HB
   clear HN
   have BK3 := n0_
   have BK4 := n1_
   have HO110 := n2_
   have C110 := n3_
   have HB := n4_
   have HN := n5_
   clear n0_ n1_ n2_ n3_ n4_ n5_
   clear hb
   (try clear ho0)
   refine hK.out _ _ ⟨(blk_cell BK3.out 0).trans rfl, (blk_cell BK4.out 0).trans rfl, (blk_cell BK4.out 1).trans rfl⟩ (fun hHeld => ?_)
   clear hK K
   refine norm_ (a' := ?_) ?_ ?_
   rotate_left
   ·
    show Act.put _ (some 31) _ = _
    simp only [Act.put, List.setIfInBounds_toArray, List.set_cons_zero, List.set_cons_succ, i64_w, i32_w]
    rfl
   refine one_ (i := 3) (N := some 33) #[true, true, true, true, true, false, false, false, false, false, false] rfl rfl (one_of HT_.out (by kernel_rfl)) (by decide) (fun K hK => ?_)
   refine goes_ Try.func13 (by kernel_rfl) rfl #[.agg #[.int .i64 a1_0, .slice A1_1 l1_1.length c1_1]] (by rfl) rfl rfl (by (try simp only [List.map_toArray, List.map_cons, List.map_nil]); first | done | rfl | (simp only [List.length_drop, List.length_take]; rfl)) ?_
   (with_reducible refine (laws_toModule.calls k a1_0 _ _ l1_1 t111 t112 _ ?side1 ?side2 H3A.out).mono ?_)
   (case side1 => repeat (first | exact (Kd.C_below HR1_1.out HB.out) | (with_reducible refine Kd.C_alloc ?_ _) | (with_reducible refine Kd.C_drewN ?_ _) | (with_reducible refine Kd.C_drew ?_)))
   (case side2 => exact HC1_1.out)
   rintro e w113 ⟨vv113_v1_, rfl, ho0, hb⟩
   obtain ⟨Ao114, co114, eo_⟩ := Kd.R_slice ho0
   subst eo_
   refine ⟨_, rfl, ?_⟩
   obtain ⟨lo114, hi114, hc_, hn_, hbo_⟩ := bornR (by repeat (first | (with_reducible first | exact HN.out | apply sz_alloc | apply sz_drewN | apply sz_drew) | exact HN.out)) (below_size (by repeat (first | (with_reducible first | exact HB.out | apply below_alloc | apply pw_below_drewN | apply below_drew1) | exact HB.out))) ho0 hb
   have n0_ := Aside0.mk (Kd.S_below (by (with_reducible repeat (first | apply Kd.S_alloc | apply Kd.S_drewN | apply Kd.S_drew)); exact HO110.out) hb)
   have n1_ := Aside0.mk (blk_below (g := gb3) (o := .cells #[.slice A0_0 l0_0.length c0_0] 24 (0, 0)) (by (with_reducible repeat (first | refine blk_drewN ?_ _ | refine blk_drew ?_ | refine blk_alloc ?_ _)); exact BK3.out) hb)
   have n2_ := Aside0.mk (blk_below (g := gb4) (o := .cells #[.int .i64 a1_0, .slice A1_1 l1_1.length c1_1] 27 (0, 0)) (by (with_reducible repeat (first | refine blk_drewN ?_ _ | refine blk_drew ?_ | refine blk_alloc ?_ _)); exact BK4.out) hb)
   have n3_ := Aside0.mk (hbo_)
   have n4_ := Aside0.mk (hc_)
   have n5_ := Aside0.mk (below_step (by repeat (first | (with_reducible first | exact HB.out | apply below_alloc | apply pw_below_drewN | apply below_drew1) | exact HB.out)) hb)
   have n6_ := Aside0.mk (hn_)
   clear HO110
   clear BK3
   clear BK4
   clear HB
   clear HN
   have HO110 := n0_
   have BK3 := n1_
   have BK4 := n2_
   have HO114 := n3_
   have C114 := n4_
   have HB := n5_
   have HN := n6_
   clear n0_ n1_ n2_ n3_ n4_ n5_ n6_
   clear hb
   (try clear ho0)
   refine hK.out _ _ ⟨(blk_cell BK3.out 0).trans rfl, (blk_cell BK4.out 0).trans rfl, (blk_cell BK4.out 1).trans rfl⟩ (fun hHeld => ?_)
   clear hK K
   refine norm_ (a' := ?_) ?_ ?_
   rotate_left
   ·
    show Act.put _ (some 33) _ = _
    simp only [Act.put, List.setIfInBounds_toArray, List.set_cons_zero, List.set_cons_succ, i64_w, i32_w]
    rfl
   refine one_ (i := 5) (N := some 35) #[true, true, true, true, true, true, false, false, false, false, false] rfl rfl (one_of HT_.out (by kernel_rfl)) (by decide) (fun K hK => ?_)
   refine goes_ Try.func25 (by kernel_rfl) rfl #[.agg #[.slice Ao110 t108.length co110], .agg #[.int .i64 t111, .slice Ao114 t112.length co114], .int .i64 a2] (by rfl) rfl rfl (by (try simp only [List.map_toArray, List.map_cons, List.map_nil]); first | done | rfl | (simp only [List.length_drop, List.length_take]; rfl)) ?_
   (with_reducible refine (spec_PrincipalMap.calls k _ _ t108 t111 _ _ t112 a2 t115 t171 _ ?side1 ?side2 ?side3 ?side4 H4A.out).mono ?_)
   (case side1 => exact (Kd.S_reads' (by (with_reducible repeat (first | apply Kd.S_alloc | apply Kd.S_drewN | apply Kd.S_drew)); exact HO110.out)).2.2)
   (case side2 => exact capS HO110.out)
   (case side3 => exact (Kd.R_reads' (by (with_reducible repeat (first | apply Kd.R_alloc | apply Kd.R_drewN | apply Kd.R_drew)); exact HO114.out)).2.2)
   (case side4 => exact capR HO114.out)
   rintro e w117 ⟨vv117_v0_, rfl, ho0, hb⟩
   obtain ⟨Ao118, co118, eo_⟩ := Kd.R_slice ho0
   subst eo_
   refine ⟨_, rfl, ?_⟩
   obtain ⟨lo118, hi118, hc_, hn_, hbo_⟩ := bornR (by repeat (first | (with_reducible first | exact HN.out | apply sz_alloc | apply sz_drewN | apply sz_drew) | exact HN.out)) (below_size (by repeat (first | (with_reducible first | exact HB.out | apply below_alloc | apply pw_below_drewN | apply below_drew1) | exact HB.out))) ho0 hb
   have n0_ := Aside0.mk (Kd.S_below (by (with_reducible repeat (first | apply Kd.S_alloc | apply Kd.S_drewN | apply Kd.S_drew)); exact HO110.out) hb)
   have n1_ := Aside0.mk (Kd.R_below (by (with_reducible repeat (first | apply Kd.R_alloc | apply Kd.R_drewN | apply Kd.R_drew)); exact HO114.out) hb)
   have n2_ := Aside0.mk (blk_below (g := gb3) (o := .cells #[.slice A0_0 l0_0.length c0_0] 24 (0, 0)) (by (with_reducible repeat (first | refine blk_drewN ?_ _ | refine blk_drew ?_ | refine blk_alloc ?_ _)); exact BK3.out) hb)
   have n3_ := Aside0.mk (blk_below (g := gb4) (o := .cells #[.int .i64 a1_0, .slice A1_1 l1_1.length c1_1] 27 (0, 0)) (by (with_reducible repeat (first | refine blk_drewN ?_ _ | refine blk_drew ?_ | refine blk_alloc ?_ _)); exact BK4.out) hb)
   have n4_ := Aside0.mk (hbo_)
   have n5_ := Aside0.mk (hc_)
   have n6_ := Aside0.mk (below_step (by repeat (first | (with_reducible first | exact HB.out | apply below_alloc | apply pw_below_drewN | apply below_drew1) | exact HB.out)) hb)
   have n7_ := Aside0.mk (hn_)
   clear HO110
   clear HO114
   clear BK3
   clear BK4
   clear HB
   clear HN
   have HO110 := n0_
   have HO114 := n1_
   have BK3 := n2_
   have BK4 := n3_
   have HO118 := n4_
   have C118 := n5_
   have HB := n6_
   have HN := n7_
   clear n0_ n1_ n2_ n3_ n4_ n5_ n6_ n7_
   clear hb
   (try clear ho0)
   refine hK.out _ _ ⟨(blk_cell BK3.out 0).trans rfl, (blk_cell BK4.out 0).trans rfl, (blk_cell BK4.out 1).trans rfl⟩ (fun hHeld => ?_)
   clear hK K
   refine norm_ (a' := ?_) ?_ ?_
   rotate_left
   ·
    show Act.put _ (some 35) _ = _
    simp only [Act.put, List.setIfInBounds_toArray, List.set_cons_zero, List.set_cons_succ, i64_w, i32_w]
    rfl
   refine pure_ (i := 6) (N := some 29) (v := ?_) (a' := ?_) #[true, true, true, true, true, true, true, false, false, false, false] rfl rfl (any_of HT_.out (by kernel_rfl)) (fun _ _ _ h => h) (Or.inl ⟨by rfl, ?_⟩) ?_ ?_
   rotate_left
   ·
    intro w'
    go_simp
    with_reducible rfl
   rotate_left
   ·
    simp only [Act.put, List.setIfInBounds_toArray, List.set_cons_zero, List.set_cons_succ, i64_w, i32_w]
    rfl
   refine pure_ (i := 7) (N := some 36) (v := ?_) (a' := ?_) #[true, true, true, true, true, true, true, true, false, false, false] rfl rfl (any_of HT_.out (by kernel_rfl)) (fun _ _ _ h => h) (Or.inl ⟨by rfl, ?_⟩) ?_ ?_
   rotate_left
   ·
    intro w'
    go_simp
    with_reducible rfl
   rotate_left
   ·
    simp only [Act.put, List.setIfInBounds_toArray, List.set_cons_zero, List.set_cons_succ, i64_w, i32_w]
    rfl
   refine pure_ (i := 8) (N := some 37) (v := ?_) (a' := ?_) #[true, true, true, true, true, true, true, true, true, false, false] rfl rfl (any_of HT_.out (by kernel_rfl)) (fun _ _ _ h => h) (Or.inl ⟨by rfl, ?_⟩) ?_ ?_
   rotate_left
   ·
    intro w'
    go_simp
    with_reducible rfl
   rotate_left
   ·
    simp only [Act.put, List.setIfInBounds_toArray, List.set_cons_zero, List.set_cons_succ, i64_w, i32_w]
    rfl
   refine pure_ (i := 9) (N := some 8) (v := ?_) (a' := ?_) #[true, true, true, true, true, true, true, true, true, true, false] rfl rfl (any_of HT_.out (by kernel_rfl)) (fun _ _ _ h => h) (Or.inl ⟨by rfl, ?_⟩) ?_ ?_
   rotate_left
   ·
    intro w'
    go_simp
    with_reducible rfl
   rotate_left
   ·
    simp only [Act.put, List.setIfInBounds_toArray, List.set_cons_zero, List.set_cons_succ, i64_w, i32_w]
    rfl
   refine pure_ (i := 10) (N := some 9) (v := ?_) (a' := ?_) #[true, true, true, true, true, true, true, true, true, true, true] rfl rfl (any_of HT_.out (by kernel_rfl)) (fun _ _ _ h => h) (Or.inl ⟨by rfl, ?_⟩) ?_ ?_
   rotate_left
   ·
    intro w'
    go_simp
    with_reducible rfl
   rotate_left
   ·
    simp only [Act.put, List.setIfInBounds_toArray, List.set_cons_zero, List.set_cons_succ, i64_w, i32_w]
    rfl
   refine done_ (done_of HT_.out (by kernel_rfl)) ?_
   clear hczgb3_0
   have hczgb3_0 : w117.cell? ⟨gb3, 0, none⟩ = some (.slice A0_0 l0_0.length c0_0) := (blk_cell BK3.out 0).trans rfl
   clear hfzgb3_0
   have hfzgb3_0 := blk_frozen BK3.out 0
   clear hczgb4_0
   have hczgb4_0 : w117.cell? ⟨gb4, 0, none⟩ = some (.int .i64 a1_0) := (blk_cell BK4.out 0).trans rfl
   clear hfzgb4_0
   have hfzgb4_0 := blk_frozen BK4.out 0
   clear hczgb4_1
   have hczgb4_1 : w117.cell? ⟨gb4, 1, none⟩ = some (.slice A1_1 l1_1.length c1_1) := (blk_cell BK4.out 1).trans rfl
   clear hfzgb4_1
   have hfzgb4_1 := blk_frozen BK4.out 1
   try go_wp2_with (first | ((with_reducible refine gate_callee (f := 12) rfl ?_); refine goesL_ (some 39) rfl rfl Try.func12 (by kernel_rfl) rfl #[.agg #[.slice A0_0 l0_0.length c0_0]] rfl (by (try simp only [List.map_toArray, List.map_cons, List.map_nil]); first | done | rfl | (simp only [List.length_drop, List.length_take]; rfl)) ?_; (with_reducible refine (laws_toGroup.calls k _ _ l0_0 t119 _ ?side1 ?side2 H5A.out).mono ?_); (case side1 => repeat (first | exact (Kd.C_below HR0_0.out HB.out) | (with_reducible refine Kd.C_alloc ?_ _) | (with_reducible refine Kd.C_drewN ?_ _) | (with_reducible refine Kd.C_drew ?_))); (case side2 => exact HC0_0.out); rintro e w120 ⟨vv120_v0_, rfl, ho0, hb⟩; obtain ⟨Ao121, co121, eo_⟩ := Kd.S_slice ho0; subst eo_; refine ⟨_, rfl, ?_⟩; obtain ⟨lo121, hi121, hc_, hn_, hbo_⟩ := bornS (by repeat (first | (with_reducible first | exact HN.out | apply sz_alloc | apply sz_drewN | apply sz_drew) | exact HN.out)) (below_size (by repeat (first | (with_reducible first | exact HB.out | apply below_alloc | apply pw_below_drewN | apply below_drew1) | exact HB.out))) ho0 hb; have n0_ := Aside0.mk (Kd.S_below (by (with_reducible repeat (first | apply Kd.S_alloc | apply Kd.S_drewN | apply Kd.S_drew)); exact HO110.out) hb); have n1_ := Aside0.mk (Kd.R_below (by (with_reducible repeat (first | apply Kd.R_alloc | apply Kd.R_drewN | apply Kd.R_drew)); exact HO114.out) hb); have n2_ := Aside0.mk (Kd.R_below (by (with_reducible repeat (first | apply Kd.R_alloc | apply Kd.R_drewN | apply Kd.R_drew)); exact HO118.out) hb); have n3_ := Aside0.mk (blk_below (g := gb3) (o := .cells #[.slice A0_0 l0_0.length c0_0] 24 (0, 0)) (by (with_reducible repeat (first | refine blk_drewN ?_ _ | refine blk_drew ?_ | refine blk_alloc ?_ _)); exact BK3.out) hb); have n4_ := Aside0.mk (blk_below (g := gb4) (o := .cells #[.int .i64 a1_0, .slice A1_1 l1_1.length c1_1] 27 (0, 0)) (by (with_reducible repeat (first | refine blk_drewN ?_ _ | refine blk_drew ?_ | refine blk_alloc ?_ _)); exact BK4.out) hb); have n5_ := Aside0.mk (hbo_); have n6_ := Aside0.mk (hc_); have n7_ := Aside0.mk (below_step (by repeat (first | (with_reducible first | exact HB.out | apply below_alloc | apply pw_below_drewN | apply below_drew1) | exact HB.out)) hb); have n8_ := Aside0.mk (hn_); clear HO110; clear HO114; clear HO118; clear BK3; clear BK4; clear HB; clear HN; have HO110 := n0_; have HO114 := n1_; have HO118 := n2_; have BK3 := n3_; have BK4 := n4_; have HO121 := n5_; have C121 := n6_; have HB := n7_; have HN := n8_; clear n0_ n1_ n2_ n3_ n4_ n5_ n6_ n7_ n8_; clear hb; (try clear ho0); clear hczgb3_0; have hczgb3_0 : w120.cell? ⟨gb3, 0, none⟩ = some (.slice A0_0 l0_0.length c0_0) := (blk_cell BK3.out 0).trans rfl; clear hfzgb3_0; have hfzgb3_0 := blk_frozen BK3.out 0; clear hczgb4_0; have hczgb4_0 : w120.cell? ⟨gb4, 0, none⟩ = some (.int .i64 a1_0) := (blk_cell BK4.out 0).trans rfl; clear hfzgb4_0; have hfzgb4_0 := blk_frozen BK4.out 0; clear hczgb4_1; have hczgb4_1 : w120.cell? ⟨gb4, 1, none⟩ = some (.slice A1_1 l1_1.length c1_1) := (blk_cell BK4.out 1).trans rfl; clear hfzgb4_1; have hfzgb4_1 := blk_frozen BK4.out 1) | ((with_reducible refine gate_dst (N := 10) rfl ?_); refine box_event ?hg (N := 10) ?hd (cs := #[.slice none 0 0]) (t := 32) ?hr ?_; (case hd => rfl); (case hg => rfl); (case hr => first | (go_simp; done) | (go_simp; rfl)); intro gb10 hg w122 hbox hb; have n0_ := Aside0.mk (Kd.S_below (by (with_reducible repeat (first | apply Kd.S_alloc | apply Kd.S_drewN | apply Kd.S_drew)); exact HO110.out) hb); have n1_ := Aside0.mk (Kd.R_below (by (with_reducible repeat (first | apply Kd.R_alloc | apply Kd.R_drewN | apply Kd.R_drew)); exact HO114.out) hb); have n2_ := Aside0.mk (Kd.R_below (by (with_reducible repeat (first | apply Kd.R_alloc | apply Kd.R_drewN | apply Kd.R_drew)); exact HO118.out) hb); have n3_ := Aside0.mk (Kd.S_below (by (with_reducible repeat (first | apply Kd.S_alloc | apply Kd.S_drewN | apply Kd.S_drew)); exact HO121.out) hb); have n4_ := Aside0.mk (blk_below (g := gb3) (o := .cells #[.slice A0_0 l0_0.length c0_0] 24 (0, 0)) (by (with_reducible repeat (first | refine blk_drewN ?_ _ | refine blk_drew ?_ | refine blk_alloc ?_ _)); exact BK3.out) hb); have n5_ := Aside0.mk (blk_below (g := gb4) (o := .cells #[.int .i64 a1_0, .slice A1_1 l1_1.length c1_1] 27 (0, 0)) (by (with_reducible repeat (first | refine blk_drewN ?_ _ | refine blk_drew ?_ | refine blk_alloc ?_ _)); exact BK4.out) hb); have n6_ := Aside0.mk (below_step (by repeat (first | (with_reducible first | exact HB.out | apply below_alloc | apply pw_below_drewN | apply below_drew1) | exact HB.out)) hb); have n7_ := Aside0.mk (hbox); have n8_ := Aside0.mk ((⟨by rw [hg]; exact (by repeat (first | (with_reducible first | exact HN.out | apply sz_alloc | apply sz_drewN | apply sz_drew) | exact HN.out)), Nat.le_succ _⟩ : hi121 ≤ gb10 ∧ gb10 ≤ gb10 + 1)); have n9_ := Aside0.mk ((by rw [hg]; exact below_size (by repeat (first | (with_reducible first | exact HB.out | apply below_alloc | apply pw_below_drewN | apply below_drew1) | exact HB.out)) : w.heap.size ≤ gb10)); have n10_ := Aside0.mk ((blk_lt hbox : gb10 + 1 ≤ w122.heap.size)); clear HO110; clear HO114; clear HO118; clear HO121; clear BK3; clear BK4; clear HB; clear HN; have HO110 := n0_; have HO114 := n1_; have HO118 := n2_; have HO121 := n3_; have BK3 := n4_; have BK4 := n5_; have HB := n6_; have BK10 := n7_; have CB10 := n8_; have GE10 := n9_; have HN := n10_; clear n0_ n1_ n2_ n3_ n4_ n5_ n6_ n7_ n8_ n9_ n10_; clear hb hbox hg; clear hczgb3_0; have hczgb3_0 : w122.cell? ⟨gb3, 0, none⟩ = some (.slice A0_0 l0_0.length c0_0) := (blk_cell BK3.out 0).trans rfl; clear hfzgb3_0; have hfzgb3_0 := blk_frozen BK3.out 0; clear hczgb4_0; have hczgb4_0 : w122.cell? ⟨gb4, 0, none⟩ = some (.int .i64 a1_0) := (blk_cell BK4.out 0).trans rfl; clear hfzgb4_0; have hfzgb4_0 := blk_frozen BK4.out 0; clear hczgb4_1; have hczgb4_1 : w122.cell? ⟨gb4, 1, none⟩ = some (.slice A1_1 l1_1.length c1_1) := (blk_cell BK4.out 1).trans rfl; clear hfzgb4_1; have hfzgb4_1 := blk_frozen BK4.out 1; have hczgb10_0 : w122.cell? ⟨gb10, 0, none⟩ = some (.slice none 0 0) := (blk_cell BK10.out 0).trans rfl; have hfzgb10_0 := blk_frozen BK10.out 0) | ((with_reducible refine gate_store (t := 32) (p := 10) rfl ?_); refine store_event (t := 32) (p := 10) (v := ?vo_w123) (w1 := (w122.setCell ⟨gb10, 0, none⟩ (.slice Ao121 t119.length co121))) ?hg ?ho ?hn ?hr ?_; (case ho => rfl); (case hg => rfl); (case hn => rfl); (case hr => first | (go_simp; done) | (go_simp; rfl)); intro w123 hw; have hkp : Kept w122 w123 (fun k_ => k_ = gb10) := (by rw [hw]; refine Kept.setCell ?_ (by exact Or.inl rfl) _; exact Kept.refl _ _); have n0_ := Aside0.mk (Kd.S_kept (by (with_reducible repeat (first | apply Kd.S_alloc | apply Kd.S_drewN | apply Kd.S_drew)); exact HO110.out) hkp (fun k_ h1_ h2_ => apartI (by have h3_ := C114.out; have h4_ := C118.out; have h5_ := C121.out; have h6_ := CB10.out; omega) h1_ ⟨Nat.le_of_eq h2_.symm, Nat.lt_succ_of_le (Nat.le_of_eq h2_)⟩)); have n1_ := Aside0.mk (Kd.R_kept (by (with_reducible repeat (first | apply Kd.R_alloc | apply Kd.R_drewN | apply Kd.R_drew)); exact HO114.out) hkp (fun k_ h1_ h2_ => apartI (by have h4_ := C118.out; have h5_ := C121.out; have h6_ := CB10.out; omega) h1_ ⟨Nat.le_of_eq h2_.symm, Nat.lt_succ_of_le (Nat.le_of_eq h2_)⟩)); have n2_ := Aside0.mk (Kd.R_kept (by (with_reducible repeat (first | apply Kd.R_alloc | apply Kd.R_drewN | apply Kd.R_drew)); exact HO118.out) hkp (fun k_ h1_ h2_ => apartI (by have h5_ := C121.out; have h6_ := CB10.out; omega) h1_ ⟨Nat.le_of_eq h2_.symm, Nat.lt_succ_of_le (Nat.le_of_eq h2_)⟩)); have n3_ := Aside0.mk (Kd.S_kept (by (with_reducible repeat (first | apply Kd.S_alloc | apply Kd.S_drewN | apply Kd.S_drew)); exact HO121.out) hkp (fun k_ h1_ h2_ => apartI (by have h6_ := CB10.out; omega) h1_ ⟨Nat.le_of_eq h2_.symm, Nat.lt_succ_of_le (Nat.le_of_eq h2_)⟩)); have n4_ := Aside0.mk (blk_kept (g := gb3) (o := .cells #[.slice A0_0 l0_0.length c0_0] 24 (0, 0)) (by (with_reducible repeat (first | refine blk_drewN ?_ _ | refine blk_drew ?_ | refine blk_alloc ?_ _)); exact BK3.out) hkp (fun h2_ => apartI (by have h1_ := CB4.out; have h2_ := C110.out; have h3_ := C114.out; have h4_ := C118.out; have h5_ := C121.out; have h6_ := CB10.out; omega) ⟨Nat.le_refl _, Nat.lt_succ_self _⟩ ⟨Nat.le_of_eq h2_.symm, Nat.lt_succ_of_le (Nat.le_of_eq h2_)⟩)); have n5_ := Aside0.mk (blk_kept (g := gb4) (o := .cells #[.int .i64 a1_0, .slice A1_1 l1_1.length c1_1] 27 (0, 0)) (by (with_reducible repeat (first | refine blk_drewN ?_ _ | refine blk_drew ?_ | refine blk_alloc ?_ _)); exact BK4.out) hkp (fun h2_ => apartI (by have h2_ := C110.out; have h3_ := C114.out; have h4_ := C118.out; have h5_ := C121.out; have h6_ := CB10.out; omega) ⟨Nat.le_refl _, Nat.lt_succ_self _⟩ ⟨Nat.le_of_eq h2_.symm, Nat.lt_succ_of_le (Nat.le_of_eq h2_)⟩)); have n6_ := Aside0.mk ((by rw [hw]; refine blk_put (cs := #[.slice none 0 0]) ?_ 0 _ rfl; exact BK10.out : w123.heap[gb10]? = some (.cells #[.slice Ao121 t119.length co121] 32 (0, 0)))); have n7_ := Aside0.mk ((by rw [hw]; exact (below_set (by repeat (first | (with_reducible first | exact HB.out | apply below_alloc | apply pw_below_drewN | apply below_drew1) | exact HB.out)) GE10.out) : Below w.heap.size w w123)); have n8_ := Aside0.mk (Nat.le_trans (by repeat (first | (with_reducible first | exact HN.out | apply sz_alloc | apply sz_drewN | apply sz_drew) | exact HN.out)) hkp.1); clear HO110; clear HO114; clear HO118; clear HO121; clear BK3; clear BK4; clear BK10; clear HB; clear HN; have HO110 := n0_; have HO114 := n1_; have HO118 := n2_; have HO121 := n3_; have BK3 := n4_; have BK4 := n5_; have BK10 := n6_; have HB := n7_; have HN := n8_; clear n0_ n1_ n2_ n3_ n4_ n5_ n6_ n7_ n8_; clear hw hkp; clear hczgb3_0; have hczgb3_0 : w123.cell? ⟨gb3, 0, none⟩ = some (.slice A0_0 l0_0.length c0_0) := (blk_cell BK3.out 0).trans rfl; clear hfzgb3_0; have hfzgb3_0 := blk_frozen BK3.out 0; clear hczgb4_0; have hczgb4_0 : w123.cell? ⟨gb4, 0, none⟩ = some (.int .i64 a1_0) := (blk_cell BK4.out 0).trans rfl; clear hfzgb4_0; have hfzgb4_0 := blk_frozen BK4.out 0; clear hczgb4_1; have hczgb4_1 : w123.cell? ⟨gb4, 1, none⟩ = some (.slice A1_1 l1_1.length c1_1) := (blk_cell BK4.out 1).trans rfl; clear hfzgb4_1; have hfzgb4_1 := blk_frozen BK4.out 1; clear hczgb10_0; have hczgb10_0 : w123.cell? ⟨gb10, 0, none⟩ = some (.slice Ao121 t119.length co121) := (blk_cell BK10.out 0).trans rfl; clear hfzgb10_0; have hfzgb10_0 := blk_frozen BK10.out 0) | ((with_reducible refine gate_callee (f := 13) rfl ?_); refine goesL_ (some 41) rfl rfl Try.func13 (by kernel_rfl) rfl #[.agg #[.int .i64 a1_0, .slice A1_1 l1_1.length c1_1]] rfl (by (try simp only [List.map_toArray, List.map_cons, List.map_nil]); first | done | rfl | (simp only [List.length_drop, List.length_take]; rfl)) ?_; (with_reducible refine (laws_toModule.calls k a1_0 _ _ l1_1 t124 t125 _ ?side1 ?side2 H6A.out).mono ?_); (case side1 => repeat (first | exact (Kd.C_below HR1_1.out HB.out) | (with_reducible refine Kd.C_alloc ?_ _) | (with_reducible refine Kd.C_drewN ?_ _) | (with_reducible refine Kd.C_drew ?_))); (case side2 => exact HC1_1.out); rintro e w126 ⟨vv126_v1_, rfl, ho0, hb⟩; obtain ⟨Ao127, co127, eo_⟩ := Kd.R_slice ho0; subst eo_; refine ⟨_, rfl, ?_⟩; obtain ⟨lo127, hi127, hc_, hn_, hbo_⟩ := bornR (by repeat (first | (with_reducible first | exact HN.out | apply sz_alloc | apply sz_drewN | apply sz_drew) | exact HN.out)) (below_size (by repeat (first | (with_reducible first | exact HB.out | apply below_alloc | apply pw_below_drewN | apply below_drew1) | exact HB.out))) ho0 hb; have n0_ := Aside0.mk (Kd.S_below (by (with_reducible repeat (first | apply Kd.S_alloc | apply Kd.S_drewN | apply Kd.S_drew)); exact HO110.out) hb); have n1_ := Aside0.mk (Kd.R_below (by (with_reducible repeat (first | apply Kd.R_alloc | apply Kd.R_drewN | apply Kd.R_drew)); exact HO114.out) hb); have n2_ := Aside0.mk (Kd.R_below (by (with_reducible repeat (first | apply Kd.R_alloc | apply Kd.R_drewN | apply Kd.R_drew)); exact HO118.out) hb); have n3_ := Aside0.mk (Kd.S_below (by (with_reducible repeat (first | apply Kd.S_alloc | apply Kd.S_drewN | apply Kd.S_drew)); exact HO121.out) hb); have n4_ := Aside0.mk (blk_below (g := gb3) (o := .cells #[.slice A0_0 l0_0.length c0_0] 24 (0, 0)) (by (with_reducible repeat (first | refine blk_drewN ?_ _ | refine blk_drew ?_ | refine blk_alloc ?_ _)); exact BK3.out) hb); have n5_ := Aside0.mk (blk_below (g := gb4) (o := .cells #[.int .i64 a1_0, .slice A1_1 l1_1.length c1_1] 27 (0, 0)) (by (with_reducible repeat (first | refine blk_drewN ?_ _ | refine blk_drew ?_ | refine blk_alloc ?_ _)); exact BK4.out) hb); have n6_ := Aside0.mk (blk_below (g := gb10) (o := .cells #[.slice Ao121 t119.length co121] 32 (0, 0)) (by (with_reducible repeat (first | refine blk_drewN ?_ _ | refine blk_drew ?_ | refine blk_alloc ?_ _)); exact BK10.out) hb); have n7_ := Aside0.mk (hbo_); have n8_ := Aside0.mk (hc_); have n9_ := Aside0.mk (below_step (by repeat (first | (with_reducible first | exact HB.out | apply below_alloc | apply pw_below_drewN | apply below_drew1) | exact HB.out)) hb); have n10_ := Aside0.mk (hn_); clear HO110; clear HO114; clear HO118; clear HO121; clear BK3; clear BK4; clear BK10; clear HB; clear HN; have HO110 := n0_; have HO114 := n1_; have HO118 := n2_; have HO121 := n3_; have BK3 := n4_; have BK4 := n5_; have BK10 := n6_; have HO127 := n7_; have C127 := n8_; have HB := n9_; have HN := n10_; clear n0_ n1_ n2_ n3_ n4_ n5_ n6_ n7_ n8_ n9_ n10_; clear hb; (try clear ho0); clear hczgb3_0; have hczgb3_0 : w126.cell? ⟨gb3, 0, none⟩ = some (.slice A0_0 l0_0.length c0_0) := (blk_cell BK3.out 0).trans rfl; clear hfzgb3_0; have hfzgb3_0 := blk_frozen BK3.out 0; clear hczgb4_0; have hczgb4_0 : w126.cell? ⟨gb4, 0, none⟩ = some (.int .i64 a1_0) := (blk_cell BK4.out 0).trans rfl; clear hfzgb4_0; have hfzgb4_0 := blk_frozen BK4.out 0; clear hczgb4_1; have hczgb4_1 : w126.cell? ⟨gb4, 1, none⟩ = some (.slice A1_1 l1_1.length c1_1) := (blk_cell BK4.out 1).trans rfl; clear hfzgb4_1; have hfzgb4_1 := blk_frozen BK4.out 1; clear hczgb10_0; have hczgb10_0 : w126.cell? ⟨gb10, 0, none⟩ = some (.slice Ao121 t119.length co121) := (blk_cell BK10.out 0).trans rfl; clear hfzgb10_0; have hfzgb10_0 := blk_frozen BK10.out 0) | ((with_reducible refine gate_dst (N := 11) rfl ?_); refine box_event ?hg (N := 11) ?hd (cs := #[.int .i64 0, .slice none 0 0]) (t := 34) ?hr ?_; (case hd => rfl); (case hg => rfl); (case hr => first | (go_simp; done) | (go_simp; rfl)); intro gb11 hg w128 hbox hb; have n0_ := Aside0.mk (Kd.S_below (by (with_reducible repeat (first | apply Kd.S_alloc | apply Kd.S_drewN | apply Kd.S_drew)); exact HO110.out) hb); have n1_ := Aside0.mk (Kd.R_below (by (with_reducible repeat (first | apply Kd.R_alloc | apply Kd.R_drewN | apply Kd.R_drew)); exact HO114.out) hb); have n2_ := Aside0.mk (Kd.R_below (by (with_reducible repeat (first | apply Kd.R_alloc | apply Kd.R_drewN | apply Kd.R_drew)); exact HO118.out) hb); have n3_ := Aside0.mk (Kd.S_below (by (with_reducible repeat (first | apply Kd.S_alloc | apply Kd.S_drewN | apply Kd.S_drew)); exact HO121.out) hb); have n4_ := Aside0.mk (Kd.R_below (by (with_reducible repeat (first | apply Kd.R_alloc | apply Kd.R_drewN | apply Kd.R_drew)); exact HO127.out) hb); have n5_ := Aside0.mk (blk_below (g := gb3) (o := .cells #[.slice A0_0 l0_0.length c0_0] 24 (0, 0)) (by (with_reducible repeat (first | refine blk_drewN ?_ _ | refine blk_drew ?_ | refine blk_alloc ?_ _)); exact BK3.out) hb); have n6_ := Aside0.mk (blk_below (g := gb4) (o := .cells #[.int .i64 a1_0, .slice A1_1 l1_1.length c1_1] 27 (0, 0)) (by (with_reducible repeat (first | refine blk_drewN ?_ _ | refine blk_drew ?_ | refine blk_alloc ?_ _)); exact BK4.out) hb); have n7_ := Aside0.mk (blk_below (g := gb10) (o := .cells #[.slice Ao121 t119.length co121] 32 (0, 0)) (by (with_reducible repeat (first | refine blk_drewN ?_ _ | refine blk_drew ?_ | refine blk_alloc ?_ _)); exact BK10.out) hb); have n8_ := Aside0.mk (below_step (by repeat (first | (with_reducible first | exact HB.out | apply below_alloc | apply pw_below_drewN | apply below_drew1) | exact HB.out)) hb); have n9_ := Aside0.mk (hbox); have n10_ := Aside0.mk ((⟨by rw [hg]; exact (by repeat (first | (with_reducible first | exact HN.out | apply sz_alloc | apply sz_drewN | apply sz_drew) | exact HN.out)), Nat.le_succ _⟩ : hi127 ≤ gb11 ∧ gb11 ≤ gb11 + 1)); have n11_ := Aside0.mk ((by rw [hg]; exact below_size (by repeat (first | (with_reducible first | exact HB.out | apply below_alloc | apply pw_below_drewN | apply below_drew1) | exact HB.out)) : w.heap.size ≤ gb11)); have n12_ := Aside0.mk ((blk_lt hbox : gb11 + 1 ≤ w128.heap.size)); clear HO110; clear HO114; clear HO118; clear HO121; clear HO127; clear BK3; clear BK4; clear BK10; clear HB; clear HN; have HO110 := n0_; have HO114 := n1_; have HO118 := n2_; have HO121 := n3_; have HO127 := n4_; have BK3 := n5_; have BK4 := n6_; have BK10 := n7_; have HB := n8_; have BK11 := n9_; have CB11 := n10_; have GE11 := n11_; have HN := n12_; clear n0_ n1_ n2_ n3_ n4_ n5_ n6_ n7_ n8_ n9_ n10_ n11_ n12_; clear hb hbox hg; clear hczgb3_0; have hczgb3_0 : w128.cell? ⟨gb3, 0, none⟩ = some (.slice A0_0 l0_0.length c0_0) := (blk_cell BK3.out 0).trans rfl; clear hfzgb3_0; have hfzgb3_0 := blk_frozen BK3.out 0; clear hczgb4_0; have hczgb4_0 : w128.cell? ⟨gb4, 0, none⟩ = some (.int .i64 a1_0) := (blk_cell BK4.out 0).trans rfl; clear hfzgb4_0; have hfzgb4_0 := blk_frozen BK4.out 0; clear hczgb4_1; have hczgb4_1 : w128.cell? ⟨gb4, 1, none⟩ = some (.slice A1_1 l1_1.length c1_1) := (blk_cell BK4.out 1).trans rfl; clear hfzgb4_1; have hfzgb4_1 := blk_frozen BK4.out 1; clear hczgb10_0; have hczgb10_0 : w128.cell? ⟨gb10, 0, none⟩ = some (.slice Ao121 t119.length co121) := (blk_cell BK10.out 0).trans rfl; clear hfzgb10_0; have hfzgb10_0 := blk_frozen BK10.out 0; have hczgb11_0 : w128.cell? ⟨gb11, 0, none⟩ = some (.int .i64 0) := (blk_cell BK11.out 0).trans rfl; have hfzgb11_0 := blk_frozen BK11.out 0; have hczgb11_1 : w128.cell? ⟨gb11, 1, none⟩ = some (.slice none 0 0) := (blk_cell BK11.out 1).trans rfl; have hfzgb11_1 := blk_frozen BK11.out 1) | ((with_reducible refine gate_store (t := 34) (p := 11) rfl ?_); refine store_event (t := 34) (p := 11) (v := ?vo_w129) (w1 := ((w128.setCell ⟨gb11, 0, none⟩ (.int .i64 t124)).setCell ⟨gb11, 1, none⟩ (.slice Ao127 t125.length co127))) ?hg ?ho ?hn ?hr ?_; (case ho => rfl); (case hg => rfl); (case hn => rfl); (case hr => first | (go_simp; done) | (go_simp; rfl)); intro w129 hw; have hkp : Kept w128 w129 (fun k_ => k_ = gb11) := (by rw [hw]; refine Kept.setCell ?_ (by exact Or.inl rfl) _; refine Kept.setCell ?_ (by exact Or.inl rfl) _; exact Kept.refl _ _); have n0_ := Aside0.mk (Kd.S_kept (by (with_reducible repeat (first | apply Kd.S_alloc | apply Kd.S_drewN | apply Kd.S_drew)); exact HO110.out) hkp (fun k_ h1_ h2_ => apartI (by have h3_ := C114.out; have h4_ := C118.out; have h5_ := C121.out; have h6_ := CB10.out; have h7_ := C127.out; have h8_ := CB11.out; omega) h1_ ⟨Nat.le_of_eq h2_.symm, Nat.lt_succ_of_le (Nat.le_of_eq h2_)⟩)); have n1_ := Aside0.mk (Kd.R_kept (by (with_reducible repeat (first | apply Kd.R_alloc | apply Kd.R_drewN | apply Kd.R_drew)); exact HO114.out) hkp (fun k_ h1_ h2_ => apartI (by have h4_ := C118.out; have h5_ := C121.out; have h6_ := CB10.out; have h7_ := C127.out; have h8_ := CB11.out; omega) h1_ ⟨Nat.le_of_eq h2_.symm, Nat.lt_succ_of_le (Nat.le_of_eq h2_)⟩)); have n2_ := Aside0.mk (Kd.R_kept (by (with_reducible repeat (first | apply Kd.R_alloc | apply Kd.R_drewN | apply Kd.R_drew)); exact HO118.out) hkp (fun k_ h1_ h2_ => apartI (by have h5_ := C121.out; have h6_ := CB10.out; have h7_ := C127.out; have h8_ := CB11.out; omega) h1_ ⟨Nat.le_of_eq h2_.symm, Nat.lt_succ_of_le (Nat.le_of_eq h2_)⟩)); have n3_ := Aside0.mk (Kd.S_kept (by (with_reducible repeat (first | apply Kd.S_alloc | apply Kd.S_drewN | apply Kd.S_drew)); exact HO121.out) hkp (fun k_ h1_ h2_ => apartI (by have h6_ := CB10.out; have h7_ := C127.out; have h8_ := CB11.out; omega) h1_ ⟨Nat.le_of_eq h2_.symm, Nat.lt_succ_of_le (Nat.le_of_eq h2_)⟩)); have n4_ := Aside0.mk (Kd.R_kept (by (with_reducible repeat (first | apply Kd.R_alloc | apply Kd.R_drewN | apply Kd.R_drew)); exact HO127.out) hkp (fun k_ h1_ h2_ => apartI (by have h8_ := CB11.out; omega) h1_ ⟨Nat.le_of_eq h2_.symm, Nat.lt_succ_of_le (Nat.le_of_eq h2_)⟩)); have n5_ := Aside0.mk (blk_kept (g := gb3) (o := .cells #[.slice A0_0 l0_0.length c0_0] 24 (0, 0)) (by (with_reducible repeat (first | refine blk_drewN ?_ _ | refine blk_drew ?_ | refine blk_alloc ?_ _)); exact BK3.out) hkp (fun h2_ => apartI (by have h1_ := CB4.out; have h2_ := C110.out; have h3_ := C114.out; have h4_ := C118.out; have h5_ := C121.out; have h6_ := CB10.out; have h7_ := C127.out; have h8_ := CB11.out; omega) ⟨Nat.le_refl _, Nat.lt_succ_self _⟩ ⟨Nat.le_of_eq h2_.symm, Nat.lt_succ_of_le (Nat.le_of_eq h2_)⟩)); have n6_ := Aside0.mk (blk_kept (g := gb4) (o := .cells #[.int .i64 a1_0, .slice A1_1 l1_1.length c1_1] 27 (0, 0)) (by (with_reducible repeat (first | refine blk_drewN ?_ _ | refine blk_drew ?_ | refine blk_alloc ?_ _)); exact BK4.out) hkp (fun h2_ => apartI (by have h2_ := C110.out; have h3_ := C114.out; have h4_ := C118.out; have h5_ := C121.out; have h6_ := CB10.out; have h7_ := C127.out; have h8_ := CB11.out; omega) ⟨Nat.le_refl _, Nat.lt_succ_self _⟩ ⟨Nat.le_of_eq h2_.symm, Nat.lt_succ_of_le (Nat.le_of_eq h2_)⟩)); have n7_ := Aside0.mk (blk_kept (g := gb10) (o := .cells #[.slice Ao121 t119.length co121] 32 (0, 0)) (by (with_reducible repeat (first | refine blk_drewN ?_ _ | refine blk_drew ?_ | refine blk_alloc ?_ _)); exact BK10.out) hkp (fun h2_ => apartI (by have h7_ := C127.out; have h8_ := CB11.out; omega) ⟨Nat.le_refl _, Nat.lt_succ_self _⟩ ⟨Nat.le_of_eq h2_.symm, Nat.lt_succ_of_le (Nat.le_of_eq h2_)⟩)); have n8_ := Aside0.mk ((by rw [hw]; refine blk_put (cs := #[.int .i64 t124, .slice none 0 0]) ?_ 1 _ rfl; refine blk_put (cs := #[.int .i64 0, .slice none 0 0]) ?_ 0 _ rfl; exact BK11.out : w129.heap[gb11]? = some (.cells #[.int .i64 t124, .slice Ao127 t125.length co127] 34 (0, 0)))); have n9_ := Aside0.mk ((by rw [hw]; exact (below_set (below_set (by repeat (first | (with_reducible first | exact HB.out | apply below_alloc | apply pw_below_drewN | apply below_drew1) | exact HB.out)) GE11.out) GE11.out) : Below w.heap.size w w129)); have n10_ := Aside0.mk (Nat.le_trans (by repeat (first | (with_reducible first | exact HN.out | apply sz_alloc | apply sz_drewN | apply sz_drew) | exact HN.out)) hkp.1); clear HO110; clear HO114; clear HO118; clear HO121; clear HO127; clear BK3; clear BK4; clear BK10; clear BK11; clear HB; clear HN; have HO110 := n0_; have HO114 := n1_; have HO118 := n2_; have HO121 := n3_; have HO127 := n4_; have BK3 := n5_; have BK4 := n6_; have BK10 := n7_; have BK11 := n8_; have HB := n9_; have HN := n10_; clear n0_ n1_ n2_ n3_ n4_ n5_ n6_ n7_ n8_ n9_ n10_; clear hw hkp; clear hczgb3_0; have hczgb3_0 : w129.cell? ⟨gb3, 0, none⟩ = some (.slice A0_0 l0_0.length c0_0) := (blk_cell BK3.out 0).trans rfl; clear hfzgb3_0; have hfzgb3_0 := blk_frozen BK3.out 0; clear hczgb4_0; have hczgb4_0 : w129.cell? ⟨gb4, 0, none⟩ = some (.int .i64 a1_0) := (blk_cell BK4.out 0).trans rfl; clear hfzgb4_0; have hfzgb4_0 := blk_frozen BK4.out 0; clear hczgb4_1; have hczgb4_1 : w129.cell? ⟨gb4, 1, none⟩ = some (.slice A1_1 l1_1.length c1_1) := (blk_cell BK4.out 1).trans rfl; clear hfzgb4_1; have hfzgb4_1 := blk_frozen BK4.out 1; clear hczgb10_0; have hczgb10_0 : w129.cell? ⟨gb10, 0, none⟩ = some (.slice Ao121 t119.length co121) := (blk_cell BK10.out 0).trans rfl; clear hfzgb10_0; have hfzgb10_0 := blk_frozen BK10.out 0; clear hczgb11_0; have hczgb11_0 : w129.cell? ⟨gb11, 0, none⟩ = some (.int .i64 t124) := (blk_cell BK11.out 0).trans rfl; clear hfzgb11_0; have hfzgb11_0 := blk_frozen BK11.out 0; clear hczgb11_1; have hczgb11_1 : w129.cell? ⟨gb11, 1, none⟩ = some (.slice Ao127 t125.length co127) := (blk_cell BK11.out 1).trans rfl; clear hfzgb11_1; have hfzgb11_1 := blk_frozen BK11.out 1) | ((with_reducible refine gate_callee (f := 26) rfl ?_); refine goesL_ (some 46) rfl rfl Try.func26 (by kernel_rfl) rfl #[.agg #[.slice Ao121 t119.length co121], .agg #[.int .i64 t124, .slice Ao127 t125.length co127], .int .i64 a2] rfl (by (try simp only [List.map_toArray, List.map_cons, List.map_nil]); first | done | rfl | (simp only [List.length_drop, List.length_take]; rfl)) ?_; (with_reducible refine (impl_PrincipalMap.calls k _ _ t119 t124 (fun k_ => lo127 ≤ k_ ∧ k_ < hi127) _ _ t125 a2 t130 t171 _ ?side1 ?side2 ?side3 H7A.out).mono ?_); (case side1 => exact (Kd.S_reads' (by (with_reducible repeat (first | apply Kd.S_alloc | apply Kd.S_drewN | apply Kd.S_drew)); exact HO121.out)).2.2); (case side2 => exact capS HO121.out); (case side3 => exact Kd.R_V (by (with_reducible repeat (first | apply Kd.R_alloc | apply Kd.R_drewN | apply Kd.R_drew)); exact HO127.out)); rintro e w132 ⟨vv132_v0_, rfl, ho0, hb⟩; obtain ⟨Ao133, co133, eo_⟩ := Kd.R_slice ho0; subst eo_; refine ⟨_, rfl, ?_⟩; obtain ⟨lo133, hi133, hc_, hn_, hbo_⟩ := bornR (by repeat (first | (with_reducible first | exact HN.out | apply sz_alloc | apply sz_drewN | apply sz_drew) | exact HN.out)) (below_size (by repeat (first | (with_reducible first | exact HB.out | apply below_alloc | apply pw_below_drewN | apply below_drew1) | exact HB.out))) ho0 hb; have n0_ := Aside0.mk (Kd.S_below (by (with_reducible repeat (first | apply Kd.S_alloc | apply Kd.S_drewN | apply Kd.S_drew)); exact HO110.out) hb); have n1_ := Aside0.mk (Kd.R_below (by (with_reducible repeat (first | apply Kd.R_alloc | apply Kd.R_drewN | apply Kd.R_drew)); exact HO114.out) hb); have n2_ := Aside0.mk (Kd.R_below (by (with_reducible repeat (first | apply Kd.R_alloc | apply Kd.R_drewN | apply Kd.R_drew)); exact HO118.out) hb); have n3_ := Aside0.mk (Kd.S_below (by (with_reducible repeat (first | apply Kd.S_alloc | apply Kd.S_drewN | apply Kd.S_drew)); exact HO121.out) hb); have n4_ := Aside0.mk (Kd.R_below (by (with_reducible repeat (first | apply Kd.R_alloc | apply Kd.R_drewN | apply Kd.R_drew)); exact HO127.out) hb); have n5_ := Aside0.mk (blk_below (g := gb3) (o := .cells #[.slice A0_0 l0_0.length c0_0] 24 (0, 0)) (by (with_reducible repeat (first | refine blk_drewN ?_ _ | refine blk_drew ?_ | refine blk_alloc ?_ _)); exact BK3.out) hb); have n6_ := Aside0.mk (blk_below (g := gb4) (o := .cells #[.int .i64 a1_0, .slice A1_1 l1_1.length c1_1] 27 (0, 0)) (by (with_reducible repeat (first | refine blk_drewN ?_ _ | refine blk_drew ?_ | refine blk_alloc ?_ _)); exact BK4.out) hb); have n7_ := Aside0.mk (blk_below (g := gb10) (o := .cells #[.slice Ao121 t119.length co121] 32 (0, 0)) (by (with_reducible repeat (first | refine blk_drewN ?_ _ | refine blk_drew ?_ | refine blk_alloc ?_ _)); exact BK10.out) hb); have n8_ := Aside0.mk (blk_below (g := gb11) (o := .cells #[.int .i64 t124, .slice Ao127 t125.length co127] 34 (0, 0)) (by (with_reducible repeat (first | refine blk_drewN ?_ _ | refine blk_drew ?_ | refine blk_alloc ?_ _)); exact BK11.out) hb); have n9_ := Aside0.mk (hbo_); have n10_ := Aside0.mk (hc_); have n11_ := Aside0.mk (below_step (by repeat (first | (with_reducible first | exact HB.out | apply below_alloc | apply pw_below_drewN | apply below_drew1) | exact HB.out)) hb); have n12_ := Aside0.mk (hn_); clear HO110; clear HO114; clear HO118; clear HO121; clear HO127; clear BK3; clear BK4; clear BK10; clear BK11; clear HB; clear HN; have HO110 := n0_; have HO114 := n1_; have HO118 := n2_; have HO121 := n3_; have HO127 := n4_; have BK3 := n5_; have BK4 := n6_; have BK10 := n7_; have BK11 := n8_; have HO133 := n9_; have C133 := n10_; have HB := n11_; have HN := n12_; clear n0_ n1_ n2_ n3_ n4_ n5_ n6_ n7_ n8_ n9_ n10_ n11_ n12_; clear hb; (try clear ho0); clear hczgb3_0; have hczgb3_0 : w132.cell? ⟨gb3, 0, none⟩ = some (.slice A0_0 l0_0.length c0_0) := (blk_cell BK3.out 0).trans rfl; clear hfzgb3_0; have hfzgb3_0 := blk_frozen BK3.out 0; clear hczgb4_0; have hczgb4_0 : w132.cell? ⟨gb4, 0, none⟩ = some (.int .i64 a1_0) := (blk_cell BK4.out 0).trans rfl; clear hfzgb4_0; have hfzgb4_0 := blk_frozen BK4.out 0; clear hczgb4_1; have hczgb4_1 : w132.cell? ⟨gb4, 1, none⟩ = some (.slice A1_1 l1_1.length c1_1) := (blk_cell BK4.out 1).trans rfl; clear hfzgb4_1; have hfzgb4_1 := blk_frozen BK4.out 1; clear hczgb10_0; have hczgb10_0 : w132.cell? ⟨gb10, 0, none⟩ = some (.slice Ao121 t119.length co121) := (blk_cell BK10.out 0).trans rfl; clear hfzgb10_0; have hfzgb10_0 := blk_frozen BK10.out 0; clear hczgb11_0; have hczgb11_0 : w132.cell? ⟨gb11, 0, none⟩ = some (.int .i64 t124) := (blk_cell BK11.out 0).trans rfl; clear hfzgb11_0; have hfzgb11_0 := blk_frozen BK11.out 0; clear hczgb11_1; have hczgb11_1 : w132.cell? ⟨gb11, 1, none⟩ = some (.slice Ao127 t125.length co127) := (blk_cell BK11.out 1).trans rfl; clear hfzgb11_1; have hfzgb11_1 := blk_frozen BK11.out 1) | ((with_reducible refine gate_callee (f := 24) rfl ?_); refine goesL_ (some 51) rfl rfl Try.func24 (by kernel_rfl) rfl #[.slice Ao133 t130.length co133, .slice Ao118 t115.length co118] rfl (by (try simp only [List.map_toArray, List.map_cons, List.map_nil]); first | done | rfl | (simp only [List.length_drop, List.length_take]; rfl)) ?_; (with_reducible refine (laws_eqInt64S.calls k _ _ t130 _ _ t115 true _ ?side1 ?side2 ?side3 ?side4 H8A.out).mono ?_); (case side1 => exact (Kd.R_reads' (by (with_reducible repeat (first | apply Kd.R_alloc | apply Kd.R_drewN | apply Kd.R_drew)); exact HO133.out)).2.2); (case side2 => exact capR HO133.out); (case side3 => exact (Kd.R_reads' (by (with_reducible repeat (first | apply Kd.R_alloc | apply Kd.R_drewN | apply Kd.R_drew)); exact HO118.out)).2.2); (case side4 => exact capR HO118.out); rintro e w135 ⟨rfl, hd⟩; have hb := Drawn0.below hd; refine ⟨_, rfl, ?_⟩; have n0_ := Aside0.mk (Kd.S_below (by (with_reducible repeat (first | apply Kd.S_alloc | apply Kd.S_drewN | apply Kd.S_drew)); exact HO110.out) hb); have n1_ := Aside0.mk (Kd.R_below (by (with_reducible repeat (first | apply Kd.R_alloc | apply Kd.R_drewN | apply Kd.R_drew)); exact HO114.out) hb); have n2_ := Aside0.mk (Kd.R_below (by (with_reducible repeat (first | apply Kd.R_alloc | apply Kd.R_drewN | apply Kd.R_drew)); exact HO118.out) hb); have n3_ := Aside0.mk (Kd.S_below (by (with_reducible repeat (first | apply Kd.S_alloc | apply Kd.S_drewN | apply Kd.S_drew)); exact HO121.out) hb); have n4_ := Aside0.mk (Kd.R_below (by (with_reducible repeat (first | apply Kd.R_alloc | apply Kd.R_drewN | apply Kd.R_drew)); exact HO127.out) hb); have n5_ := Aside0.mk (Kd.R_below (by (with_reducible repeat (first | apply Kd.R_alloc | apply Kd.R_drewN | apply Kd.R_drew)); exact HO133.out) hb); have n6_ := Aside0.mk (blk_below (g := gb3) (o := .cells #[.slice A0_0 l0_0.length c0_0] 24 (0, 0)) (by (with_reducible repeat (first | refine blk_drewN ?_ _ | refine blk_drew ?_ | refine blk_alloc ?_ _)); exact BK3.out) hb); have n7_ := Aside0.mk (blk_below (g := gb4) (o := .cells #[.int .i64 a1_0, .slice A1_1 l1_1.length c1_1] 27 (0, 0)) (by (with_reducible repeat (first | refine blk_drewN ?_ _ | refine blk_drew ?_ | refine blk_alloc ?_ _)); exact BK4.out) hb); have n8_ := Aside0.mk (blk_below (g := gb10) (o := .cells #[.slice Ao121 t119.length co121] 32 (0, 0)) (by (with_reducible repeat (first | refine blk_drewN ?_ _ | refine blk_drew ?_ | refine blk_alloc ?_ _)); exact BK10.out) hb); have n9_ := Aside0.mk (blk_below (g := gb11) (o := .cells #[.int .i64 t124, .slice Ao127 t125.length co127] 34 (0, 0)) (by (with_reducible repeat (first | refine blk_drewN ?_ _ | refine blk_drew ?_ | refine blk_alloc ?_ _)); exact BK11.out) hb); have n10_ := Aside0.mk (below_step (by repeat (first | (with_reducible first | exact HB.out | apply below_alloc | apply pw_below_drewN | apply below_drew1) | exact HB.out)) hb); have n11_ := Aside0.mk (Nat.le_trans (by repeat (first | (with_reducible first | exact HN.out | apply sz_alloc | apply sz_drewN | apply sz_drew) | exact HN.out)) hb.size); clear HO110; clear HO114; clear HO118; clear HO121; clear HO127; clear HO133; clear BK3; clear BK4; clear BK10; clear BK11; clear HB; clear HN; have HO110 := n0_; have HO114 := n1_; have HO118 := n2_; have HO121 := n3_; have HO127 := n4_; have HO133 := n5_; have BK3 := n6_; have BK4 := n7_; have BK10 := n8_; have BK11 := n9_; have HB := n10_; have HN := n11_; clear n0_ n1_ n2_ n3_ n4_ n5_ n6_ n7_ n8_ n9_ n10_ n11_; clear hd hb; clear hczgb3_0; have hczgb3_0 : w135.cell? ⟨gb3, 0, none⟩ = some (.slice A0_0 l0_0.length c0_0) := (blk_cell BK3.out 0).trans rfl; clear hfzgb3_0; have hfzgb3_0 := blk_frozen BK3.out 0; clear hczgb4_0; have hczgb4_0 : w135.cell? ⟨gb4, 0, none⟩ = some (.int .i64 a1_0) := (blk_cell BK4.out 0).trans rfl; clear hfzgb4_0; have hfzgb4_0 := blk_frozen BK4.out 0; clear hczgb4_1; have hczgb4_1 : w135.cell? ⟨gb4, 1, none⟩ = some (.slice A1_1 l1_1.length c1_1) := (blk_cell BK4.out 1).trans rfl; clear hfzgb4_1; have hfzgb4_1 := blk_frozen BK4.out 1; clear hczgb10_0; have hczgb10_0 : w135.cell? ⟨gb10, 0, none⟩ = some (.slice Ao121 t119.length co121) := (blk_cell BK10.out 0).trans rfl; clear hfzgb10_0; have hfzgb10_0 := blk_frozen BK10.out 0; clear hczgb11_0; have hczgb11_0 : w135.cell? ⟨gb11, 0, none⟩ = some (.int .i64 t124) := (blk_cell BK11.out 0).trans rfl; clear hfzgb11_0; have hfzgb11_0 := blk_frozen BK11.out 0; clear hczgb11_1; have hczgb11_1 : w135.cell? ⟨gb11, 1, none⟩ = some (.slice Ao127 t125.length co127) := (blk_cell BK11.out 1).trans rfl; clear hfzgb11_1; have hfzgb11_1 := blk_frozen BK11.out 1))
   have n0_ := Aside0.mk (Kd.S_drew HO110.out)
   have n1_ := Aside0.mk (Kd.R_drew HO114.out)
   have n2_ := Aside0.mk (Kd.R_drew HO118.out)
   have n3_ := Aside0.mk (Kd.S_drew HO121.out)
   have n4_ := Aside0.mk (Kd.R_drew HO127.out)
   have n5_ := Aside0.mk (Kd.R_drew HO133.out)
   have n6_ := Aside0.mk (blk_drew BK3.out)
   have n7_ := Aside0.mk (blk_drew BK4.out)
   have n8_ := Aside0.mk (blk_drew BK10.out)
   have n9_ := Aside0.mk (blk_drew BK11.out)
   have n10_ := Aside0.mk (below_drew1 HB.out)
   have n11_ := Aside0.mk (sz_drew HN.out)
   clear HO110
   clear HO114
   clear HO118
   clear HO121
   clear HO127
   clear HO133
   clear BK3
   clear BK4
   clear BK10
   clear BK11
   clear HB
   clear HN
   have HO110 := n0_
   have HO114 := n1_
   have HO118 := n2_
   have HO121 := n3_
   have HO127 := n4_
   have HO133 := n5_
   have BK3 := n6_
   have BK4 := n7_
   have BK10 := n8_
   have BK11 := n9_
   have HB := n10_
   have HN := n11_
   clear n0_ n1_ n2_ n3_ n4_ n5_ n6_ n7_ n8_ n9_ n10_ n11_
   refine start_ (n := 5) (S := fun w' => w'.cell? ⟨gb3, 0, none⟩ = some (.slice A0_0 l0_0.length c0_0) ∧ w'.cell? ⟨gb4, 0, none⟩ = some (.int .i64 a1_0) ∧ w'.cell? ⟨gb4, 1, none⟩ = some (.slice A1_1 l1_1.length c1_1) ∧ w'.cell? ⟨gb10, 0, none⟩ = some (.slice Ao121 t119.length co121) ∧ w'.cell? ⟨gb11, 0, none⟩ = some (.int .i64 t124) ∧ w'.cell? ⟨gb11, 1, none⟩ = some (.slice Ao127 t125.length co127)) (ds := []) #[false, false, false, false, false] (by kernel_rfl) rfl rfl ⟨(blk_cell BK3.out 0).trans rfl, (blk_cell BK4.out 0).trans rfl, (blk_cell BK4.out 1).trans rfl, (blk_cell BK10.out 0).trans rfl, (blk_cell BK11.out 0).trans rfl, (blk_cell BK11.out 1).trans rfl⟩ (fun hHeld => ?_)
   refine with_tabW laws_FnExactPrincipalMap.tab14 laws_FnExactPrincipalMap.bits14 (fun HT_ HW_ => ?_)
   generalize w135.drew = w136 at HO110 HO114 HO118 HO121 HO127 HO133 BK3 BK4 BK10 BK11 HB HN hHeld ⊢
   refine take_ (i := 0) (N := some 58) (v := ?_) (a' := ?_) #[true, false, false, false, false] rfl rfl (take_ofW HT_.out HW_.out (by kernel_rfl)) (fun _ _ _ h => h) (Or.inl ⟨by rfl, ?_⟩) hHeld ?_ ?_
   rotate_left
   ·
    rintro w' ⟨s0, s1, s2, s3, s4, s5⟩
    go_simp
    with_reducible rfl
   rotate_left
   ·
    simp only [Act.put, List.setIfInBounds_toArray, List.set_cons_zero, List.set_cons_succ, i64_w, i32_w]
    rfl
   refine take_ (i := 1) (N := some 59) (v := ?_) (a' := ?_) #[true, true, false, false, false] rfl rfl (take_ofW HT_.out HW_.out (by kernel_rfl)) (fun _ _ _ h => h) (Or.inl ⟨by rfl, ?_⟩) hHeld ?_ ?_
   rotate_left
   ·
    rintro w' ⟨s0, s1, s2, s3, s4, s5⟩
    go_simp
    with_reducible rfl
   rotate_left
   ·
    simp only [Act.put, List.setIfInBounds_toArray, List.set_cons_zero, List.set_cons_succ, i64_w, i32_w]
    rfl
   refine one_ (i := 2) (N := some 60) #[true, true, true, false, false] rfl rfl (one_of HT_.out (by kernel_rfl)) (by decide) (fun K hK => ?_)
   refine goes_ Try.func12 (by kernel_rfl) rfl #[.agg #[.slice A0_0 l0_0.length c0_0]] (by rfl) rfl rfl (by (try simp only [List.map_toArray, List.map_cons, List.map_nil]); first | done | rfl | (simp only [List.length_drop, List.length_take]; rfl)) ?_
   (with_reducible refine (laws_toGroup.calls k _ _ l0_0 t137 _ ?side1 ?side2 H9A.out).mono ?_)
   (case side1 => repeat (first | exact (Kd.C_below HR0_0.out HB.out) | (with_reducible refine Kd.C_alloc ?_ _) | (with_reducible refine Kd.C_drewN ?_ _) | (with_reducible refine Kd.C_drew ?_)))
   (case side2 => exact HC0_0.out)
   rintro e w138 ⟨vv138_v0_, rfl, ho0, hb⟩
   obtain ⟨Ao139, co139, eo_⟩ := Kd.S_slice ho0
   subst eo_
   refine ⟨_, rfl, ?_⟩
   obtain ⟨lo139, hi139, hc_, hn_, hbo_⟩ := bornS (by repeat (first | (with_reducible first | exact HN.out | apply sz_alloc | apply sz_drewN | apply sz_drew) | exact HN.out)) (below_size (by repeat (first | (with_reducible first | exact HB.out | apply below_alloc | apply pw_below_drewN | apply below_drew1) | exact HB.out))) ho0 hb
   have n0_ := Aside0.mk (Kd.S_below (by (with_reducible repeat (first | apply Kd.S_alloc | apply Kd.S_drewN | apply Kd.S_drew)); exact HO110.out) hb)
   have n1_ := Aside0.mk (Kd.R_below (by (with_reducible repeat (first | apply Kd.R_alloc | apply Kd.R_drewN | apply Kd.R_drew)); exact HO114.out) hb)
   have n2_ := Aside0.mk (Kd.R_below (by (with_reducible repeat (first | apply Kd.R_alloc | apply Kd.R_drewN | apply Kd.R_drew)); exact HO118.out) hb)
   have n3_ := Aside0.mk (Kd.S_below (by (with_reducible repeat (first | apply Kd.S_alloc | apply Kd.S_drewN | apply Kd.S_drew)); exact HO121.out) hb)
   have n4_ := Aside0.mk (Kd.R_below (by (with_reducible repeat (first | apply Kd.R_alloc | apply Kd.R_drewN | apply Kd.R_drew)); exact HO127.out) hb)
   have n5_ := Aside0.mk (Kd.R_below (by (with_reducible repeat (first | apply Kd.R_alloc | apply Kd.R_drewN | apply Kd.R_drew)); exact HO133.out) hb)
   have n6_ := Aside0.mk (blk_below (g := gb3) (o := .cells #[.slice A0_0 l0_0.length c0_0] 24 (0, 0)) (by (with_reducible repeat (first | refine blk_drewN ?_ _ | refine blk_drew ?_ | refine blk_alloc ?_ _)); exact BK3.out) hb)
   have n7_ := Aside0.mk (blk_below (g := gb4) (o := .cells #[.int .i64 a1_0, .slice A1_1 l1_1.length c1_1] 27 (0, 0)) (by (with_reducible repeat (first | refine blk_drewN ?_ _ | refine blk_drew ?_ | refine blk_alloc ?_ _)); exact BK4.out) hb)
   have n8_ := Aside0.mk (blk_below (g := gb10) (o := .cells #[.slice Ao121 t119.length co121] 32 (0, 0)) (by (with_reducible repeat (first | refine blk_drewN ?_ _ | refine blk_drew ?_ | refine blk_alloc ?_ _)); exact BK10.out) hb)
   have n9_ := Aside0.mk (blk_below (g := gb11) (o := .cells #[.int .i64 t124, .slice Ao127 t125.length co127] 34 (0, 0)) (by (with_reducible repeat (first | refine blk_drewN ?_ _ | refine blk_drew ?_ | refine blk_alloc ?_ _)); exact BK11.out) hb)
   have n10_ := Aside0.mk (hbo_)
   have n11_ := Aside0.mk (hc_)
   have n12_ := Aside0.mk (below_step (by repeat (first | (with_reducible first | exact HB.out | apply below_alloc | apply pw_below_drewN | apply below_drew1) | exact HB.out)) hb)
   have n13_ := Aside0.mk (hn_)
   clear HO110
   clear HO114
   clear HO118
   clear HO121
   clear HO127
   clear HO133
   clear BK3
   clear BK4
   clear BK10
   clear BK11
   clear HB
   clear HN
   have HO110 := n0_
   have HO114 := n1_
   have HO118 := n2_
   have HO121 := n3_
   have HO127 := n4_
   have HO133 := n5_
   have BK3 := n6_
   have BK4 := n7_
   have BK10 := n8_
   have BK11 := n9_
   have HO139 := n10_
   have C139 := n11_
   have HB := n12_
   have HN := n13_
   clear n0_ n1_ n2_ n3_ n4_ n5_ n6_ n7_ n8_ n9_ n10_ n11_ n12_ n13_
   clear hb
   (try clear ho0)
   refine hK.out _ _ ⟨(blk_cell BK3.out 0).trans rfl, (blk_cell BK4.out 0).trans rfl, (blk_cell BK4.out 1).trans rfl, (blk_cell BK10.out 0).trans rfl, (blk_cell BK11.out 0).trans rfl, (blk_cell BK11.out 1).trans rfl⟩ (fun hHeld => ?_)
   clear hK K
   refine norm_ (a' := ?_) ?_ ?_
   rotate_left
   ·
    show Act.put _ (some 60) _ = _
    simp only [Act.put, List.setIfInBounds_toArray, List.set_cons_zero, List.set_cons_succ, i64_w, i32_w]
    rfl
   refine one_ (i := 3) (N := some 61) #[true, true, true, true, false] rfl rfl (one_of HT_.out (by kernel_rfl)) (by decide) (fun K hK => ?_)
   refine goes_ Try.func15 (by kernel_rfl) rfl #[.agg #[.slice Ao121 t119.length co121], .agg #[.slice Ao139 t137.length co139]] (by rfl) rfl rfl (by (try simp only [List.map_toArray, List.map_cons, List.map_nil]); first | done | rfl | (simp only [List.length_drop, List.length_take]; rfl)) ?_
   (with_reducible refine (laws_eqGroup.calls k _ _ t119 _ _ t137 true _ ?side1 ?side2 ?side3 ?side4 H10A.out).mono ?_)
   (case side1 => exact (Kd.S_reads' (by (with_reducible repeat (first | apply Kd.S_alloc | apply Kd.S_drewN | apply Kd.S_drew)); exact HO121.out)).2.2)
   (case side2 => exact capS HO121.out)
   (case side3 => exact (Kd.S_reads' (by (with_reducible repeat (first | apply Kd.S_alloc | apply Kd.S_drewN | apply Kd.S_drew)); exact HO139.out)).2.2)
   (case side4 => exact capS HO139.out)
   rintro e w141 ⟨rfl, hb⟩
   refine ⟨_, rfl, ?_⟩
   have n0_ := Aside0.mk (Kd.S_below (by (with_reducible repeat (first | apply Kd.S_alloc | apply Kd.S_drewN | apply Kd.S_drew)); exact HO110.out) hb)
   have n1_ := Aside0.mk (Kd.R_below (by (with_reducible repeat (first | apply Kd.R_alloc | apply Kd.R_drewN | apply Kd.R_drew)); exact HO114.out) hb)
   have n2_ := Aside0.mk (Kd.R_below (by (with_reducible repeat (first | apply Kd.R_alloc | apply Kd.R_drewN | apply Kd.R_drew)); exact HO118.out) hb)
   have n3_ := Aside0.mk (Kd.S_below (by (with_reducible repeat (first | apply Kd.S_alloc | apply Kd.S_drewN | apply Kd.S_drew)); exact HO121.out) hb)
   have n4_ := Aside0.mk (Kd.R_below (by (with_reducible repeat (first | apply Kd.R_alloc | apply Kd.R_drewN | apply Kd.R_drew)); exact HO127.out) hb)
   have n5_ := Aside0.mk (Kd.R_below (by (with_reducible repeat (first | apply Kd.R_alloc | apply Kd.R_drewN | apply Kd.R_drew)); exact HO133.out) hb)
   have n6_ := Aside0.mk (Kd.S_below (by (with_reducible repeat (first | apply Kd.S_alloc | apply Kd.S_drewN | apply Kd.S_drew)); exact HO139.out) hb)
   have n7_ := Aside0.mk (blk_below (g := gb3) (o := .cells #[.slice A0_0 l0_0.length c0_0] 24 (0, 0)) (by (with_reducible repeat (first | refine blk_drewN ?_ _ | refine blk_drew ?_ | refine blk_alloc ?_ _)); exact BK3.out) hb)
   have n8_ := Aside0.mk (blk_below (g := gb4) (o := .cells #[.int .i64 a1_0, .slice A1_1 l1_1.length c1_1] 27 (0, 0)) (by (with_reducible repeat (first | refine blk_drewN ?_ _ | refine blk_drew ?_ | refine blk_alloc ?_ _)); exact BK4.out) hb)
   have n9_ := Aside0.mk (blk_below (g := gb10) (o := .cells #[.slice Ao121 t119.length co121] 32 (0, 0)) (by (with_reducible repeat (first | refine blk_drewN ?_ _ | refine blk_drew ?_ | refine blk_alloc ?_ _)); exact BK10.out) hb)
   have n10_ := Aside0.mk (blk_below (g := gb11) (o := .cells #[.int .i64 t124, .slice Ao127 t125.length co127] 34 (0, 0)) (by (with_reducible repeat (first | refine blk_drewN ?_ _ | refine blk_drew ?_ | refine blk_alloc ?_ _)); exact BK11.out) hb)
   have n11_ := Aside0.mk (below_step (by repeat (first | (with_reducible first | exact HB.out | apply below_alloc | apply pw_below_drewN | apply below_drew1) | exact HB.out)) hb)
   have n12_ := Aside0.mk (Nat.le_trans (by repeat (first | (with_reducible first | exact HN.out | apply sz_alloc | apply sz_drewN | apply sz_drew) | exact HN.out)) hb.size)
   clear HO110
   clear HO114
   clear HO118
   clear HO121
   clear HO127
   clear HO133
   clear HO139
   clear BK3
   clear BK4
   clear BK10
   clear BK11
   clear HB
   clear HN
   have HO110 := n0_
   have HO114 := n1_
   have HO118 := n2_
   have HO121 := n3_
   have HO127 := n4_
   have HO133 := n5_
   have HO139 := n6_
   have BK3 := n7_
   have BK4 := n8_
   have BK10 := n9_
   have BK11 := n10_
   have HB := n11_
   have HN := n12_
   clear n0_ n1_ n2_ n3_ n4_ n5_ n6_ n7_ n8_ n9_ n10_ n11_ n12_
   clear hb
   refine hK.out _ _ ⟨(blk_cell BK3.out 0).trans rfl, (blk_cell BK4.out 0).trans rfl, (blk_cell BK4.out 1).trans rfl, (blk_cell BK10.out 0).trans rfl, (blk_cell BK11.out 0).trans rfl, (blk_cell BK11.out 1).trans rfl⟩ (fun hHeld => ?_)
   clear hK K
   refine norm_ (a' := ?_) ?_ ?_
   rotate_left
   ·
    show Act.put _ (some 61) _ = _
    simp only [Act.put, List.setIfInBounds_toArray, List.set_cons_zero, List.set_cons_succ, i64_w, i32_w]
    rfl
   refine pure_ (i := 4) (N := some 62) (v := ?_) (a' := ?_) #[true, true, true, true, true] rfl rfl (any_of HT_.out (by kernel_rfl)) (fun _ _ _ h => h) (Or.inl ⟨by rfl, ?_⟩) ?_ ?_
   rotate_left
   ·
    intro w'
    go_simp
    with_reducible rfl
   rotate_left
   ·
    simp only [Act.put, List.setIfInBounds_toArray, List.set_cons_zero, List.set_cons_succ, i64_w, i32_w]
    rfl
   refine done_ (done_of HT_.out (by kernel_rfl)) ?_
   clear hczgb3_0
   have hczgb3_0 : w141.cell? ⟨gb3, 0, none⟩ = some (.slice A0_0 l0_0.length c0_0) := (blk_cell BK3.out 0).trans rfl
   clear hfzgb3_0
   have hfzgb3_0 := blk_frozen BK3.out 0
   clear hczgb4_0
   have hczgb4_0 : w141.cell? ⟨gb4, 0, none⟩ = some (.int .i64 a1_0) := (blk_cell BK4.out 0).trans rfl
   clear hfzgb4_0
   have hfzgb4_0 := blk_frozen BK4.out 0
   clear hczgb4_1
   have hczgb4_1 : w141.cell? ⟨gb4, 1, none⟩ = some (.slice A1_1 l1_1.length c1_1) := (blk_cell BK4.out 1).trans rfl
   clear hfzgb4_1
   have hfzgb4_1 := blk_frozen BK4.out 1
   clear hczgb10_0
   have hczgb10_0 : w141.cell? ⟨gb10, 0, none⟩ = some (.slice Ao121 t119.length co121) := (blk_cell BK10.out 0).trans rfl
   clear hfzgb10_0
   have hfzgb10_0 := blk_frozen BK10.out 0
   clear hczgb11_0
   have hczgb11_0 : w141.cell? ⟨gb11, 0, none⟩ = some (.int .i64 t124) := (blk_cell BK11.out 0).trans rfl
   clear hfzgb11_0
   have hfzgb11_0 := blk_frozen BK11.out 0
   clear hczgb11_1
   have hczgb11_1 : w141.cell? ⟨gb11, 1, none⟩ = some (.slice Ao127 t125.length co127) := (blk_cell BK11.out 1).trans rfl
   clear hfzgb11_1
   have hfzgb11_1 := blk_frozen BK11.out 1
   try go_wp2
   have n0_ := Aside0.mk (Kd.S_drew HO110.out)
   have n1_ := Aside0.mk (Kd.R_drew HO114.out)
   have n2_ := Aside0.mk (Kd.R_drew HO118.out)
   have n3_ := Aside0.mk (Kd.S_drew HO121.out)
   have n4_ := Aside0.mk (Kd.R_drew HO127.out)
   have n5_ := Aside0.mk (Kd.R_drew HO133.out)
   have n6_ := Aside0.mk (Kd.S_drew HO139.out)
   have n7_ := Aside0.mk (blk_drew BK3.out)
   have n8_ := Aside0.mk (blk_drew BK4.out)
   have n9_ := Aside0.mk (blk_drew BK10.out)
   have n10_ := Aside0.mk (blk_drew BK11.out)
   have n11_ := Aside0.mk (below_drew1 HB.out)
   have n12_ := Aside0.mk (sz_drew HN.out)
   clear HO110
   clear HO114
   clear HO118
   clear HO121
   clear HO127
   clear HO133
   clear HO139
   clear BK3
   clear BK4
   clear BK10
   clear BK11
   clear HB
   clear HN
   have HO110 := n0_
   have HO114 := n1_
   have HO118 := n2_
   have HO121 := n3_
   have HO127 := n4_
   have HO133 := n5_
   have HO139 := n6_
   have BK3 := n7_
   have BK4 := n8_
   have BK10 := n9_
   have BK11 := n10_
   have HB := n11_
   have HN := n12_
   clear n0_ n1_ n2_ n3_ n4_ n5_ n6_ n7_ n8_ n9_ n10_ n11_ n12_
   refine start_ (n := 5) (S := fun w' => w'.cell? ⟨gb3, 0, none⟩ = some (.slice A0_0 l0_0.length c0_0) ∧ w'.cell? ⟨gb4, 0, none⟩ = some (.int .i64 a1_0) ∧ w'.cell? ⟨gb4, 1, none⟩ = some (.slice A1_1 l1_1.length c1_1) ∧ w'.cell? ⟨gb10, 0, none⟩ = some (.slice Ao121 t119.length co121) ∧ w'.cell? ⟨gb11, 0, none⟩ = some (.int .i64 t124) ∧ w'.cell? ⟨gb11, 1, none⟩ = some (.slice Ao127 t125.length co127)) (ds := []) #[false, false, false, false, false] (by kernel_rfl) rfl rfl ⟨(blk_cell BK3.out 0).trans rfl, (blk_cell BK4.out 0).trans rfl, (blk_cell BK4.out 1).trans rfl, (blk_cell BK10.out 0).trans rfl, (blk_cell BK11.out 0).trans rfl, (blk_cell BK11.out 1).trans rfl⟩ (fun hHeld => ?_)
   refine with_tabW laws_FnExactPrincipalMap.tab16 laws_FnExactPrincipalMap.bits16 (fun HT_ HW_ => ?_)
   generalize w141.drew = w142 at HO110 HO114 HO118 HO121 HO127 HO133 HO139 BK3 BK4 BK10 BK11 HB HN hHeld ⊢
   refine take_ (i := 0) (N := some 63) (v := ?_) (a' := ?_) #[true, false, false, false, false] rfl rfl (take_ofW HT_.out HW_.out (by kernel_rfl)) (fun _ _ _ h => h) (Or.inl ⟨by rfl, ?_⟩) hHeld ?_ ?_
   rotate_left
   ·
    rintro w' ⟨s0, s1, s2, s3, s4, s5⟩
    go_simp
    with_reducible rfl
   rotate_left
   ·
    simp only [Act.put, List.setIfInBounds_toArray, List.set_cons_zero, List.set_cons_succ, i64_w, i32_w]
    rfl
   refine take_ (i := 1) (N := some 64) (v := ?_) (a' := ?_) #[true, true, false, false, false] rfl rfl (take_ofW HT_.out HW_.out (by kernel_rfl)) (fun _ _ _ h => h) (Or.inl ⟨by rfl, ?_⟩) hHeld ?_ ?_
   rotate_left
   ·
    rintro w' ⟨s0, s1, s2, s3, s4, s5⟩
    go_simp
    with_reducible rfl
   rotate_left
   ·
    simp only [Act.put, List.setIfInBounds_toArray, List.set_cons_zero, List.set_cons_succ, i64_w, i32_w]
    rfl
   refine one_ (i := 2) (N := some 65) #[true, true, true, false, false] rfl rfl (one_of HT_.out (by kernel_rfl)) (by decide) (fun K hK => ?_)
   refine goes_ Try.func13 (by kernel_rfl) rfl #[.agg #[.int .i64 a1_0, .slice A1_1 l1_1.length c1_1]] (by rfl) rfl rfl (by (try simp only [List.map_toArray, List.map_cons, List.map_nil]); first | done | rfl | (simp only [List.length_drop, List.length_take]; rfl)) ?_
   (with_reducible refine (laws_toModule.calls k a1_0 _ _ l1_1 t143 t144 _ ?side1 ?side2 H11A.out).mono ?_)
   (case side1 => repeat (first | exact (Kd.C_below HR1_1.out HB.out) | (with_reducible refine Kd.C_alloc ?_ _) | (with_reducible refine Kd.C_drewN ?_ _) | (with_reducible refine Kd.C_drew ?_)))
   (case side2 => exact HC1_1.out)
   rintro e w145 ⟨vv145_v1_, rfl, ho0, hb⟩
   obtain ⟨Ao146, co146, eo_⟩ := Kd.R_slice ho0
   subst eo_
   refine ⟨_, rfl, ?_⟩
   obtain ⟨lo146, hi146, hc_, hn_, hbo_⟩ := bornR (by repeat (first | (with_reducible first | exact HN.out | apply sz_alloc | apply sz_drewN | apply sz_drew) | exact HN.out)) (below_size (by repeat (first | (with_reducible first | exact HB.out | apply below_alloc | apply pw_below_drewN | apply below_drew1) | exact HB.out))) ho0 hb
   have n0_ := Aside0.mk (Kd.S_below (by (with_reducible repeat (first | apply Kd.S_alloc | apply Kd.S_drewN | apply Kd.S_drew)); exact HO110.out) hb)
   have n1_ := Aside0.mk (Kd.R_below (by (with_reducible repeat (first | apply Kd.R_alloc | apply Kd.R_drewN | apply Kd.R_drew)); exact HO114.out) hb)
   have n2_ := Aside0.mk (Kd.R_below (by (with_reducible repeat (first | apply Kd.R_alloc | apply Kd.R_drewN | apply Kd.R_drew)); exact HO118.out) hb)
   have n3_ := Aside0.mk (Kd.S_below (by (with_reducible repeat (first | apply Kd.S_alloc | apply Kd.S_drewN | apply Kd.S_drew)); exact HO121.out) hb)
   have n4_ := Aside0.mk (Kd.R_below (by (with_reducible repeat (first | apply Kd.R_alloc | apply Kd.R_drewN | apply Kd.R_drew)); exact HO127.out) hb)
   have n5_ := Aside0.mk (Kd.R_below (by (with_reducible repeat (first | apply Kd.R_alloc | apply Kd.R_drewN | apply Kd.R_drew)); exact HO133.out) hb)
   have n6_ := Aside0.mk (Kd.S_below (by (with_reducible repeat (first | apply Kd.S_alloc | apply Kd.S_drewN | apply Kd.S_drew)); exact HO139.out) hb)
   have n7_ := Aside0.mk (blk_below (g := gb3) (o := .cells #[.slice A0_0 l0_0.length c0_0] 24 (0, 0)) (by (with_reducible repeat (first | refine blk_drewN ?_ _ | refine blk_drew ?_ | refine blk_alloc ?_ _)); exact BK3.out) hb)
   have n8_ := Aside0.mk (blk_below (g := gb4) (o := .cells #[.int .i64 a1_0, .slice A1_1 l1_1.length c1_1] 27 (0, 0)) (by (with_reducible repeat (first | refine blk_drewN ?_ _ | refine blk_drew ?_ | refine blk_alloc ?_ _)); exact BK4.out) hb)
   have n9_ := Aside0.mk (blk_below (g := gb10) (o := .cells #[.slice Ao121 t119.length co121] 32 (0, 0)) (by (with_reducible repeat (first | refine blk_drewN ?_ _ | refine blk_drew ?_ | refine blk_alloc ?_ _)); exact BK10.out) hb)
   have n10_ := Aside0.mk (blk_below (g := gb11) (o := .cells #[.int .i64 t124, .slice Ao127 t125.length co127] 34 (0, 0)) (by (with_reducible repeat (first | refine blk_drewN ?_ _ | refine blk_drew ?_ | refine blk_alloc ?_ _)); exact BK11.out) hb)
   have n11_ := Aside0.mk (hbo_)
   have n12_ := Aside0.mk (hc_)
   have n13_ := Aside0.mk (below_step (by repeat (first | (with_reducible first | exact HB.out | apply below_alloc | apply pw_below_drewN | apply below_drew1) | exact HB.out)) hb)
   have n14_ := Aside0.mk (hn_)
   clear HO110
   clear HO114
   clear HO118
   clear HO121
   clear HO127
   clear HO133
   clear HO139
   clear BK3
   clear BK4
   clear BK10
   clear BK11
   clear HB
   clear HN
   have HO110 := n0_
   have HO114 := n1_
   have HO118 := n2_
   have HO121 := n3_
   have HO127 := n4_
   have HO133 := n5_
   have HO139 := n6_
   have BK3 := n7_
   have BK4 := n8_
   have BK10 := n9_
   have BK11 := n10_
   have HO146 := n11_
   have C146 := n12_
   have HB := n13_
   have HN := n14_
   clear n0_ n1_ n2_ n3_ n4_ n5_ n6_ n7_ n8_ n9_ n10_ n11_ n12_ n13_ n14_
   clear hb
   (try clear ho0)
   refine hK.out _ _ ⟨(blk_cell BK3.out 0).trans rfl, (blk_cell BK4.out 0).trans rfl, (blk_cell BK4.out 1).trans rfl, (blk_cell BK10.out 0).trans rfl, (blk_cell BK11.out 0).trans rfl, (blk_cell BK11.out 1).trans rfl⟩ (fun hHeld => ?_)
   clear hK K
   refine norm_ (a' := ?_) ?_ ?_
   rotate_left
   ·
    show Act.put _ (some 65) _ = _
    simp only [Act.put, List.setIfInBounds_toArray, List.set_cons_zero, List.set_cons_succ, i64_w, i32_w]
    rfl
   refine one_ (i := 3) (N := some 66) #[true, true, true, true, false] rfl rfl (one_of HT_.out (by kernel_rfl)) (by decide) (fun K hK => ?_)
   refine goes_ Try.func16 (by kernel_rfl) rfl #[.agg #[.int .i64 t124, .slice Ao127 t125.length co127], .agg #[.int .i64 t143, .slice Ao146 t144.length co146]] (by rfl) rfl rfl (by (try simp only [List.map_toArray, List.map_cons, List.map_nil]); first | done | rfl | (simp only [List.length_drop, List.length_take]; rfl)) ?_
   (with_reducible refine (laws_eqModule.calls k t124 _ _ t125 t143 _ _ t144 true _ ?side1 ?side2 ?side3 ?side4 H12A.out).mono ?_)
   (case side1 => exact (Kd.R_reads' (by (with_reducible repeat (first | apply Kd.R_alloc | apply Kd.R_drewN | apply Kd.R_drew)); exact HO127.out)).2.2)
   (case side2 => exact capR HO127.out)
   (case side3 => exact (Kd.R_reads' (by (with_reducible repeat (first | apply Kd.R_alloc | apply Kd.R_drewN | apply Kd.R_drew)); exact HO146.out)).2.2)
   (case side4 => exact capR HO146.out)
   rintro e w148 ⟨rfl, hb⟩
   refine ⟨_, rfl, ?_⟩
   have n0_ := Aside0.mk (Kd.S_below (by (with_reducible repeat (first | apply Kd.S_alloc | apply Kd.S_drewN | apply Kd.S_drew)); exact HO110.out) hb)
   have n1_ := Aside0.mk (Kd.R_below (by (with_reducible repeat (first | apply Kd.R_alloc | apply Kd.R_drewN | apply Kd.R_drew)); exact HO114.out) hb)
   have n2_ := Aside0.mk (Kd.R_below (by (with_reducible repeat (first | apply Kd.R_alloc | apply Kd.R_drewN | apply Kd.R_drew)); exact HO118.out) hb)
   have n3_ := Aside0.mk (Kd.S_below (by (with_reducible repeat (first | apply Kd.S_alloc | apply Kd.S_drewN | apply Kd.S_drew)); exact HO121.out) hb)
   have n4_ := Aside0.mk (Kd.R_below (by (with_reducible repeat (first | apply Kd.R_alloc | apply Kd.R_drewN | apply Kd.R_drew)); exact HO127.out) hb)
   have n5_ := Aside0.mk (Kd.R_below (by (with_reducible repeat (first | apply Kd.R_alloc | apply Kd.R_drewN | apply Kd.R_drew)); exact HO133.out) hb)
   have n6_ := Aside0.mk (Kd.S_below (by (with_reducible repeat (first | apply Kd.S_alloc | apply Kd.S_drewN | apply Kd.S_drew)); exact HO139.out) hb)
   have n7_ := Aside0.mk (Kd.R_below (by (with_reducible repeat (first | apply Kd.R_alloc | apply Kd.R_drewN | apply Kd.R_drew)); exact HO146.out) hb)
   have n8_ := Aside0.mk (blk_below (g := gb3) (o := .cells #[.slice A0_0 l0_0.length c0_0] 24 (0, 0)) (by (with_reducible repeat (first | refine blk_drewN ?_ _ | refine blk_drew ?_ | refine blk_alloc ?_ _)); exact BK3.out) hb)
   have n9_ := Aside0.mk (blk_below (g := gb4) (o := .cells #[.int .i64 a1_0, .slice A1_1 l1_1.length c1_1] 27 (0, 0)) (by (with_reducible repeat (first | refine blk_drewN ?_ _ | refine blk_drew ?_ | refine blk_alloc ?_ _)); exact BK4.out) hb)
   have n10_ := Aside0.mk (blk_below (g := gb10) (o := .cells #[.slice Ao121 t119.length co121] 32 (0, 0)) (by (with_reducible repeat (first | refine blk_drewN ?_ _ | refine blk_drew ?_ | refine blk_alloc ?_ _)); exact BK10.out) hb)
   have n11_ := Aside0.mk (blk_below (g := gb11) (o := .cells #[.int .i64 t124, .slice Ao127 t125.length co127] 34 (0, 0)) (by (with_reducible repeat (first | refine blk_drewN ?_ _ | refine blk_drew ?_ | refine blk_alloc ?_ _)); exact BK11.out) hb)
   have n12_ := Aside0.mk (below_step (by repeat (first | (with_reducible first | exact HB.out | apply below_alloc | apply pw_below_drewN | apply below_drew1) | exact HB.out)) hb)
   have n13_ := Aside0.mk (Nat.le_trans (by repeat (first | (with_reducible first | exact HN.out | apply sz_alloc | apply sz_drewN | apply sz_drew) | exact HN.out)) hb.size)
   clear HO110
   clear HO114
   clear HO118
   clear HO121
   clear HO127
   clear HO133
   clear HO139
   clear HO146
   clear BK3
   clear BK4
   clear BK10
   clear BK11
   clear HB
   clear HN
   have HO110 := n0_
   have HO114 := n1_
   have HO118 := n2_
   have HO121 := n3_
   have HO127 := n4_
   have HO133 := n5_
   have HO139 := n6_
   have HO146 := n7_
   have BK3 := n8_
   have BK4 := n9_
   have BK10 := n10_
   have BK11 := n11_
   have HB := n12_
   have HN := n13_
   clear n0_ n1_ n2_ n3_ n4_ n5_ n6_ n7_ n8_ n9_ n10_ n11_ n12_ n13_
   clear hb
   refine hK.out _ _ ⟨(blk_cell BK3.out 0).trans rfl, (blk_cell BK4.out 0).trans rfl, (blk_cell BK4.out 1).trans rfl, (blk_cell BK10.out 0).trans rfl, (blk_cell BK11.out 0).trans rfl, (blk_cell BK11.out 1).trans rfl⟩ (fun hHeld => ?_)
   clear hK K
   refine norm_ (a' := ?_) ?_ ?_
   rotate_left
   ·
    show Act.put _ (some 66) _ = _
    simp only [Act.put, List.setIfInBounds_toArray, List.set_cons_zero, List.set_cons_succ, i64_w, i32_w]
    rfl
   refine pure_ (i := 4) (N := some 67) (v := ?_) (a' := ?_) #[true, true, true, true, true] rfl rfl (any_of HT_.out (by kernel_rfl)) (fun _ _ _ h => h) (Or.inl ⟨by rfl, ?_⟩) ?_ ?_
   rotate_left
   ·
    intro w'
    go_simp
    with_reducible rfl
   rotate_left
   ·
    simp only [Act.put, List.setIfInBounds_toArray, List.set_cons_zero, List.set_cons_succ, i64_w, i32_w]
    rfl
   refine done_ (done_of HT_.out (by kernel_rfl)) ?_
   clear hczgb3_0
   have hczgb3_0 : w148.cell? ⟨gb3, 0, none⟩ = some (.slice A0_0 l0_0.length c0_0) := (blk_cell BK3.out 0).trans rfl
   clear hfzgb3_0
   have hfzgb3_0 := blk_frozen BK3.out 0
   clear hczgb4_0
   have hczgb4_0 : w148.cell? ⟨gb4, 0, none⟩ = some (.int .i64 a1_0) := (blk_cell BK4.out 0).trans rfl
   clear hfzgb4_0
   have hfzgb4_0 := blk_frozen BK4.out 0
   clear hczgb4_1
   have hczgb4_1 : w148.cell? ⟨gb4, 1, none⟩ = some (.slice A1_1 l1_1.length c1_1) := (blk_cell BK4.out 1).trans rfl
   clear hfzgb4_1
   have hfzgb4_1 := blk_frozen BK4.out 1
   clear hczgb10_0
   have hczgb10_0 : w148.cell? ⟨gb10, 0, none⟩ = some (.slice Ao121 t119.length co121) := (blk_cell BK10.out 0).trans rfl
   clear hfzgb10_0
   have hfzgb10_0 := blk_frozen BK10.out 0
   clear hczgb11_0
   have hczgb11_0 : w148.cell? ⟨gb11, 0, none⟩ = some (.int .i64 t124) := (blk_cell BK11.out 0).trans rfl
   clear hfzgb11_0
   have hfzgb11_0 := blk_frozen BK11.out 0
   clear hczgb11_1
   have hczgb11_1 : w148.cell? ⟨gb11, 1, none⟩ = some (.slice Ao127 t125.length co127) := (blk_cell BK11.out 1).trans rfl
   clear hfzgb11_1
   have hfzgb11_1 := blk_frozen BK11.out 1
   try go_wp2_with (first | ((with_reducible refine gate_callee (f := 27) rfl ?_); refine goesL_ (some 70) rfl rfl Try.func27 (by kernel_rfl) rfl #[.agg #[.slice Ao121 t119.length co121], .int .i64 1] rfl (by (try simp only [List.map_toArray, List.map_cons, List.map_nil]); first | done | rfl | (simp only [List.length_drop, List.length_take]; rfl)) ?_; (with_reducible refine (laws_markGroup.calls k (fun k_ => lo121 ≤ k_ ∧ k_ < hi121) (.slice Ao121 t119.length co121) t119 1 t149 t150 w _ ?side1 ?side2 H13A.out).mono ?_); (case side1 => exact (by repeat (first | (with_reducible first | exact HB.out | apply below_alloc | apply pw_below_drewN | apply below_drew1) | exact HB.out))); (case side2 => exact (by (with_reducible repeat (first | apply Kd.S_alloc | apply Kd.S_drewN | apply Kd.S_drew)); exact HO121.out)); rintro e w151 ⟨rfl, ho0, hb, hkp⟩; refine ⟨_, rfl, ?_⟩; have hl_ := (Kd.S_reads' ho0).1; have n0_ := Aside0.mk (ho0); have n1_ := Aside0.mk (hl_); have n2_ := Aside0.mk (Kd.S_kept (by (with_reducible repeat (first | apply Kd.S_alloc | apply Kd.S_drewN | apply Kd.S_drew)); exact HO110.out) hkp (fun k_ h1_ h2_ => apartI (by have h3_ := C114.out; have h4_ := C118.out; have h5_ := C121.out; omega) h1_ h2_)); have n3_ := Aside0.mk (Kd.R_kept (by (with_reducible repeat (first | apply Kd.R_alloc | apply Kd.R_drewN | apply Kd.R_drew)); exact HO114.out) hkp (fun k_ h1_ h2_ => apartI (by have h4_ := C118.out; have h5_ := C121.out; omega) h1_ h2_)); have n4_ := Aside0.mk (Kd.R_kept (by (with_reducible repeat (first | apply Kd.R_alloc | apply Kd.R_drewN | apply Kd.R_drew)); exact HO118.out) hkp (fun k_ h1_ h2_ => apartI (by have h5_ := C121.out; omega) h1_ h2_)); have n5_ := Aside0.mk (Kd.R_kept (by (with_reducible repeat (first | apply Kd.R_alloc | apply Kd.R_drewN | apply Kd.R_drew)); exact HO127.out) hkp (fun k_ h1_ h2_ => apartI (by have h6_ := CB10.out; have h7_ := C127.out; omega) h2_ h1_)); have n6_ := Aside0.mk (Kd.R_kept (by (with_reducible repeat (first | apply Kd.R_alloc | apply Kd.R_drewN | apply Kd.R_drew)); exact HO133.out) hkp (fun k_ h1_ h2_ => apartI (by have h6_ := CB10.out; have h7_ := C127.out; have h8_ := CB11.out; have h9_ := C133.out; omega) h2_ h1_)); have n7_ := Aside0.mk (Kd.S_kept (by (with_reducible repeat (first | apply Kd.S_alloc | apply Kd.S_drewN | apply Kd.S_drew)); exact HO139.out) hkp (fun k_ h1_ h2_ => apartI (by have h6_ := CB10.out; have h7_ := C127.out; have h8_ := CB11.out; have h9_ := C133.out; have h10_ := C139.out; omega) h2_ h1_)); have n8_ := Aside0.mk (Kd.R_kept (by (with_reducible repeat (first | apply Kd.R_alloc | apply Kd.R_drewN | apply Kd.R_drew)); exact HO146.out) hkp (fun k_ h1_ h2_ => apartI (by have h6_ := CB10.out; have h7_ := C127.out; have h8_ := CB11.out; have h9_ := C133.out; have h10_ := C139.out; have h11_ := C146.out; omega) h2_ h1_)); have n9_ := Aside0.mk (blk_kept (g := gb3) (o := .cells #[.slice A0_0 l0_0.length c0_0] 24 (0, 0)) (by (with_reducible repeat (first | refine blk_drewN ?_ _ | refine blk_drew ?_ | refine blk_alloc ?_ _)); exact BK3.out) hkp (fun h2_ => apartI (by have h1_ := CB4.out; have h2_ := C110.out; have h3_ := C114.out; have h4_ := C118.out; have h5_ := C121.out; omega) ⟨Nat.le_refl _, Nat.lt_succ_self _⟩ h2_)); have n10_ := Aside0.mk (blk_kept (g := gb4) (o := .cells #[.int .i64 a1_0, .slice A1_1 l1_1.length c1_1] 27 (0, 0)) (by (with_reducible repeat (first | refine blk_drewN ?_ _ | refine blk_drew ?_ | refine blk_alloc ?_ _)); exact BK4.out) hkp (fun h2_ => apartI (by have h2_ := C110.out; have h3_ := C114.out; have h4_ := C118.out; have h5_ := C121.out; omega) ⟨Nat.le_refl _, Nat.lt_succ_self _⟩ h2_)); have n11_ := Aside0.mk (blk_kept (g := gb10) (o := .cells #[.slice Ao121 t119.length co121] 32 (0, 0)) (by (with_reducible repeat (first | refine blk_drewN ?_ _ | refine blk_drew ?_ | refine blk_alloc ?_ _)); exact BK10.out) hkp (fun h2_ => apartI (by have h6_ := CB10.out; omega) h2_ ⟨Nat.le_refl _, Nat.lt_succ_self _⟩)); have n12_ := Aside0.mk (blk_kept (g := gb11) (o := .cells #[.int .i64 t124, .slice Ao127 t125.length co127] 34 (0, 0)) (by (with_reducible repeat (first | refine blk_drewN ?_ _ | refine blk_drew ?_ | refine blk_alloc ?_ _)); exact BK11.out) hkp (fun h2_ => apartI (by have h6_ := CB10.out; have h7_ := C127.out; have h8_ := CB11.out; omega) h2_ ⟨Nat.le_refl _, Nat.lt_succ_self _⟩)); have n13_ := Aside0.mk (hb); have n14_ := Aside0.mk (Nat.le_trans (by repeat (first | (with_reducible first | exact HN.out | apply sz_alloc | apply sz_drewN | apply sz_drew) | exact HN.out)) hkp.1); clear HO121; clear HO110; clear HO114; clear HO118; clear HO127; clear HO133; clear HO139; clear HO146; clear BK3; clear BK4; clear BK10; clear BK11; clear HB; clear HN; have HO121 := n0_; have HL121 := n1_; have HO110 := n2_; have HO114 := n3_; have HO118 := n4_; have HO127 := n5_; have HO133 := n6_; have HO139 := n7_; have HO146 := n8_; have BK3 := n9_; have BK4 := n10_; have BK10 := n11_; have BK11 := n12_; have HB := n13_; have HN := n14_; clear n0_ n1_ n2_ n3_ n4_ n5_ n6_ n7_ n8_ n9_ n10_ n11_ n12_ n13_ n14_; (try clear hb); (try clear hkp); (try clear ho0); (try clear hl_); clear hczgb3_0; have hczgb3_0 : w151.cell? ⟨gb3, 0, none⟩ = some (.slice A0_0 l0_0.length c0_0) := (blk_cell BK3.out 0).trans rfl; clear hfzgb3_0; have hfzgb3_0 := blk_frozen BK3.out 0; clear hczgb4_0; have hczgb4_0 : w151.cell? ⟨gb4, 0, none⟩ = some (.int .i64 a1_0) := (blk_cell BK4.out 0).trans rfl; clear hfzgb4_0; have hfzgb4_0 := blk_frozen BK4.out 0; clear hczgb4_1; have hczgb4_1 : w151.cell? ⟨gb4, 1, none⟩ = some (.slice A1_1 l1_1.length c1_1) := (blk_cell BK4.out 1).trans rfl; clear hfzgb4_1; have hfzgb4_1 := blk_frozen BK4.out 1; clear hczgb10_0; have hczgb10_0 : w151.cell? ⟨gb10, 0, none⟩ = some (.slice Ao121 t119.length co121) := (blk_cell BK10.out 0).trans rfl; clear hfzgb10_0; have hfzgb10_0 := blk_frozen BK10.out 0; clear hczgb11_0; have hczgb11_0 : w151.cell? ⟨gb11, 0, none⟩ = some (.int .i64 t124) := (blk_cell BK11.out 0).trans rfl; clear hfzgb11_0; have hfzgb11_0 := blk_frozen BK11.out 0; clear hczgb11_1; have hczgb11_1 : w151.cell? ⟨gb11, 1, none⟩ = some (.slice Ao127 t125.length co127) := (blk_cell BK11.out 1).trans rfl; clear hfzgb11_1; have hfzgb11_1 := blk_frozen BK11.out 1) | ((with_reducible refine gate_callee (f := 28) rfl ?_); refine goesL_ (some 73) rfl rfl Try.func28 (by kernel_rfl) rfl #[.agg #[.int .i64 t124, .slice Ao127 t125.length co127], .int .i64 t149] rfl (by (try simp only [List.map_toArray, List.map_cons, List.map_nil]); first | done | rfl | (simp only [List.length_drop, List.length_take]; rfl)) ?_; (with_reducible refine (laws_markModule.calls k t124 (fun k_ => lo127 ≤ k_ ∧ k_ < hi127) (.slice Ao127 t125.length co127) t125 t149 t152 t153 w _ ?side1 ?side2 H14A.out).mono ?_); (case side1 => exact (by repeat (first | (with_reducible first | exact HB.out | apply below_alloc | apply pw_below_drewN | apply below_drew1) | exact HB.out))); (case side2 => exact (by (with_reducible repeat (first | apply Kd.R_alloc | apply Kd.R_drewN | apply Kd.R_drew)); exact HO127.out)); rintro e w154 ⟨rfl, ho0, hb, hkp⟩; refine ⟨_, rfl, ?_⟩; have hl_ := (Kd.R_reads' ho0).1; have n0_ := Aside0.mk (Kd.R_reok rfl ho0 (fun k_ e_ => HO127.out.1 k_ e_)); have n1_ := Aside0.mk (hl_); have n2_ := Aside0.mk (Kd.S_kept (by (with_reducible repeat (first | apply Kd.S_alloc | apply Kd.S_drewN | apply Kd.S_drew)); exact HO110.out) hkp (fun k_ h1_ h2_ => apartI (by have h3_ := C114.out; have h4_ := C118.out; have h5_ := C121.out; have h6_ := CB10.out; have h7_ := C127.out; omega) h1_ h2_)); have n3_ := Aside0.mk (Kd.R_kept (by (with_reducible repeat (first | apply Kd.R_alloc | apply Kd.R_drewN | apply Kd.R_drew)); exact HO114.out) hkp (fun k_ h1_ h2_ => apartI (by have h4_ := C118.out; have h5_ := C121.out; have h6_ := CB10.out; have h7_ := C127.out; omega) h1_ h2_)); have n4_ := Aside0.mk (Kd.R_kept (by (with_reducible repeat (first | apply Kd.R_alloc | apply Kd.R_drewN | apply Kd.R_drew)); exact HO118.out) hkp (fun k_ h1_ h2_ => apartI (by have h5_ := C121.out; have h6_ := CB10.out; have h7_ := C127.out; omega) h1_ h2_)); have n5_ := Aside0.mk (Kd.S_kept (by (with_reducible repeat (first | apply Kd.S_alloc | apply Kd.S_drewN | apply Kd.S_drew)); exact HO121.out) hkp (fun k_ h1_ h2_ => apartI (by have h6_ := CB10.out; have h7_ := C127.out; omega) h1_ h2_)); have n6_ := Aside0.mk (Kd.R_kept (by (with_reducible repeat (first | apply Kd.R_alloc | apply Kd.R_drewN | apply Kd.R_drew)); exact HO133.out) hkp (fun k_ h1_ h2_ => apartI (by have h8_ := CB11.out; have h9_ := C133.out; omega) h2_ h1_)); have n7_ := Aside0.mk (Kd.S_kept (by (with_reducible repeat (first | apply Kd.S_alloc | apply Kd.S_drewN | apply Kd.S_drew)); exact HO139.out) hkp (fun k_ h1_ h2_ => apartI (by have h8_ := CB11.out; have h9_ := C133.out; have h10_ := C139.out; omega) h2_ h1_)); have n8_ := Aside0.mk (Kd.R_kept (by (with_reducible repeat (first | apply Kd.R_alloc | apply Kd.R_drewN | apply Kd.R_drew)); exact HO146.out) hkp (fun k_ h1_ h2_ => apartI (by have h8_ := CB11.out; have h9_ := C133.out; have h10_ := C139.out; have h11_ := C146.out; omega) h2_ h1_)); have n9_ := Aside0.mk (blk_kept (g := gb3) (o := .cells #[.slice A0_0 l0_0.length c0_0] 24 (0, 0)) (by (with_reducible repeat (first | refine blk_drewN ?_ _ | refine blk_drew ?_ | refine blk_alloc ?_ _)); exact BK3.out) hkp (fun h2_ => apartI (by have h1_ := CB4.out; have h2_ := C110.out; have h3_ := C114.out; have h4_ := C118.out; have h5_ := C121.out; have h6_ := CB10.out; have h7_ := C127.out; omega) ⟨Nat.le_refl _, Nat.lt_succ_self _⟩ h2_)); have n10_ := Aside0.mk (blk_kept (g := gb4) (o := .cells #[.int .i64 a1_0, .slice A1_1 l1_1.length c1_1] 27 (0, 0)) (by (with_reducible repeat (first | refine blk_drewN ?_ _ | refine blk_drew ?_ | refine blk_alloc ?_ _)); exact BK4.out) hkp (fun h2_ => apartI (by have h2_ := C110.out; have h3_ := C114.out; have h4_ := C118.out; have h5_ := C121.out; have h6_ := CB10.out; have h7_ := C127.out; omega) ⟨Nat.le_refl _, Nat.lt_succ_self _⟩ h2_)); have n11_ := Aside0.mk (blk_kept (g := gb10) (o := .cells #[.slice Ao121 t119.length co121] 32 (0, 0)) (by (with_reducible repeat (first | refine blk_drewN ?_ _ | refine blk_drew ?_ | refine blk_alloc ?_ _)); exact BK10.out) hkp (fun h2_ => apartI (by have h7_ := C127.out; omega) ⟨Nat.le_refl _, Nat.lt_succ_self _⟩ h2_)); have n12_ := Aside0.mk (blk_kept (g := gb11) (o := .cells #[.int .i64 t124, .slice Ao127 t125.length co127] 34 (0, 0)) (by (with_reducible repeat (first | refine blk_drewN ?_ _ | refine blk_drew ?_ | refine blk_alloc ?_ _)); exact BK11.out) hkp (fun h2_ => apartI (by have h8_ := CB11.out; omega) h2_ ⟨Nat.le_refl _, Nat.lt_succ_self _⟩)); have n13_ := Aside0.mk (hb); have n14_ := Aside0.mk (Nat.le_trans (by repeat (first | (with_reducible first | exact HN.out | apply sz_alloc | apply sz_drewN | apply sz_drew) | exact HN.out)) hkp.1); clear HO127; clear HO110; clear HO114; clear HO118; clear HO121; clear HO133; clear HO139; clear HO146; clear BK3; clear BK4; clear BK10; clear BK11; clear HB; clear HN; have HO127 := n0_; have HL127 := n1_; have HO110 := n2_; have HO114 := n3_; have HO118 := n4_; have HO121 := n5_; have HO133 := n6_; have HO139 := n7_; have HO146 := n8_; have BK3 := n9_; have BK4 := n10_; have BK10 := n11_; have BK11 := n12_; have HB := n13_; have HN := n14_; clear n0_ n1_ n2_ n3_ n4_ n5_ n6_ n7_ n8_ n9_ n10_ n11_ n12_ n13_ n14_; (try clear hb); (try clear hkp); (try clear ho0); (try clear hl_); clear hczgb3_0; have hczgb3_0 : w154.cell? ⟨gb3, 0, none⟩ = some (.slice A0_0 l0_0.length c0_0) := (blk_cell BK3.out 0).trans rfl; clear hfzgb3_0; have hfzgb3_0 := blk_frozen BK3.out 0; clear hczgb4_0; have hczgb4_0 : w154.cell? ⟨gb4, 0, none⟩ = some (.int .i64 a1_0) := (blk_cell BK4.out 0).trans rfl; clear hfzgb4_0; have hfzgb4_0 := blk_frozen BK4.out 0; clear hczgb4_1; have hczgb4_1 : w154.cell? ⟨gb4, 1, none⟩ = some (.slice A1_1 l1_1.length c1_1) := (blk_cell BK4.out 1).trans rfl; clear hfzgb4_1; have hfzgb4_1 := blk_frozen BK4.out 1; clear hczgb10_0; have hczgb10_0 : w154.cell? ⟨gb10, 0, none⟩ = some (.slice Ao121 t119.length co121) := (blk_cell BK10.out 0).trans rfl; clear hfzgb10_0; have hfzgb10_0 := blk_frozen BK10.out 0; clear hczgb11_0; have hczgb11_0 : w154.cell? ⟨gb11, 0, none⟩ = some (.int .i64 t124) := (blk_cell BK11.out 0).trans rfl; clear hfzgb11_0; have hfzgb11_0 := blk_frozen BK11.out 0; clear hczgb11_1; have hczgb11_1 : w154.cell? ⟨gb11, 1, none⟩ = some (.slice Ao127 t125.length co127) := (blk_cell BK11.out 1).trans rfl; clear hfzgb11_1; have hfzgb11_1 := blk_frozen BK11.out 1) | ((with_reducible refine gate_callee (f := 24) rfl ?_); (try (refine gate_guard (by rfl) ?_; dsimp only)); refine goesL_ (some 79) rfl rfl Try.func24 (by kernel_rfl) rfl #[.slice Ao133 t130.length co133, .slice Ao118 t115.length co118] rfl (by (try simp only [List.map_toArray, List.map_cons, List.map_nil]); first | done | rfl | (simp only [List.length_drop, List.length_take]; rfl)) ?_; (with_reducible refine (laws_eqInt64S.calls k _ _ t130 _ _ t115 true _ ?side1 ?side2 ?side3 ?side4 H15A.out).mono ?_); (case side1 => exact (Kd.R_reads' (by (with_reducible repeat (first | apply Kd.R_alloc | apply Kd.R_drewN | apply Kd.R_drew)); exact HO133.out)).2.2); (case side2 => exact capR HO133.out); (case side3 => exact (Kd.R_reads' (by (with_reducible repeat (first | apply Kd.R_alloc | apply Kd.R_drewN | apply Kd.R_drew)); exact HO118.out)).2.2); (case side4 => exact capR HO118.out); rintro e w156 ⟨rfl, hd⟩; have hb := Drawn0.below hd; refine ⟨_, rfl, ?_⟩; have n0_ := Aside0.mk (Kd.S_below (by (with_reducible repeat (first | apply Kd.S_alloc | apply Kd.S_drewN | apply Kd.S_drew)); exact HO110.out) hb); have n1_ := Aside0.mk (Kd.R_below (by (with_reducible repeat (first | apply Kd.R_alloc | apply Kd.R_drewN | apply Kd.R_drew)); exact HO114.out) hb); have n2_ := Aside0.mk (Kd.R_below (by (with_reducible repeat (first | apply Kd.R_alloc | apply Kd.R_drewN | apply Kd.R_drew)); exact HO118.out) hb); have n3_ := Aside0.mk (Kd.S_below (by (with_reducible repeat (first | apply Kd.S_alloc | apply Kd.S_drewN | apply Kd.S_drew)); exact HO121.out) hb); have n4_ := Aside0.mk (Kd.R_below (by (with_reducible repeat (first | apply Kd.R_alloc | apply Kd.R_drewN | apply Kd.R_drew)); exact HO127.out) hb); have n5_ := Aside0.mk (Kd.R_below (by (with_reducible repeat (first | apply Kd.R_alloc | apply Kd.R_drewN | apply Kd.R_drew)); exact HO133.out) hb); have n6_ := Aside0.mk (Kd.S_below (by (with_reducible repeat (first | apply Kd.S_alloc | apply Kd.S_drewN | apply Kd.S_drew)); exact HO139.out) hb); have n7_ := Aside0.mk (Kd.R_below (by (with_reducible repeat (first | apply Kd.R_alloc | apply Kd.R_drewN | apply Kd.R_drew)); exact HO146.out) hb); have n8_ := Aside0.mk (blk_below (g := gb3) (o := .cells #[.slice A0_0 l0_0.length c0_0] 24 (0, 0)) (by (with_reducible repeat (first | refine blk_drewN ?_ _ | refine blk_drew ?_ | refine blk_alloc ?_ _)); exact BK3.out) hb); have n9_ := Aside0.mk (blk_below (g := gb4) (o := .cells #[.int .i64 a1_0, .slice A1_1 l1_1.length c1_1] 27 (0, 0)) (by (with_reducible repeat (first | refine blk_drewN ?_ _ | refine blk_drew ?_ | refine blk_alloc ?_ _)); exact BK4.out) hb); have n10_ := Aside0.mk (blk_below (g := gb10) (o := .cells #[.slice Ao121 t119.length co121] 32 (0, 0)) (by (with_reducible repeat (first | refine blk_drewN ?_ _ | refine blk_drew ?_ | refine blk_alloc ?_ _)); exact BK10.out) hb); have n11_ := Aside0.mk (blk_below (g := gb11) (o := .cells #[.int .i64 t124, .slice Ao127 t125.length co127] 34 (0, 0)) (by (with_reducible repeat (first | refine blk_drewN ?_ _ | refine blk_drew ?_ | refine blk_alloc ?_ _)); exact BK11.out) hb); have n12_ := Aside0.mk (below_step (by repeat (first | (with_reducible first | exact HB.out | apply below_alloc | apply pw_below_drewN | apply below_drew1) | exact HB.out)) hb); have n13_ := Aside0.mk (Nat.le_trans (by repeat (first | (with_reducible first | exact HN.out | apply sz_alloc | apply sz_drewN | apply sz_drew) | exact HN.out)) hb.size); clear HO110; clear HO114; clear HO118; clear HO121; clear HO127; clear HO133; clear HO139; clear HO146; clear BK3; clear BK4; clear BK10; clear BK11; clear HB; clear HN; have HO110 := n0_; have HO114 := n1_; have HO118 := n2_; have HO121 := n3_; have HO127 := n4_; have HO133 := n5_; have HO139 := n6_; have HO146 := n7_; have BK3 := n8_; have BK4 := n9_; have BK10 := n10_; have BK11 := n11_; have HB := n12_; have HN := n13_; clear n0_ n1_ n2_ n3_ n4_ n5_ n6_ n7_ n8_ n9_ n10_ n11_ n12_ n13_; clear hd hb; clear hczgb3_0; have hczgb3_0 : w156.cell? ⟨gb3, 0, none⟩ = some (.slice A0_0 l0_0.length c0_0) := (blk_cell BK3.out 0).trans rfl; clear hfzgb3_0; have hfzgb3_0 := blk_frozen BK3.out 0; clear hczgb4_0; have hczgb4_0 : w156.cell? ⟨gb4, 0, none⟩ = some (.int .i64 a1_0) := (blk_cell BK4.out 0).trans rfl; clear hfzgb4_0; have hfzgb4_0 := blk_frozen BK4.out 0; clear hczgb4_1; have hczgb4_1 : w156.cell? ⟨gb4, 1, none⟩ = some (.slice A1_1 l1_1.length c1_1) := (blk_cell BK4.out 1).trans rfl; clear hfzgb4_1; have hfzgb4_1 := blk_frozen BK4.out 1; clear hczgb10_0; have hczgb10_0 : w156.cell? ⟨gb10, 0, none⟩ = some (.slice Ao121 t119.length co121) := (blk_cell BK10.out 0).trans rfl; clear hfzgb10_0; have hfzgb10_0 := blk_frozen BK10.out 0; clear hczgb11_0; have hczgb11_0 : w156.cell? ⟨gb11, 0, none⟩ = some (.int .i64 t124) := (blk_cell BK11.out 0).trans rfl; clear hfzgb11_0; have hfzgb11_0 := blk_frozen BK11.out 0; clear hczgb11_1; have hczgb11_1 : w156.cell? ⟨gb11, 1, none⟩ = some (.slice Ao127 t125.length co127) := (blk_cell BK11.out 1).trans rfl; clear hfzgb11_1; have hfzgb11_1 := blk_frozen BK11.out 1) | ((with_reducible refine gate_callee (f := 29) rfl ?_); refine goesL_ (some 89) rfl rfl Try.func29 (by kernel_rfl) rfl #[.slice Ao133 t130.length co133, .int .i64 1] rfl (by (try simp only [List.map_toArray, List.map_cons, List.map_nil]); first | done | rfl | (simp only [List.length_drop, List.length_take]; rfl)) ?_; (with_reducible refine (laws_markInt64S.calls k (fun k_ => lo133 ≤ k_ ∧ k_ < hi133) (.slice Ao133 t130.length co133) t130 1 t176 t158 w _ ?side1 ?side2 H16A.out).mono ?_); (case side1 => exact (by repeat (first | (with_reducible first | exact HB.out | apply below_alloc | apply pw_below_drewN | apply below_drew1) | exact HB.out))); (case side2 => exact (by (with_reducible repeat (first | apply Kd.R_alloc | apply Kd.R_drewN | apply Kd.R_drew)); exact HO133.out)); rintro e w159 ⟨rfl, ho0, hb, hkp⟩; refine ⟨_, rfl, ?_⟩; have hl_ := (Kd.R_reads' ho0).1; have n0_ := Aside0.mk (Kd.R_reok rfl ho0 (fun k_ e_ => HO133.out.1 k_ e_)); have n1_ := Aside0.mk (hl_); have n2_ := Aside0.mk (Kd.S_kept (by (with_reducible repeat (first | apply Kd.S_alloc | apply Kd.S_drewN | apply Kd.S_drew)); exact HO110.out) hkp (fun k_ h1_ h2_ => apartI (by have h3_ := C114.out; have h4_ := C118.out; have h5_ := C121.out; have h6_ := CB10.out; have h7_ := C127.out; have h8_ := CB11.out; have h9_ := C133.out; omega) h1_ h2_)); have n3_ := Aside0.mk (Kd.R_kept (by (with_reducible repeat (first | apply Kd.R_alloc | apply Kd.R_drewN | apply Kd.R_drew)); exact HO114.out) hkp (fun k_ h1_ h2_ => apartI (by have h4_ := C118.out; have h5_ := C121.out; have h6_ := CB10.out; have h7_ := C127.out; have h8_ := CB11.out; have h9_ := C133.out; omega) h1_ h2_)); have n4_ := Aside0.mk (Kd.R_kept (by (with_reducible repeat (first | apply Kd.R_alloc | apply Kd.R_drewN | apply Kd.R_drew)); exact HO118.out) hkp (fun k_ h1_ h2_ => apartI (by have h5_ := C121.out; have h6_ := CB10.out; have h7_ := C127.out; have h8_ := CB11.out; have h9_ := C133.out; omega) h1_ h2_)); have n5_ := Aside0.mk (Kd.S_kept (by (with_reducible repeat (first | apply Kd.S_alloc | apply Kd.S_drewN | apply Kd.S_drew)); exact HO121.out) hkp (fun k_ h1_ h2_ => apartI (by have h6_ := CB10.out; have h7_ := C127.out; have h8_ := CB11.out; have h9_ := C133.out; omega) h1_ h2_)); have n6_ := Aside0.mk (Kd.R_kept (by (with_reducible repeat (first | apply Kd.R_alloc | apply Kd.R_drewN | apply Kd.R_drew)); exact HO127.out) hkp (fun k_ h1_ h2_ => apartI (by have h8_ := CB11.out; have h9_ := C133.out; omega) h1_ h2_)); have n7_ := Aside0.mk (Kd.S_kept (by (with_reducible repeat (first | apply Kd.S_alloc | apply Kd.S_drewN | apply Kd.S_drew)); exact HO139.out) hkp (fun k_ h1_ h2_ => apartI (by have h10_ := C139.out; omega) h2_ h1_)); have n8_ := Aside0.mk (Kd.R_kept (by (with_reducible repeat (first | apply Kd.R_alloc | apply Kd.R_drewN | apply Kd.R_drew)); exact HO146.out) hkp (fun k_ h1_ h2_ => apartI (by have h10_ := C139.out; have h11_ := C146.out; omega) h2_ h1_)); have n9_ := Aside0.mk (blk_kept (g := gb3) (o := .cells #[.slice A0_0 l0_0.length c0_0] 24 (0, 0)) (by (with_reducible repeat (first | refine blk_drewN ?_ _ | refine blk_drew ?_ | refine blk_alloc ?_ _)); exact BK3.out) hkp (fun h2_ => apartI (by have h1_ := CB4.out; have h2_ := C110.out; have h3_ := C114.out; have h4_ := C118.out; have h5_ := C121.out; have h6_ := CB10.out; have h7_ := C127.out; have h8_ := CB11.out; have h9_ := C133.out; omega) ⟨Nat.le_refl _, Nat.lt_succ_self _⟩ h2_)); have n10_ := Aside0.mk (blk_kept (g := gb4) (o := .cells #[.int .i64 a1_0, .slice A1_1 l1_1.length c1_1] 27 (0, 0)) (by (with_reducible repeat (first | refine blk_drewN ?_ _ | refine blk_drew ?_ | refine blk_alloc ?_ _)); exact BK4.out) hkp (fun h2_ => apartI (by have h2_ := C110.out; have h3_ := C114.out; have h4_ := C118.out; have h5_ := C121.out; have h6_ := CB10.out; have h7_ := C127.out; have h8_ := CB11.out; have h9_ := C133.out; omega) ⟨Nat.le_refl _, Nat.lt_succ_self _⟩ h2_)); have n11_ := Aside0.mk (blk_kept (g := gb10) (o := .cells #[.slice Ao121 t119.length co121] 32 (0, 0)) (by (with_reducible repeat (first | refine blk_drewN ?_ _ | refine blk_drew ?_ | refine blk_alloc ?_ _)); exact BK10.out) hkp (fun h2_ => apartI (by have h7_ := C127.out; have h8_ := CB11.out; have h9_ := C133.out; omega) ⟨Nat.le_refl _, Nat.lt_succ_self _⟩ h2_)); have n12_ := Aside0.mk (blk_kept (g := gb11) (o := .cells #[.int .i64 t124, .slice Ao127 t125.length co127] 34 (0, 0)) (by (with_reducible repeat (first | refine blk_drewN ?_ _ | refine blk_drew ?_ | refine blk_alloc ?_ _)); exact BK11.out) hkp (fun h2_ => apartI (by have h9_ := C133.out; omega) ⟨Nat.le_refl _, Nat.lt_succ_self _⟩ h2_)); have n13_ := Aside0.mk (hb); have n14_ := Aside0.mk (Nat.le_trans (by repeat (first | (with_reducible first | exact HN.out | apply sz_alloc | apply sz_drewN | apply sz_drew) | exact HN.out)) hkp.1); clear HO133; clear HO110; clear HO114; clear HO118; clear HO121; clear HO127; clear HO139; clear HO146; clear BK3; clear BK4; clear BK10; clear BK11; clear HB; clear HN; have HO133 := n0_; have HL133 := n1_; have HO110 := n2_; have HO114 := n3_; have HO118 := n4_; have HO121 := n5_; have HO127 := n6_; have HO139 := n7_; have HO146 := n8_; have BK3 := n9_; have BK4 := n10_; have BK10 := n11_; have BK11 := n12_; have HB := n13_; have HN := n14_; clear n0_ n1_ n2_ n3_ n4_ n5_ n6_ n7_ n8_ n9_ n10_ n11_ n12_ n13_ n14_; (try clear hb); (try clear hkp); (try clear ho0); (try clear hl_); clear hczgb3_0; have hczgb3_0 : w159.cell? ⟨gb3, 0, none⟩ = some (.slice A0_0 l0_0.length c0_0) := (blk_cell BK3.out 0).trans rfl; clear hfzgb3_0; have hfzgb3_0 := blk_frozen BK3.out 0; clear hczgb4_0; have hczgb4_0 : w159.cell? ⟨gb4, 0, none⟩ = some (.int .i64 a1_0) := (blk_cell BK4.out 0).trans rfl; clear hfzgb4_0; have hfzgb4_0 := blk_frozen BK4.out 0; clear hczgb4_1; have hczgb4_1 : w159.cell? ⟨gb4, 1, none⟩ = some (.slice A1_1 l1_1.length c1_1) := (blk_cell BK4.out 1).trans rfl; clear hfzgb4_1; have hfzgb4_1 := blk_frozen BK4.out 1; clear hczgb10_0; have hczgb10_0 : w159.cell? ⟨gb10, 0, none⟩ = some (.slice Ao121 t119.length co121) := (blk_cell BK10.out 0).trans rfl; clear hfzgb10_0; have hfzgb10_0 := blk_frozen BK10.out 0; clear hczgb11_0; have hczgb11_0 : w159.cell? ⟨gb11, 0, none⟩ = some (.int .i64 t124) := (blk_cell BK11.out 0).trans rfl; clear hfzgb11_0; have hfzgb11_0 := blk_frozen BK11.out 0; clear hczgb11_1; have hczgb11_1 : w159.cell? ⟨gb11, 1, none⟩ = some (.slice Ao127 t125.length co127) := (blk_cell BK11.out 1).trans rfl; clear hfzgb11_1; have hfzgb11_1 := blk_frozen BK11.out 1) | ((with_reducible refine gate_callee (f := 30) rfl ?_); refine goesL_ (some 92) rfl rfl Try.func30 (by kernel_rfl) rfl #[.slice Ao133 t130.length co133, .int .i64 1] rfl (by (try simp only [List.map_toArray, List.map_cons, List.map_nil]); first | done | rfl | (simp only [List.length_drop, List.length_take]; rfl)) ?_; refine Calls_args (show (#[.slice Ao133 t130.length co133, .int .i64 1] : Array Value) = #[.slice Ao133 t158.length co133, .int .i64 1] from by rw [HL133.out]) ?_; (with_reducible refine (laws_heldInt64S.calls k _ _ t158 1 t176 _ ?side1 ?side2 H17A.out).mono ?_); (case side1 => exact (Kd.R_reads' (by (with_reducible repeat (first | apply Kd.R_alloc | apply Kd.R_drewN | apply Kd.R_drew)); exact HO133.out)).2.2); (case side2 => exact capR HO133.out); rintro e w161 ⟨rfl, hd⟩; have hb := Drawn0.below hd; refine ⟨_, rfl, ?_⟩; have n0_ := Aside0.mk (Kd.S_below (by (with_reducible repeat (first | apply Kd.S_alloc | apply Kd.S_drewN | apply Kd.S_drew)); exact HO110.out) hb); have n1_ := Aside0.mk (Kd.R_below (by (with_reducible repeat (first | apply Kd.R_alloc | apply Kd.R_drewN | apply Kd.R_drew)); exact HO114.out) hb); have n2_ := Aside0.mk (Kd.R_below (by (with_reducible repeat (first | apply Kd.R_alloc | apply Kd.R_drewN | apply Kd.R_drew)); exact HO118.out) hb); have n3_ := Aside0.mk (Kd.S_below (by (with_reducible repeat (first | apply Kd.S_alloc | apply Kd.S_drewN | apply Kd.S_drew)); exact HO121.out) hb); have n4_ := Aside0.mk (Kd.R_below (by (with_reducible repeat (first | apply Kd.R_alloc | apply Kd.R_drewN | apply Kd.R_drew)); exact HO127.out) hb); have n5_ := Aside0.mk (Kd.R_below (by (with_reducible repeat (first | apply Kd.R_alloc | apply Kd.R_drewN | apply Kd.R_drew)); exact HO133.out) hb); have n6_ := Aside0.mk (Kd.S_below (by (with_reducible repeat (first | apply Kd.S_alloc | apply Kd.S_drewN | apply Kd.S_drew)); exact HO139.out) hb); have n7_ := Aside0.mk (Kd.R_below (by (with_reducible repeat (first | apply Kd.R_alloc | apply Kd.R_drewN | apply Kd.R_drew)); exact HO146.out) hb); have n8_ := Aside0.mk (blk_below (g := gb3) (o := .cells #[.slice A0_0 l0_0.length c0_0] 24 (0, 0)) (by (with_reducible repeat (first | refine blk_drewN ?_ _ | refine blk_drew ?_ | refine blk_alloc ?_ _)); exact BK3.out) hb); have n9_ := Aside0.mk (blk_below (g := gb4) (o := .cells #[.int .i64 a1_0, .slice A1_1 l1_1.length c1_1] 27 (0, 0)) (by (with_reducible repeat (first | refine blk_drewN ?_ _ | refine blk_drew ?_ | refine blk_alloc ?_ _)); exact BK4.out) hb); have n10_ := Aside0.mk (blk_below (g := gb10) (o := .cells #[.slice Ao121 t119.length co121] 32 (0, 0)) (by (with_reducible repeat (first | refine blk_drewN ?_ _ | refine blk_drew ?_ | refine blk_alloc ?_ _)); exact BK10.out) hb); have n11_ := Aside0.mk (blk_below (g := gb11) (o := .cells #[.int .i64 t124, .slice Ao127 t125.length co127] 34 (0, 0)) (by (with_reducible repeat (first | refine blk_drewN ?_ _ | refine blk_drew ?_ | refine blk_alloc ?_ _)); exact BK11.out) hb); have n12_ := Aside0.mk (below_step (by repeat (first | (with_reducible first | exact HB.out | apply below_alloc | apply pw_below_drewN | apply below_drew1) | exact HB.out)) hb); have n13_ := Aside0.mk (Nat.le_trans (by repeat (first | (with_reducible first | exact HN.out | apply sz_alloc | apply sz_drewN | apply sz_drew) | exact HN.out)) hb.size); clear HO110; clear HO114; clear HO118; clear HO121; clear HO127; clear HO133; clear HO139; clear HO146; clear BK3; clear BK4; clear BK10; clear BK11; clear HB; clear HN; have HO110 := n0_; have HO114 := n1_; have HO118 := n2_; have HO121 := n3_; have HO127 := n4_; have HO133 := n5_; have HO139 := n6_; have HO146 := n7_; have BK3 := n8_; have BK4 := n9_; have BK10 := n10_; have BK11 := n11_; have HB := n12_; have HN := n13_; clear n0_ n1_ n2_ n3_ n4_ n5_ n6_ n7_ n8_ n9_ n10_ n11_ n12_ n13_; clear hd hb; clear hczgb3_0; have hczgb3_0 : w161.cell? ⟨gb3, 0, none⟩ = some (.slice A0_0 l0_0.length c0_0) := (blk_cell BK3.out 0).trans rfl; clear hfzgb3_0; have hfzgb3_0 := blk_frozen BK3.out 0; clear hczgb4_0; have hczgb4_0 : w161.cell? ⟨gb4, 0, none⟩ = some (.int .i64 a1_0) := (blk_cell BK4.out 0).trans rfl; clear hfzgb4_0; have hfzgb4_0 := blk_frozen BK4.out 0; clear hczgb4_1; have hczgb4_1 : w161.cell? ⟨gb4, 1, none⟩ = some (.slice A1_1 l1_1.length c1_1) := (blk_cell BK4.out 1).trans rfl; clear hfzgb4_1; have hfzgb4_1 := blk_frozen BK4.out 1; clear hczgb10_0; have hczgb10_0 : w161.cell? ⟨gb10, 0, none⟩ = some (.slice Ao121 t119.length co121) := (blk_cell BK10.out 0).trans rfl; clear hfzgb10_0; have hfzgb10_0 := blk_frozen BK10.out 0; clear hczgb11_0; have hczgb11_0 : w161.cell? ⟨gb11, 0, none⟩ = some (.int .i64 t124) := (blk_cell BK11.out 0).trans rfl; clear hfzgb11_0; have hfzgb11_0 := blk_frozen BK11.out 0; clear hczgb11_1; have hczgb11_1 : w161.cell? ⟨gb11, 1, none⟩ = some (.slice Ao127 t125.length co127) := (blk_cell BK11.out 1).trans rfl; clear hfzgb11_1; have hfzgb11_1 := blk_frozen BK11.out 1))
   have n0_ := Aside0.mk (Kd.S_drew HO110.out)
   have n1_ := Aside0.mk (Kd.R_drew HO114.out)
   have n2_ := Aside0.mk (Kd.R_drew HO118.out)
   have n3_ := Aside0.mk (Kd.S_drew HO121.out)
   have n4_ := Aside0.mk (Kd.R_drew HO127.out)
   have n5_ := Aside0.mk (Kd.R_drew HO133.out)
   have n6_ := Aside0.mk (Kd.S_drew HO139.out)
   have n7_ := Aside0.mk (Kd.R_drew HO146.out)
   have n8_ := Aside0.mk (blk_drew BK3.out)
   have n9_ := Aside0.mk (blk_drew BK4.out)
   have n10_ := Aside0.mk (blk_drew BK10.out)
   have n11_ := Aside0.mk (blk_drew BK11.out)
   have n12_ := Aside0.mk (below_drew1 HB.out)
   have n13_ := Aside0.mk (sz_drew HN.out)
   clear HO110
   clear HO114
   clear HO118
   clear HO121
   clear HO127
   clear HO133
   clear HO139
   clear HO146
   clear BK3
   clear BK4
   clear BK10
   clear BK11
   clear HB
   clear HN
   have HO110 := n0_
   have HO114 := n1_
   have HO118 := n2_
   have HO121 := n3_
   have HO127 := n4_
   have HO133 := n5_
   have HO139 := n6_
   have HO146 := n7_
   have BK3 := n8_
   have BK4 := n9_
   have BK10 := n10_
   have BK11 := n11_
   have HB := n12_
   have HN := n13_
   clear n0_ n1_ n2_ n3_ n4_ n5_ n6_ n7_ n8_ n9_ n10_ n11_ n12_ n13_
   refine start_ (n := 11) (S := fun w' => w'.cell? ⟨gb3, 0, none⟩ = some (.slice A0_0 l0_0.length c0_0) ∧ w'.cell? ⟨gb4, 0, none⟩ = some (.int .i64 a1_0) ∧ w'.cell? ⟨gb4, 1, none⟩ = some (.slice A1_1 l1_1.length c1_1) ∧ w'.cell? ⟨gb10, 0, none⟩ = some (.slice Ao121 t119.length co121) ∧ w'.cell? ⟨gb11, 0, none⟩ = some (.int .i64 t124) ∧ w'.cell? ⟨gb11, 1, none⟩ = some (.slice Ao127 t125.length co127)) (ds := []) #[false, false, false, false, false, false, false, false, false, false, false] (by kernel_rfl) rfl rfl ⟨(blk_cell BK3.out 0).trans rfl, (blk_cell BK4.out 0).trans rfl, (blk_cell BK4.out 1).trans rfl, (blk_cell BK10.out 0).trans rfl, (blk_cell BK11.out 0).trans rfl, (blk_cell BK11.out 1).trans rfl⟩ (fun hHeld => ?_)
   refine with_tabW laws_FnExactPrincipalMap.tab31 laws_FnExactPrincipalMap.bits31 (fun HT_ HW_ => ?_)
   generalize w161.drew = w162 at HO110 HO114 HO118 HO121 HO127 HO133 HO139 HO146 BK3 BK4 BK10 BK11 HB HN hHeld ⊢
   refine take_ (i := 0) (N := some 99) (v := ?_) (a' := ?_) #[true, false, false, false, false, false, false, false, false, false, false] rfl rfl (take_ofW HT_.out HW_.out (by kernel_rfl)) (fun _ _ _ h => h) (Or.inl ⟨by rfl, ?_⟩) hHeld ?_ ?_
   rotate_left
   ·
    rintro w' ⟨s0, s1, s2, s3, s4, s5⟩
    go_simp
    with_reducible rfl
   rotate_left
   ·
    simp only [Act.put, List.setIfInBounds_toArray, List.set_cons_zero, List.set_cons_succ, i64_w, i32_w]
    rfl
   refine take_ (i := 2) (N := some 101) (v := ?_) (a' := ?_) #[true, false, true, false, false, false, false, false, false, false, false] rfl rfl (take_ofW HT_.out HW_.out (by kernel_rfl)) (fun _ _ _ h => h) (Or.inl ⟨by rfl, ?_⟩) hHeld ?_ ?_
   rotate_left
   ·
    rintro w' ⟨s0, s1, s2, s3, s4, s5⟩
    go_simp
    with_reducible rfl
   rotate_left
   ·
    simp only [Act.put, List.setIfInBounds_toArray, List.set_cons_zero, List.set_cons_succ, i64_w, i32_w]
    rfl
   refine pure_ (i := 4) (N := some 103) (v := ?_) (a' := ?_) #[true, false, true, false, true, false, false, false, false, false, false] rfl rfl (any_of HT_.out (by kernel_rfl)) (fun _ _ _ h => h) (Or.inl ⟨by rfl, ?_⟩) ?_ ?_
   rotate_left
   ·
    intro w'
    go_simp
    with_reducible rfl
   rotate_left
   ·
    simp only [Act.put, List.setIfInBounds_toArray, List.set_cons_zero, List.set_cons_succ, i64_w, i32_w]
    rfl
   refine one_ (i := 1) (N := some 100) #[true, true, true, false, true, false, false, false, false, false, false] rfl rfl (one_of HT_.out (by kernel_rfl)) (by decide) (fun K hK => ?_)
   refine goes_ Try.func12 (by kernel_rfl) rfl #[.agg #[.slice A0_0 l0_0.length c0_0]] (by rfl) rfl rfl (by (try simp only [List.map_toArray, List.map_cons, List.map_nil]); first | done | rfl | (simp only [List.length_drop, List.length_take]; rfl)) ?_
   (with_reducible refine (laws_toGroup.calls k _ _ l0_0 t163 _ ?side1 ?side2 H18A.out).mono ?_)
   (case side1 => repeat (first | exact (Kd.C_below HR0_0.out HB.out) | (with_reducible refine Kd.C_alloc ?_ _) | (with_reducible refine Kd.C_drewN ?_ _) | (with_reducible refine Kd.C_drew ?_)))
   (case side2 => exact HC0_0.out)
   rintro e w164 ⟨vv164_v0_, rfl, ho0, hb⟩
   obtain ⟨Ao165, co165, eo_⟩ := Kd.S_slice ho0
   subst eo_
   refine ⟨_, rfl, ?_⟩
   obtain ⟨lo165, hi165, hc_, hn_, hbo_⟩ := bornS (by repeat (first | (with_reducible first | exact HN.out | apply sz_alloc | apply sz_drewN | apply sz_drew) | exact HN.out)) (below_size (by repeat (first | (with_reducible first | exact HB.out | apply below_alloc | apply pw_below_drewN | apply below_drew1) | exact HB.out))) ho0 hb
   have n0_ := Aside0.mk (Kd.S_below (by (with_reducible repeat (first | apply Kd.S_alloc | apply Kd.S_drewN | apply Kd.S_drew)); exact HO110.out) hb)
   have n1_ := Aside0.mk (Kd.R_below (by (with_reducible repeat (first | apply Kd.R_alloc | apply Kd.R_drewN | apply Kd.R_drew)); exact HO114.out) hb)
   have n2_ := Aside0.mk (Kd.R_below (by (with_reducible repeat (first | apply Kd.R_alloc | apply Kd.R_drewN | apply Kd.R_drew)); exact HO118.out) hb)
   have n3_ := Aside0.mk (Kd.S_below (by (with_reducible repeat (first | apply Kd.S_alloc | apply Kd.S_drewN | apply Kd.S_drew)); exact HO121.out) hb)
   have n4_ := Aside0.mk (Kd.R_below (by (with_reducible repeat (first | apply Kd.R_alloc | apply Kd.R_drewN | apply Kd.R_drew)); exact HO127.out) hb)
   have n5_ := Aside0.mk (Kd.R_below (by (with_reducible repeat (first | apply Kd.R_alloc | apply Kd.R_drewN | apply Kd.R_drew)); exact HO133.out) hb)
   have n6_ := Aside0.mk (Kd.S_below (by (with_reducible repeat (first | apply Kd.S_alloc | apply Kd.S_drewN | apply Kd.S_drew)); exact HO139.out) hb)
   have n7_ := Aside0.mk (Kd.R_below (by (with_reducible repeat (first | apply Kd.R_alloc | apply Kd.R_drewN | apply Kd.R_drew)); exact HO146.out) hb)
   have n8_ := Aside0.mk (blk_below (g := gb3) (o := .cells #[.slice A0_0 l0_0.length c0_0] 24 (0, 0)) (by (with_reducible repeat (first | refine blk_drewN ?_ _ | refine blk_drew ?_ | refine blk_alloc ?_ _)); exact BK3.out) hb)
   have n9_ := Aside0.mk (blk_below (g := gb4) (o := .cells #[.int .i64 a1_0, .slice A1_1 l1_1.length c1_1] 27 (0, 0)) (by (with_reducible repeat (first | refine blk_drewN ?_ _ | refine blk_drew ?_ | refine blk_alloc ?_ _)); exact BK4.out) hb)
   have n10_ := Aside0.mk (blk_below (g := gb10) (o := .cells #[.slice Ao121 t119.length co121] 32 (0, 0)) (by (with_reducible repeat (first | refine blk_drewN ?_ _ | refine blk_drew ?_ | refine blk_alloc ?_ _)); exact BK10.out) hb)
   have n11_ := Aside0.mk (blk_below (g := gb11) (o := .cells #[.int .i64 t124, .slice Ao127 t125.length co127] 34 (0, 0)) (by (with_reducible repeat (first | refine blk_drewN ?_ _ | refine blk_drew ?_ | refine blk_alloc ?_ _)); exact BK11.out) hb)
   have n12_ := Aside0.mk (hbo_)
   have n13_ := Aside0.mk (hc_)
   have n14_ := Aside0.mk (below_step (by repeat (first | (with_reducible first | exact HB.out | apply below_alloc | apply pw_below_drewN | apply below_drew1) | exact HB.out)) hb)
   have n15_ := Aside0.mk (hn_)
   clear HO110
   clear HO114
   clear HO118
   clear HO121
   clear HO127
   clear HO133
   clear HO139
   clear HO146
   clear BK3
   clear BK4
   clear BK10
   clear BK11
   clear HB
   clear HN
   have HO110 := n0_
   have HO114 := n1_
   have HO118 := n2_
   have HO121 := n3_
   have HO127 := n4_
   have HO133 := n5_
   have HO139 := n6_
   have HO146 := n7_
   have BK3 := n8_
   have BK4 := n9_
   have BK10 := n10_
   have BK11 := n11_
   have HO165 := n12_
   have C165 := n13_
   have HB := n14_
   have HN := n15_
   clear n0_ n1_ n2_ n3_ n4_ n5_ n6_ n7_ n8_ n9_ n10_ n11_ n12_ n13_ n14_ n15_
   clear hb
   (try clear ho0)
   refine hK.out _ _ ⟨(blk_cell BK3.out 0).trans rfl, (blk_cell BK4.out 0).trans rfl, (blk_cell BK4.out 1).trans rfl, (blk_cell BK10.out 0).trans rfl, (blk_cell BK11.out 0).trans rfl, (blk_cell BK11.out 1).trans rfl⟩ (fun hHeld => ?_)
   clear hK K
   refine norm_ (a' := ?_) ?_ ?_
   rotate_left
   ·
    show Act.put _ (some 100) _ = _
    simp only [Act.put, List.setIfInBounds_toArray, List.set_cons_zero, List.set_cons_succ, i64_w, i32_w]
    rfl
   refine one_ (i := 3) (N := some 102) #[true, true, true, true, true, false, false, false, false, false, false] rfl rfl (one_of HT_.out (by kernel_rfl)) (by decide) (fun K hK => ?_)
   refine goes_ Try.func13 (by kernel_rfl) rfl #[.agg #[.int .i64 a1_0, .slice A1_1 l1_1.length c1_1]] (by rfl) rfl rfl (by (try simp only [List.map_toArray, List.map_cons, List.map_nil]); first | done | rfl | (simp only [List.length_drop, List.length_take]; rfl)) ?_
   (with_reducible refine (laws_toModule.calls k a1_0 _ _ l1_1 t166 t167 _ ?side1 ?side2 H19A.out).mono ?_)
   (case side1 => repeat (first | exact (Kd.C_below HR1_1.out HB.out) | (with_reducible refine Kd.C_alloc ?_ _) | (with_reducible refine Kd.C_drewN ?_ _) | (with_reducible refine Kd.C_drew ?_)))
   (case side2 => exact HC1_1.out)
   rintro e w168 ⟨vv168_v1_, rfl, ho0, hb⟩
   obtain ⟨Ao169, co169, eo_⟩ := Kd.R_slice ho0
   subst eo_
   refine ⟨_, rfl, ?_⟩
   obtain ⟨lo169, hi169, hc_, hn_, hbo_⟩ := bornR (by repeat (first | (with_reducible first | exact HN.out | apply sz_alloc | apply sz_drewN | apply sz_drew) | exact HN.out)) (below_size (by repeat (first | (with_reducible first | exact HB.out | apply below_alloc | apply pw_below_drewN | apply below_drew1) | exact HB.out))) ho0 hb
   have n0_ := Aside0.mk (Kd.S_below (by (with_reducible repeat (first | apply Kd.S_alloc | apply Kd.S_drewN | apply Kd.S_drew)); exact HO110.out) hb)
   have n1_ := Aside0.mk (Kd.R_below (by (with_reducible repeat (first | apply Kd.R_alloc | apply Kd.R_drewN | apply Kd.R_drew)); exact HO114.out) hb)
   have n2_ := Aside0.mk (Kd.R_below (by (with_reducible repeat (first | apply Kd.R_alloc | apply Kd.R_drewN | apply Kd.R_drew)); exact HO118.out) hb)
   have n3_ := Aside0.mk (Kd.S_below (by (with_reducible repeat (first | apply Kd.S_alloc | apply Kd.S_drewN | apply Kd.S_drew)); exact HO121.out) hb)
   have n4_ := Aside0.mk (Kd.R_below (by (with_reducible repeat (first | apply Kd.R_alloc | apply Kd.R_drewN | apply Kd.R_drew)); exact HO127.out) hb)
   have n5_ := Aside0.mk (Kd.R_below (by (with_reducible repeat (first | apply Kd.R_alloc | apply Kd.R_drewN | apply Kd.R_drew)); exact HO133.out) hb)
   have n6_ := Aside0.mk (Kd.S_below (by (with_reducible repeat (first | apply Kd.S_alloc | apply Kd.S_drewN | apply Kd.S_drew)); exact HO139.out) hb)
   have n7_ := Aside0.mk (Kd.R_below (by (with_reducible repeat (first | apply Kd.R_alloc | apply Kd.R_drewN | apply Kd.R_drew)); exact HO146.out) hb)
   have n8_ := Aside0.mk (Kd.S_below (by (with_reducible repeat (first | apply Kd.S_alloc | apply Kd.S_drewN | apply Kd.S_drew)); exact HO165.out) hb)
   have n9_ := Aside0.mk (blk_below (g := gb3) (o := .cells #[.slice A0_0 l0_0.length c0_0] 24 (0, 0)) (by (with_reducible repeat (first | refine blk_drewN ?_ _ | refine blk_drew ?_ | refine blk_alloc ?_ _)); exact BK3.out) hb)
   have n10_ := Aside0.mk (blk_below (g := gb4) (o := .cells #[.int .i64 a1_0, .slice A1_1 l1_1.length c1_1] 27 (0, 0)) (by (with_reducible repeat (first | refine blk_drewN ?_ _ | refine blk_drew ?_ | refine blk_alloc ?_ _)); exact BK4.out) hb)
   have n11_ := Aside0.mk (blk_below (g := gb10) (o := .cells #[.slice Ao121 t119.length co121] 32 (0, 0)) (by (with_reducible repeat (first | refine blk_drewN ?_ _ | refine blk_drew ?_ | refine blk_alloc ?_ _)); exact BK10.out) hb)
   have n12_ := Aside0.mk (blk_below (g := gb11) (o := .cells #[.int .i64 t124, .slice Ao127 t125.length co127] 34 (0, 0)) (by (with_reducible repeat (first | refine blk_drewN ?_ _ | refine blk_drew ?_ | refine blk_alloc ?_ _)); exact BK11.out) hb)
   have n13_ := Aside0.mk (hbo_)
   have n14_ := Aside0.mk (hc_)
   have n15_ := Aside0.mk (below_step (by repeat (first | (with_reducible first | exact HB.out | apply below_alloc | apply pw_below_drewN | apply below_drew1) | exact HB.out)) hb)
   have n16_ := Aside0.mk (hn_)
   clear HO110
   clear HO114
   clear HO118
   clear HO121
   clear HO127
   clear HO133
   clear HO139
   clear HO146
   clear HO165
   clear BK3
   clear BK4
   clear BK10
   clear BK11
   clear HB
   clear HN
   have HO110 := n0_
   have HO114 := n1_
   have HO118 := n2_
   have HO121 := n3_
   have HO127 := n4_
   have HO133 := n5_
   have HO139 := n6_
   have HO146 := n7_
   have HO165 := n8_
   have BK3 := n9_
   have BK4 := n10_
   have BK10 := n11_
   have BK11 := n12_
   have HO169 := n13_
   have C169 := n14_
   have HB := n15_
   have HN := n16_
   clear n0_ n1_ n2_ n3_ n4_ n5_ n6_ n7_ n8_ n9_ n10_ n11_ n12_ n13_ n14_ n15_ n16_
   clear hb
   (try clear ho0)
   refine hK.out _ _ ⟨(blk_cell BK3.out 0).trans rfl, (blk_cell BK4.out 0).trans rfl, (blk_cell BK4.out 1).trans rfl, (blk_cell BK10.out 0).trans rfl, (blk_cell BK11.out 0).trans rfl, (blk_cell BK11.out 1).trans rfl⟩ (fun hHeld => ?_)
   clear hK K
   refine norm_ (a' := ?_) ?_ ?_
   rotate_left
   ·
    show Act.put _ (some 102) _ = _
    simp only [Act.put, List.setIfInBounds_toArray, List.set_cons_zero, List.set_cons_succ, i64_w, i32_w]
    rfl
   refine one_ (i := 5) (N := some 104) #[true, true, true, true, true, true, false, false, false, false, false] rfl rfl (one_of HT_.out (by kernel_rfl)) (by decide) (fun K hK => ?_)
   refine goes_ Try.func26 (by kernel_rfl) rfl #[.agg #[.slice Ao165 t163.length co165], .agg #[.int .i64 t166, .slice Ao169 t167.length co169], .int .i64 a2] (by rfl) rfl rfl (by (try simp only [List.map_toArray, List.map_cons, List.map_nil]); first | done | rfl | (simp only [List.length_drop, List.length_take]; rfl)) ?_
   (with_reducible refine (impl_PrincipalMap.calls k _ _ t163 t166 (fun k_ => lo169 ≤ k_ ∧ k_ < hi169) _ _ t167 a2 t170 t171 _ ?side1 ?side2 ?side3 H20A.out).mono ?_)
   (case side1 => exact (Kd.S_reads' (by (with_reducible repeat (first | apply Kd.S_alloc | apply Kd.S_drewN | apply Kd.S_drew)); exact HO165.out)).2.2)
   (case side2 => exact capS HO165.out)
   (case side3 => exact Kd.R_V (by (with_reducible repeat (first | apply Kd.R_alloc | apply Kd.R_drewN | apply Kd.R_drew)); exact HO169.out))
   rintro e w172 ⟨vv172_v0_, rfl, ho0, hb⟩
   obtain ⟨Ao173, co173, eo_⟩ := Kd.R_slice ho0
   subst eo_
   refine ⟨_, rfl, ?_⟩
   obtain ⟨lo173, hi173, hc_, hn_, hbo_⟩ := bornR (by repeat (first | (with_reducible first | exact HN.out | apply sz_alloc | apply sz_drewN | apply sz_drew) | exact HN.out)) (below_size (by repeat (first | (with_reducible first | exact HB.out | apply below_alloc | apply pw_below_drewN | apply below_drew1) | exact HB.out))) ho0 hb
   have n0_ := Aside0.mk (Kd.S_below (by (with_reducible repeat (first | apply Kd.S_alloc | apply Kd.S_drewN | apply Kd.S_drew)); exact HO110.out) hb)
   have n1_ := Aside0.mk (Kd.R_below (by (with_reducible repeat (first | apply Kd.R_alloc | apply Kd.R_drewN | apply Kd.R_drew)); exact HO114.out) hb)
   have n2_ := Aside0.mk (Kd.R_below (by (with_reducible repeat (first | apply Kd.R_alloc | apply Kd.R_drewN | apply Kd.R_drew)); exact HO118.out) hb)
   have n3_ := Aside0.mk (Kd.S_below (by (with_reducible repeat (first | apply Kd.S_alloc | apply Kd.S_drewN | apply Kd.S_drew)); exact HO121.out) hb)
   have n4_ := Aside0.mk (Kd.R_below (by (with_reducible repeat (first | apply Kd.R_alloc | apply Kd.R_drewN | apply Kd.R_drew)); exact HO127.out) hb)
   have n5_ := Aside0.mk (Kd.R_below (by (with_reducible repeat (first | apply Kd.R_alloc | apply Kd.R_drewN | apply Kd.R_drew)); exact HO133.out) hb)
   have n6_ := Aside0.mk (Kd.S_below (by (with_reducible repeat (first | apply Kd.S_alloc | apply Kd.S_drewN | apply Kd.S_drew)); exact HO139.out) hb)
   have n7_ := Aside0.mk (Kd.R_below (by (with_reducible repeat (first | apply Kd.R_alloc | apply Kd.R_drewN | apply Kd.R_drew)); exact HO146.out) hb)
   have n8_ := Aside0.mk (Kd.S_below (by (with_reducible repeat (first | apply Kd.S_alloc | apply Kd.S_drewN | apply Kd.S_drew)); exact HO165.out) hb)
   have n9_ := Aside0.mk (Kd.R_below (by (with_reducible repeat (first | apply Kd.R_alloc | apply Kd.R_drewN | apply Kd.R_drew)); exact HO169.out) hb)
   have n10_ := Aside0.mk (blk_below (g := gb3) (o := .cells #[.slice A0_0 l0_0.length c0_0] 24 (0, 0)) (by (with_reducible repeat (first | refine blk_drewN ?_ _ | refine blk_drew ?_ | refine blk_alloc ?_ _)); exact BK3.out) hb)
   have n11_ := Aside0.mk (blk_below (g := gb4) (o := .cells #[.int .i64 a1_0, .slice A1_1 l1_1.length c1_1] 27 (0, 0)) (by (with_reducible repeat (first | refine blk_drewN ?_ _ | refine blk_drew ?_ | refine blk_alloc ?_ _)); exact BK4.out) hb)
   have n12_ := Aside0.mk (blk_below (g := gb10) (o := .cells #[.slice Ao121 t119.length co121] 32 (0, 0)) (by (with_reducible repeat (first | refine blk_drewN ?_ _ | refine blk_drew ?_ | refine blk_alloc ?_ _)); exact BK10.out) hb)
   have n13_ := Aside0.mk (blk_below (g := gb11) (o := .cells #[.int .i64 t124, .slice Ao127 t125.length co127] 34 (0, 0)) (by (with_reducible repeat (first | refine blk_drewN ?_ _ | refine blk_drew ?_ | refine blk_alloc ?_ _)); exact BK11.out) hb)
   have n14_ := Aside0.mk (hbo_)
   have n15_ := Aside0.mk (hc_)
   have n16_ := Aside0.mk (below_step (by repeat (first | (with_reducible first | exact HB.out | apply below_alloc | apply pw_below_drewN | apply below_drew1) | exact HB.out)) hb)
   have n17_ := Aside0.mk (hn_)
   clear HO110
   clear HO114
   clear HO118
   clear HO121
   clear HO127
   clear HO133
   clear HO139
   clear HO146
   clear HO165
   clear HO169
   clear BK3
   clear BK4
   clear BK10
   clear BK11
   clear HB
   clear HN
   have HO110 := n0_
   have HO114 := n1_
   have HO118 := n2_
   have HO121 := n3_
   have HO127 := n4_
   have HO133 := n5_
   have HO139 := n6_
   have HO146 := n7_
   have HO165 := n8_
   have HO169 := n9_
   have BK3 := n10_
   have BK4 := n11_
   have BK10 := n12_
   have BK11 := n13_
   have HO173 := n14_
   have C173 := n15_
   have HB := n16_
   have HN := n17_
   clear n0_ n1_ n2_ n3_ n4_ n5_ n6_ n7_ n8_ n9_ n10_ n11_ n12_ n13_ n14_ n15_ n16_ n17_
   clear hb
   (try clear ho0)
   refine hK.out _ _ ⟨(blk_cell BK3.out 0).trans rfl, (blk_cell BK4.out 0).trans rfl, (blk_cell BK4.out 1).trans rfl, (blk_cell BK10.out 0).trans rfl, (blk_cell BK11.out 0).trans rfl, (blk_cell BK11.out 1).trans rfl⟩ (fun hHeld => ?_)
   clear hK K
   refine norm_ (a' := ?_) ?_ ?_
   rotate_left
   ·
    show Act.put _ (some 104) _ = _
    simp only [Act.put, List.setIfInBounds_toArray, List.set_cons_zero, List.set_cons_succ, i64_w, i32_w]
    rfl
   refine pure_ (i := 6) (N := some 98) (v := ?_) (a' := ?_) #[true, true, true, true, true, true, true, false, false, false, false] rfl rfl (any_of HT_.out (by kernel_rfl)) (fun _ _ _ h => h) (Or.inl ⟨by rfl, ?_⟩) ?_ ?_
   rotate_left
   ·
    intro w'
    go_simp
    with_reducible rfl
   rotate_left
   ·
    simp only [Act.put, List.setIfInBounds_toArray, List.set_cons_zero, List.set_cons_succ, i64_w, i32_w]
    rfl
   refine pure_ (i := 7) (N := some 105) (v := ?_) (a' := ?_) #[true, true, true, true, true, true, true, true, false, false, false] rfl rfl (any_of HT_.out (by kernel_rfl)) (fun _ _ _ h => h) (Or.inl ⟨by rfl, ?_⟩) ?_ ?_
   rotate_left
   ·
    intro w'
    go_simp
    with_reducible rfl
   rotate_left
   ·
    simp only [Act.put, List.setIfInBounds_toArray, List.set_cons_zero, List.set_cons_succ, i64_w, i32_w]
    rfl
   refine pure_ (i := 8) (N := some 106) (v := ?_) (a' := ?_) #[true, true, true, true, true, true, true, true, true, false, false] rfl rfl (any_of HT_.out (by kernel_rfl)) (fun _ _ _ h => h) (Or.inl ⟨by rfl, ?_⟩) ?_ ?_
   rotate_left
   ·
    intro w'
    go_simp
    with_reducible rfl
   rotate_left
   ·
    simp only [Act.put, List.setIfInBounds_toArray, List.set_cons_zero, List.set_cons_succ, i64_w, i32_w]
    rfl
   refine pure_ (i := 9) (N := some 17) (v := ?_) (a' := ?_) #[true, true, true, true, true, true, true, true, true, true, false] rfl rfl (any_of HT_.out (by kernel_rfl)) (fun _ _ _ h => h) (Or.inl ⟨by rfl, ?_⟩) ?_ ?_
   rotate_left
   ·
    intro w'
    go_simp
    with_reducible rfl
   rotate_left
   ·
    simp only [Act.put, List.setIfInBounds_toArray, List.set_cons_zero, List.set_cons_succ, i64_w, i32_w]
    rfl
   refine pure_ (i := 10) (N := some 18) (v := ?_) (a' := ?_) #[true, true, true, true, true, true, true, true, true, true, true] rfl rfl (any_of HT_.out (by kernel_rfl)) (fun _ _ _ h => h) (Or.inl ⟨by rfl, ?_⟩) ?_ ?_
   rotate_left
   ·
    intro w'
    go_simp
    with_reducible rfl
   rotate_left
   ·
    simp only [Act.put, List.setIfInBounds_toArray, List.set_cons_zero, List.set_cons_succ, i64_w, i32_w]
    rfl
   refine done_ (done_of HT_.out (by kernel_rfl)) ?_
   clear hczgb3_0
   have hczgb3_0 : w172.cell? ⟨gb3, 0, none⟩ = some (.slice A0_0 l0_0.length c0_0) := (blk_cell BK3.out 0).trans rfl
   clear hfzgb3_0
   have hfzgb3_0 := blk_frozen BK3.out 0
   clear hczgb4_0
   have hczgb4_0 : w172.cell? ⟨gb4, 0, none⟩ = some (.int .i64 a1_0) := (blk_cell BK4.out 0).trans rfl
   clear hfzgb4_0
   have hfzgb4_0 := blk_frozen BK4.out 0
   clear hczgb4_1
   have hczgb4_1 : w172.cell? ⟨gb4, 1, none⟩ = some (.slice A1_1 l1_1.length c1_1) := (blk_cell BK4.out 1).trans rfl
   clear hfzgb4_1
   have hfzgb4_1 := blk_frozen BK4.out 1
   clear hczgb10_0
   have hczgb10_0 : w172.cell? ⟨gb10, 0, none⟩ = some (.slice Ao121 t119.length co121) := (blk_cell BK10.out 0).trans rfl
   clear hfzgb10_0
   have hfzgb10_0 := blk_frozen BK10.out 0
   clear hczgb11_0
   have hczgb11_0 : w172.cell? ⟨gb11, 0, none⟩ = some (.int .i64 t124) := (blk_cell BK11.out 0).trans rfl
   clear hfzgb11_0
   have hfzgb11_0 := blk_frozen BK11.out 0
   clear hczgb11_1
   have hczgb11_1 : w172.cell? ⟨gb11, 1, none⟩ = some (.slice Ao127 t125.length co127) := (blk_cell BK11.out 1).trans rfl
   clear hfzgb11_1
   have hfzgb11_1 := blk_frozen BK11.out 1
   go_wp2_with (first | ((with_reducible refine gate_callee (f := 24) rfl ?_); refine goesL_ (some 109) rfl rfl Try.func24 (by kernel_rfl) rfl #[.slice Ao173 t170.length co173, .slice Ao118 t115.length co118] rfl (by (try simp only [List.map_toArray, List.map_cons, List.map_nil]); first | done | rfl | (simp only [List.length_drop, List.length_take]; rfl)) ?_; (with_reducible refine (laws_eqInt64S.calls k _ _ t170 _ _ t115 true _ ?side1 ?side2 ?side3 ?side4 H21A.out).mono ?_); (case side1 => exact (Kd.R_reads' (by (with_reducible repeat (first | apply Kd.R_alloc | apply Kd.R_drewN | apply Kd.R_drew)); exact HO173.out)).2.2); (case side2 => exact capR HO173.out); (case side3 => exact (Kd.R_reads' (by (with_reducible repeat (first | apply Kd.R_alloc | apply Kd.R_drewN | apply Kd.R_drew)); exact HO118.out)).2.2); (case side4 => exact capR HO118.out); rintro e w175 ⟨rfl, hd⟩; have hb := Drawn0.below hd; refine ⟨_, rfl, ?_⟩; have n0_ := Aside0.mk (Kd.S_below (by (with_reducible repeat (first | apply Kd.S_alloc | apply Kd.S_drewN | apply Kd.S_drew)); exact HO110.out) hb); have n1_ := Aside0.mk (Kd.R_below (by (with_reducible repeat (first | apply Kd.R_alloc | apply Kd.R_drewN | apply Kd.R_drew)); exact HO114.out) hb); have n2_ := Aside0.mk (Kd.R_below (by (with_reducible repeat (first | apply Kd.R_alloc | apply Kd.R_drewN | apply Kd.R_drew)); exact HO118.out) hb); have n3_ := Aside0.mk (Kd.S_below (by (with_reducible repeat (first | apply Kd.S_alloc | apply Kd.S_drewN | apply Kd.S_drew)); exact HO121.out) hb); have n4_ := Aside0.mk (Kd.R_below (by (with_reducible repeat (first | apply Kd.R_alloc | apply Kd.R_drewN | apply Kd.R_drew)); exact HO127.out) hb); have n5_ := Aside0.mk (Kd.R_below (by (with_reducible repeat (first | apply Kd.R_alloc | apply Kd.R_drewN | apply Kd.R_drew)); exact HO133.out) hb); have n6_ := Aside0.mk (Kd.S_below (by (with_reducible repeat (first | apply Kd.S_alloc | apply Kd.S_drewN | apply Kd.S_drew)); exact HO139.out) hb); have n7_ := Aside0.mk (Kd.R_below (by (with_reducible repeat (first | apply Kd.R_alloc | apply Kd.R_drewN | apply Kd.R_drew)); exact HO146.out) hb); have n8_ := Aside0.mk (Kd.S_below (by (with_reducible repeat (first | apply Kd.S_alloc | apply Kd.S_drewN | apply Kd.S_drew)); exact HO165.out) hb); have n9_ := Aside0.mk (Kd.R_below (by (with_reducible repeat (first | apply Kd.R_alloc | apply Kd.R_drewN | apply Kd.R_drew)); exact HO169.out) hb); have n10_ := Aside0.mk (Kd.R_below (by (with_reducible repeat (first | apply Kd.R_alloc | apply Kd.R_drewN | apply Kd.R_drew)); exact HO173.out) hb); have n11_ := Aside0.mk (blk_below (g := gb3) (o := .cells #[.slice A0_0 l0_0.length c0_0] 24 (0, 0)) (by (with_reducible repeat (first | refine blk_drewN ?_ _ | refine blk_drew ?_ | refine blk_alloc ?_ _)); exact BK3.out) hb); have n12_ := Aside0.mk (blk_below (g := gb4) (o := .cells #[.int .i64 a1_0, .slice A1_1 l1_1.length c1_1] 27 (0, 0)) (by (with_reducible repeat (first | refine blk_drewN ?_ _ | refine blk_drew ?_ | refine blk_alloc ?_ _)); exact BK4.out) hb); have n13_ := Aside0.mk (blk_below (g := gb10) (o := .cells #[.slice Ao121 t119.length co121] 32 (0, 0)) (by (with_reducible repeat (first | refine blk_drewN ?_ _ | refine blk_drew ?_ | refine blk_alloc ?_ _)); exact BK10.out) hb); have n14_ := Aside0.mk (blk_below (g := gb11) (o := .cells #[.int .i64 t124, .slice Ao127 t125.length co127] 34 (0, 0)) (by (with_reducible repeat (first | refine blk_drewN ?_ _ | refine blk_drew ?_ | refine blk_alloc ?_ _)); exact BK11.out) hb); have n15_ := Aside0.mk (below_step (by repeat (first | (with_reducible first | exact HB.out | apply below_alloc | apply pw_below_drewN | apply below_drew1) | exact HB.out)) hb); have n16_ := Aside0.mk (Nat.le_trans (by repeat (first | (with_reducible first | exact HN.out | apply sz_alloc | apply sz_drewN | apply sz_drew) | exact HN.out)) hb.size); clear HO110; clear HO114; clear HO118; clear HO121; clear HO127; clear HO133; clear HO139; clear HO146; clear HO165; clear HO169; clear HO173; clear BK3; clear BK4; clear BK10; clear BK11; clear HB; clear HN; have HO110 := n0_; have HO114 := n1_; have HO118 := n2_; have HO121 := n3_; have HO127 := n4_; have HO133 := n5_; have HO139 := n6_; have HO146 := n7_; have HO165 := n8_; have HO169 := n9_; have HO173 := n10_; have BK3 := n11_; have BK4 := n12_; have BK10 := n13_; have BK11 := n14_; have HB := n15_; have HN := n16_; clear n0_ n1_ n2_ n3_ n4_ n5_ n6_ n7_ n8_ n9_ n10_ n11_ n12_ n13_ n14_ n15_ n16_; clear hd hb; clear hczgb3_0; have hczgb3_0 : w175.cell? ⟨gb3, 0, none⟩ = some (.slice A0_0 l0_0.length c0_0) := (blk_cell BK3.out 0).trans rfl; clear hfzgb3_0; have hfzgb3_0 := blk_frozen BK3.out 0; clear hczgb4_0; have hczgb4_0 : w175.cell? ⟨gb4, 0, none⟩ = some (.int .i64 a1_0) := (blk_cell BK4.out 0).trans rfl; clear hfzgb4_0; have hfzgb4_0 := blk_frozen BK4.out 0; clear hczgb4_1; have hczgb4_1 : w175.cell? ⟨gb4, 1, none⟩ = some (.slice A1_1 l1_1.length c1_1) := (blk_cell BK4.out 1).trans rfl; clear hfzgb4_1; have hfzgb4_1 := blk_frozen BK4.out 1; clear hczgb10_0; have hczgb10_0 : w175.cell? ⟨gb10, 0, none⟩ = some (.slice Ao121 t119.length co121) := (blk_cell BK10.out 0).trans rfl; clear hfzgb10_0; have hfzgb10_0 := blk_frozen BK10.out 0; clear hczgb11_0; have hczgb11_0 : w175.cell? ⟨gb11, 0, none⟩ = some (.int .i64 t124) := (blk_cell BK11.out 0).trans rfl; clear hfzgb11_0; have hfzgb11_0 := blk_frozen BK11.out 0; clear hczgb11_1; have hczgb11_1 : w175.cell? ⟨gb11, 1, none⟩ = some (.slice Ao127 t125.length co127) := (blk_cell BK11.out 1).trans rfl; clear hfzgb11_1; have hfzgb11_1 := blk_frozen BK11.out 1) | ((with_reducible refine gate_callee (f := 30) rfl ?_); refine goesL_ (some 118) rfl rfl Try.func30 (by kernel_rfl) rfl #[.slice Ao133 t130.length co133, .int .i64 1] rfl (by (try simp only [List.map_toArray, List.map_cons, List.map_nil]); first | done | rfl | (simp only [List.length_drop, List.length_take]; rfl)) ?_; refine Calls_args (show (#[.slice Ao133 t130.length co133, .int .i64 1] : Array Value) = #[.slice Ao133 t158.length co133, .int .i64 1] from by rw [HL133.out]) ?_; (with_reducible refine (laws_heldInt64S.calls k _ _ t158 1 t176 _ ?side1 ?side2 H22A.out).mono ?_); (case side1 => exact (Kd.R_reads' (by (with_reducible repeat (first | apply Kd.R_alloc | apply Kd.R_drewN | apply Kd.R_drew)); exact HO133.out)).2.2); (case side2 => exact capR HO133.out); rintro e w177 ⟨rfl, hd⟩; have hb := Drawn0.below hd; refine ⟨_, rfl, ?_⟩; have n0_ := Aside0.mk (Kd.S_below (by (with_reducible repeat (first | apply Kd.S_alloc | apply Kd.S_drewN | apply Kd.S_drew)); exact HO110.out) hb); have n1_ := Aside0.mk (Kd.R_below (by (with_reducible repeat (first | apply Kd.R_alloc | apply Kd.R_drewN | apply Kd.R_drew)); exact HO114.out) hb); have n2_ := Aside0.mk (Kd.R_below (by (with_reducible repeat (first | apply Kd.R_alloc | apply Kd.R_drewN | apply Kd.R_drew)); exact HO118.out) hb); have n3_ := Aside0.mk (Kd.S_below (by (with_reducible repeat (first | apply Kd.S_alloc | apply Kd.S_drewN | apply Kd.S_drew)); exact HO121.out) hb); have n4_ := Aside0.mk (Kd.R_below (by (with_reducible repeat (first | apply Kd.R_alloc | apply Kd.R_drewN | apply Kd.R_drew)); exact HO127.out) hb); have n5_ := Aside0.mk (Kd.R_below (by (with_reducible repeat (first | apply Kd.R_alloc | apply Kd.R_drewN | apply Kd.R_drew)); exact HO133.out) hb); have n6_ := Aside0.mk (Kd.S_below (by (with_reducible repeat (first | apply Kd.S_alloc | apply Kd.S_drewN | apply Kd.S_drew)); exact HO139.out) hb); have n7_ := Aside0.mk (Kd.R_below (by (with_reducible repeat (first | apply Kd.R_alloc | apply Kd.R_drewN | apply Kd.R_drew)); exact HO146.out) hb); have n8_ := Aside0.mk (Kd.S_below (by (with_reducible repeat (first | apply Kd.S_alloc | apply Kd.S_drewN | apply Kd.S_drew)); exact HO165.out) hb); have n9_ := Aside0.mk (Kd.R_below (by (with_reducible repeat (first | apply Kd.R_alloc | apply Kd.R_drewN | apply Kd.R_drew)); exact HO169.out) hb); have n10_ := Aside0.mk (Kd.R_below (by (with_reducible repeat (first | apply Kd.R_alloc | apply Kd.R_drewN | apply Kd.R_drew)); exact HO173.out) hb); have n11_ := Aside0.mk (blk_below (g := gb3) (o := .cells #[.slice A0_0 l0_0.length c0_0] 24 (0, 0)) (by (with_reducible repeat (first | refine blk_drewN ?_ _ | refine blk_drew ?_ | refine blk_alloc ?_ _)); exact BK3.out) hb); have n12_ := Aside0.mk (blk_below (g := gb4) (o := .cells #[.int .i64 a1_0, .slice A1_1 l1_1.length c1_1] 27 (0, 0)) (by (with_reducible repeat (first | refine blk_drewN ?_ _ | refine blk_drew ?_ | refine blk_alloc ?_ _)); exact BK4.out) hb); have n13_ := Aside0.mk (blk_below (g := gb10) (o := .cells #[.slice Ao121 t119.length co121] 32 (0, 0)) (by (with_reducible repeat (first | refine blk_drewN ?_ _ | refine blk_drew ?_ | refine blk_alloc ?_ _)); exact BK10.out) hb); have n14_ := Aside0.mk (blk_below (g := gb11) (o := .cells #[.int .i64 t124, .slice Ao127 t125.length co127] 34 (0, 0)) (by (with_reducible repeat (first | refine blk_drewN ?_ _ | refine blk_drew ?_ | refine blk_alloc ?_ _)); exact BK11.out) hb); have n15_ := Aside0.mk (below_step (by repeat (first | (with_reducible first | exact HB.out | apply below_alloc | apply pw_below_drewN | apply below_drew1) | exact HB.out)) hb); have n16_ := Aside0.mk (Nat.le_trans (by repeat (first | (with_reducible first | exact HN.out | apply sz_alloc | apply sz_drewN | apply sz_drew) | exact HN.out)) hb.size); clear HO110; clear HO114; clear HO118; clear HO121; clear HO127; clear HO133; clear HO139; clear HO146; clear HO165; clear HO169; clear HO173; clear BK3; clear BK4; clear BK10; clear BK11; clear HB; clear HN; have HO110 := n0_; have HO114 := n1_; have HO118 := n2_; have HO121 := n3_; have HO127 := n4_; have HO133 := n5_; have HO139 := n6_; have HO146 := n7_; have HO165 := n8_; have HO169 := n9_; have HO173 := n10_; have BK3 := n11_; have BK4 := n12_; have BK10 := n13_; have BK11 := n14_; have HB := n15_; have HN := n16_; clear n0_ n1_ n2_ n3_ n4_ n5_ n6_ n7_ n8_ n9_ n10_ n11_ n12_ n13_ n14_ n15_ n16_; clear hd hb; clear hczgb3_0; have hczgb3_0 : w177.cell? ⟨gb3, 0, none⟩ = some (.slice A0_0 l0_0.length c0_0) := (blk_cell BK3.out 0).trans rfl; clear hfzgb3_0; have hfzgb3_0 := blk_frozen BK3.out 0; clear hczgb4_0; have hczgb4_0 : w177.cell? ⟨gb4, 0, none⟩ = some (.int .i64 a1_0) := (blk_cell BK4.out 0).trans rfl; clear hfzgb4_0; have hfzgb4_0 := blk_frozen BK4.out 0; clear hczgb4_1; have hczgb4_1 : w177.cell? ⟨gb4, 1, none⟩ = some (.slice A1_1 l1_1.length c1_1) := (blk_cell BK4.out 1).trans rfl; clear hfzgb4_1; have hfzgb4_1 := blk_frozen BK4.out 1; clear hczgb10_0; have hczgb10_0 : w177.cell? ⟨gb10, 0, none⟩ = some (.slice Ao121 t119.length co121) := (blk_cell BK10.out 0).trans rfl; clear hfzgb10_0; have hfzgb10_0 := blk_frozen BK10.out 0; clear hczgb11_0; have hczgb11_0 : w177.cell? ⟨gb11, 0, none⟩ = some (.int .i64 t124) := (blk_cell BK11.out 0).trans rfl; clear hfzgb11_0; have hfzgb11_0 := blk_frozen BK11.out 0; clear hczgb11_1; have hczgb11_1 : w177.cell? ⟨gb11, 1, none⟩ = some (.slice Ao127 t125.length co127) := (blk_cell BK11.out 1).trans rfl; clear hfzgb11_1; have hfzgb11_1 := blk_frozen BK11.out 1))
   go_ret
   exact ⟨by first | rfl | (simp; done) | (simp [*]; done), (by repeat (first | (with_reducible first | exact HB.out | apply below_alloc | apply pw_below_drewN | apply below_drew1) | exact HB.out))⟩
end Go.Proofs.Ytfablaokggnioaa.Pa
