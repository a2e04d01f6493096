/- What the proof of the law PairProduct stands on, part 8: words, each Go function's Lean function, and that the Go code comes to its answers; no condition. (Packed by wip/myprint/pack.py out of what the kit's printer wrote, its words among it, partly by our patches of it, and out of texts of this session.) -/
import Derived.Test.YtfablaokggnioaaKPairProduct0
import Derived.Test.YtfablaokggnioaaKPairProduct1
import Derived.Test.YtfablaokggnioaaKPairProduct2
import Derived.Test.YtfablaokggnioaaKPairProduct3
import Derived.Test.YtfablaokggnioaaKPairProduct4
import Derived.Test.YtfablaokggnioaaKPairProduct5
import Derived.Test.YtfablaokggnioaaKPairProduct6
import Derived.Test.YtfablaokggnioaaKPairProduct7
namespace Go.Proofs.Ytfablaokggnioaa.Pa
open Go.RowKit Go.Proofs.YtfablaokggnioaaW.PrintWords Go.Proofs.YtfablaokggnioaaW.PrintLast Go.Proofs.YtfablaokggnioaaW.PrintMore
attribute [local go_sem] max2_int min2_int max_two min_two max_three min_three max_four min_four
set_option linter.unusedVariables false
set_option linter.unusedSimpArgs false
def laws_FnExactPairProduct.j0 : Nat → Bool → List (List Int) → Int → List Int → List (List Int) → Int → List Int → Option (Bool)
 | 0, _, _, _, _, _, _, _ => none
 | k + 1, x55, x271000, x272000, x272001, x287000, x292000, x292001 => if x55 = true then (some false) else ((laws_toGroup.f k x271000).bind fun t294 => ((laws_eqGroup.f k x287000 t294).bind fun t297 => (if t297 = true then ((laws_toModule.f k x272000 x272001).bind fun bt298 => ((laws_eqModule.f k x292000 x292001 bt298.1 bt298.2).bind fun t302 => (if t302 = true then (some true) else (some false)))) else (some false))))
def laws_FnExactPairProduct.f (k : Nat) (l0_0 : List (List Int)) (a1_0 : Int) (l1_1 : List Int) (a2 : Int) (a3 : Int) : Option (Bool) := (laws_szGroup.f k l0_0 1048576).bind fun t272 => (if t272 < 0 then (some true) else ((laws_szModule.f a1_0 l1_1 t272).bind fun t273 => (if t273 < 0 then (some true) else ((laws_toGroup.f k l0_0).bind fun t274 => ((laws_toModule.f k a1_0 l1_1).bind fun bt277 => ((spec_PairProduct.f k t274 bt277.1 bt277.2 a2 a3).bind fun bt281 => ((laws_toGroup.f k l0_0).bind fun t283 => ((laws_toModule.f k a1_0 l1_1).bind fun bt287 => ((impl_PairProduct.f k t283 bt287.1 bt287.2 a2 a3).bind fun bt292 => (if bt292.1 = bt281.1 then (laws_FnExactPairProduct.j0 k (bt292.2 != bt281.2) l0_0 a1_0 l1_1 t283 bt287.1 bt287.2) else (laws_FnExactPairProduct.j0 k true l0_0 a1_0 l1_1 t283 bt287.1 bt287.2)))))))))))
def laws_FnExactPairProduct.T8 : Bool × List (List Nat × List Nat) := (true, [([], []), ([0], [0]), ([], []), ([2, 1], [2]), ([], []), ([], []), ([1, 3, 4, 5, 3], [1, 3, 4, 5]), ([6], [6]), ([7], [7]), ([7], [7]), ([8, 6, 0, 1, 2, 3, 4, 5, 6, 7, 8], [8]), ([9, 10, 0, 1, 2, 3, 4, 5, 6, 7, 8, 9, 10], [9])])
def laws_FnExactPairProduct.B8 : List Nat := [0, 1, 0, 7, 0, 0, 63, 127, 255, 255, 511, 2047]
theorem laws_FnExactPairProduct.tab8 : rtab .any (opsOf Try.f3 8) = laws_FnExactPairProduct.T8 := by kernel_rfl
theorem laws_FnExactPairProduct.bits8 : waitsOk laws_FnExactPairProduct.T8.2 laws_FnExactPairProduct.B8 = true := by kernel_rfl
set_option maxHeartbeats 8000000 in
set_option maxRecDepth 100000 in
theorem laws_FnExactPairProduct.calls (k : Nat) (A0_0 : Option Addr) (c0_0 : Nat) (l0_0 : List (List Int)) (a1_0 : Int) (A1_1 : Option Addr) (c1_1 : Nat) (l1_1 : List Int) (a2 : Int) (a3 : Int) (r : Bool) (w : World) (hr0_0 : Kd.C (Kd.slice 2 (Kd.int .i64)) w A0_0 l0_0.length l0_0) (hc0_0 : l0_0.length ≤ c0_0) (hr1_1 : Kd.C (Kd.int .i64) w A1_1 l1_1.length l1_1) (hc1_1 : l1_1.length ≤ c1_1) (h : laws_FnExactPairProduct.f k l0_0 a1_0 l1_1 a2 a3 = some r) :
  Calls Try.prog 3 #[.agg #[.slice A0_0 l0_0.length c0_0], .agg #[.int .i64 a1_0, .slice A1_1 l1_1.length c1_1], .int .i64 a2, .int .i64 a3] w fun e w' => e = .returned (.bool r) ∧ Below w.heap.size w w' := by
 have hu24 := Try.underlying24
 have hu27 := Try.underlying27
 have hu32 := Try.underlying32
 have hu34 := Try.underlying34
 have HR0_0 := Aside0.mk hr0_0
 have HC0_0 := Aside0.mk hc0_0
 clear hr0_0 hc0_0
 have HR1_1 := Aside0.mk hr1_1
 have HC1_1 := Aside0.mk hc1_1
 clear hr1_1 hc1_1
 have HB := Aside0.mk (Below.refl w.heap.size w)
 have H : ((laws_szGroup.f k l0_0 1048576).bind fun t272 => (if t272 < 0 then (some true) else ((laws_szModule.f a1_0 l1_1 t272).bind fun t273 => (if t273 < 0 then (some true) else ((laws_toGroup.f k l0_0).bind fun t274 => ((laws_toModule.f k a1_0 l1_1).bind fun bt277 => ((spec_PairProduct.f k t274 bt277.1 bt277.2 a2 a3).bind fun bt281 => ((laws_toGroup.f k l0_0).bind fun t283 => ((laws_toModule.f k a1_0 l1_1).bind fun bt287 => ((impl_PairProduct.f k t283 bt287.1 bt287.2 a2 a3).bind fun bt292 => (if bt292.1 = bt281.1 then (laws_FnExactPairProduct.j0 k (bt292.2 != bt281.2) l0_0 a1_0 l1_1 t283 bt287.1 bt287.2) else (laws_FnExactPairProduct.j0 k true l0_0 a1_0 l1_1 t283 bt287.1 bt287.2)))))))))))) = some r := h
 clear h
 replace H := Option.bind_eq_some_iff.mp H
 obtain ⟨t272, A50, H⟩ := H
 replace H : (if t272 < 0 then (some true) else ((laws_szModule.f a1_0 l1_1 t272).bind fun t273 => (if t273 < 0 then (some true) else ((laws_toGroup.f k l0_0).bind fun t274 => ((laws_toModule.f k a1_0 l1_1).bind fun bt277 => ((spec_PairProduct.f k t274 bt277.1 bt277.2 a2 a3).bind fun bt281 => ((laws_toGroup.f k l0_0).bind fun t283 => ((laws_toModule.f k a1_0 l1_1).bind fun bt287 => ((impl_PairProduct.f k t283 bt287.1 bt287.2 a2 a3).bind fun bt292 => (if bt292.1 = bt281.1 then (laws_FnExactPairProduct.j0 k (bt292.2 != bt281.2) l0_0 a1_0 l1_1 t283 bt287.1 bt287.2) else (laws_FnExactPairProduct.j0 k true l0_0 a1_0 l1_1 t283 bt287.1 bt287.2))))))))))) = some r := H
 have A5 := Aside0.mk A50
 clear A50
 by_cases c6 : t272 < 0
 ·
  rw [if_pos c6] at H
  have c6b0 : decide (t272 < 0) = true := decide_eq_true c6
  clear c6
  obtain rfl := Option.some.inj H
  go_enter Try.func3, Try.ntmps3
  go_wp2_with (first | ((with_reducible refine gate_dst (N := 4) rfl ?_); refine box_event ?hg (N := 4) ?hd (cs := #[.slice A0_0 l0_0.length c0_0]) (t := 24) ?hr ?_; (case hd => rfl); (case hg => rfl); (case hr => first | (go_simp; done) | (go_simp; rfl)); intro gb270 hg w7 hbox hb; have n0_ := Aside0.mk (below_step (by repeat (first | (with_reducible first | exact HB.out | apply below_alloc | apply pw_below_drewN | apply below_drew1) | exact HB.out)) hb); have n1_ := Aside0.mk (hbox); have n2_ := Aside0.mk ((by rw [hg]; exact (below_size (by repeat (first | (with_reducible first | exact HB.out | apply below_alloc | apply pw_below_drewN | apply below_drew1) | exact HB.out))) : w.heap.size ≤ gb270)); have n3_ := Aside0.mk ((by rw [hg]; exact (below_size (by repeat (first | (with_reducible first | exact HB.out | apply below_alloc | apply pw_below_drewN | apply below_drew1) | exact HB.out))) : w.heap.size ≤ gb270)); clear HB; have HB := n0_; have BK270 := n1_; have GW270 := n2_; have GE270 := n3_; clear n0_ n1_ n2_ n3_; clear hb hbox hg) | ((with_reducible refine gate_dst (N := 5) rfl ?_); refine box_event ?hg (N := 5) ?hd (cs := #[.int .i64 a1_0, .slice A1_1 l1_1.length c1_1]) (t := 27) ?hr ?_; (case hd => rfl); (case hg => rfl); (case hr => first | (go_simp; done) | (go_simp; rfl)); intro gb271 hg w8 hbox hb; have n0_ := Aside0.mk (blk_below (g := gb270) (o := .cells #[.slice A0_0 l0_0.length c0_0] 24 (0, 0)) (by (with_reducible repeat (first | refine blk_drewN ?_ _ | refine blk_drew ?_ | refine blk_alloc ?_ _)); exact BK270.out) hb); have n1_ := Aside0.mk (below_step (by repeat (first | (with_reducible first | exact HB.out | apply below_alloc | apply pw_below_drewN | apply below_drew1 | refine below_set ?_ GE270.out) | exact HB.out)) hb); have n2_ := Aside0.mk (hbox); have n3_ := Aside0.mk ((by rw [hg]; exact (below_size (by repeat (first | (with_reducible first | exact HB.out | apply below_alloc | apply pw_below_drewN | apply below_drew1 | refine below_set ?_ GE270.out) | exact HB.out))) : w.heap.size ≤ gb271)); have n4_ := Aside0.mk ((by rw [hg]; exact (below_size (by repeat (first | (with_reducible first | exact HB.out | apply below_alloc | apply pw_below_drewN | apply below_drew1 | refine below_set ?_ GE270.out) | exact HB.out))) : w.heap.size ≤ gb271)); have n5_ := Aside0.mk ((by rw [hg]; exact Nat.ne_of_lt (blk_lt (g := gb270) (o := .cells #[.slice A0_0 l0_0.length c0_0] 24 (0, 0)) (by (with_reducible repeat (first | refine blk_drewN ?_ _ | refine blk_drew ?_ | refine blk_alloc ?_ _)); exact BK270.out)) : gb270 ≠ gb271)); have n6_ := Aside0.mk ((by rw [hg]; exact Nat.ne_of_gt (blk_lt (g := gb270) (o := .cells #[.slice A0_0 l0_0.length c0_0] 24 (0, 0)) (by (with_reducible repeat (first | refine blk_drewN ?_ _ | refine blk_drew ?_ | refine blk_alloc ?_ _)); exact BK270.out)) : gb271 ≠ gb270)); clear BK270; clear HB; have BK270 := n0_; have HB := n1_; have BK271 := n2_; have GW271 := n3_; have GE271 := n4_; have NB270_271 := n5_; have NB271_270 := n6_; clear n0_ n1_ n2_ n3_ n4_ n5_ n6_; clear hb hbox hg; have hnb9 := NB270_271.out; have hnc9 := NB271_270.out; have hcz10_0 : w8.cell? ⟨gb270, 0, none⟩ = some (.slice A0_0 l0_0.length c0_0) := (blk_cell BK270.out 0).trans rfl; have hfz10_0 := blk_frozen BK270.out 0) | ((with_reducible refine gate_callee (f := 9) rfl ?_); refine goesL_ (some 18) rfl rfl Try.func9 (by kernel_rfl) rfl #[.agg #[.slice A0_0 l0_0.length c0_0], .int .i64 1048576] rfl (by (try simp only [List.map_toArray, List.map_cons, List.map_nil]); first | done | rfl | (simp only [List.length_drop, List.length_take]; rfl)) ?_; (with_reducible refine (laws_szGroup.calls k _ _ l0_0 1048576 t272 _ ?side1 ?side2 A5.out).mono ?_); (case side1 => repeat (first | exact (Kd.C_below HR0_0.out HB.out) | (with_reducible refine Kd.C_alloc ?_ _) | (with_reducible refine Kd.C_drewN ?_ _) | (with_reducible refine Kd.C_drew ?_))); (case side2 => exact HC0_0.out); rintro e w11 ⟨rfl, hb⟩; refine ⟨_, rfl, ?_⟩; have n0_ := Aside0.mk (blk_below (g := gb270) (o := .cells #[.slice A0_0 l0_0.length c0_0] 24 (0, 0)) (by (with_reducible repeat (first | refine blk_drewN ?_ _ | refine blk_drew ?_ | refine blk_alloc ?_ _)); exact BK270.out) hb); have n1_ := Aside0.mk (blk_below (g := gb271) (o := .cells #[.int .i64 a1_0, .slice A1_1 l1_1.length c1_1] 27 (0, 0)) (by (with_reducible repeat (first | refine blk_drewN ?_ _ | refine blk_drew ?_ | refine blk_alloc ?_ _)); exact BK271.out) hb); have n2_ := Aside0.mk (below_step (by repeat (first | (with_reducible first | exact HB.out | apply below_alloc | apply pw_below_drewN | apply below_drew1 | refine below_set ?_ GE270.out | refine below_set ?_ GE271.out) | exact HB.out)) hb); clear BK270; clear BK271; clear HB; have BK270 := n0_; have BK271 := n1_; have HB := n2_; clear n0_ n1_ n2_; (try clear hb); (try clear hb2); (try clear hk); (try clear hi)))
  go_ret
  exact ⟨by first | rfl | (simp [errW_none, errW_some] <;> rfl) | (simp [*, errW_none, errW_some] <;> rfl), by repeat (first | (with_reducible first | exact HB.out | apply below_alloc | apply pw_below_drewN | apply below_drew1 | refine below_set ?_ GE270.out | refine below_set ?_ GE271.out) | exact HB.out)⟩
 ·
  rw [if_neg c6] at H
  have c6b0 : decide (t272 < 0) = false := decide_eq_false c6
  clear c6
  replace H := Option.bind_eq_some_iff.mp H
  obtain ⟨t273, A120, H⟩ := H
  replace H : (if t273 < 0 then (some true) else ((laws_toGroup.f k l0_0).bind fun t274 => ((laws_toModule.f k a1_0 l1_1).bind fun bt277 => ((spec_PairProduct.f k t274 bt277.1 bt277.2 a2 a3).bind fun bt281 => ((laws_toGroup.f k l0_0).bind fun t283 => ((laws_toModule.f k a1_0 l1_1).bind fun bt287 => ((impl_PairProduct.f k t283 bt287.1 bt287.2 a2 a3).bind fun bt292 => (if bt292.1 = bt281.1 then (laws_FnExactPairProduct.j0 k (bt292.2 != bt281.2) l0_0 a1_0 l1_1 t283 bt287.1 bt287.2) else (laws_FnExactPairProduct.j0 k true l0_0 a1_0 l1_1 t283 bt287.1 bt287.2))))))))) = some r := H
  have A12 := Aside0.mk A120
  clear A120
  by_cases c13 : t273 < 0
  ·
   rw [if_pos c13] at H
   have c13b0 : decide (t273 < 0) = true := decide_eq_true c13
   clear c13
   obtain rfl := Option.some.inj H
   go_enter Try.func3, Try.ntmps3
   go_wp2_with (first | ((with_reducible refine gate_dst (N := 4) rfl ?_); refine box_event ?hg (N := 4) ?hd (cs := #[.slice A0_0 l0_0.length c0_0]) (t := 24) ?hr ?_; (case hd => rfl); (case hg => rfl); (case hr => first | (go_simp; done) | (go_simp; rfl)); intro gb270 hg w14 hbox hb; have n0_ := Aside0.mk (below_step (by repeat (first | (with_reducible first | exact HB.out | apply below_alloc | apply pw_below_drewN | apply below_drew1) | exact HB.out)) hb); have n1_ := Aside0.mk (hbox); have n2_ := Aside0.mk ((by rw [hg]; exact (below_size (by repeat (first | (with_reducible first | exact HB.out | apply below_alloc | apply pw_below_drewN | apply below_drew1) | exact HB.out))) : w.heap.size ≤ gb270)); have n3_ := Aside0.mk ((by rw [hg]; exact (below_size (by repeat (first | (with_reducible first | exact HB.out | apply below_alloc | apply pw_below_drewN | apply below_drew1) | exact HB.out))) : w.heap.size ≤ gb270)); clear HB; have HB := n0_; have BK270 := n1_; have GW270 := n2_; have GE270 := n3_; clear n0_ n1_ n2_ n3_; clear hb hbox hg) | ((with_reducible refine gate_dst (N := 5) rfl ?_); refine box_event ?hg (N := 5) ?hd (cs := #[.int .i64 a1_0, .slice A1_1 l1_1.length c1_1]) (t := 27) ?hr ?_; (case hd => rfl); (case hg => rfl); (case hr => first | (go_simp; done) | (go_simp; rfl)); intro gb271 hg w15 hbox hb; have n0_ := Aside0.mk (blk_below (g := gb270) (o := .cells #[.slice A0_0 l0_0.length c0_0] 24 (0, 0)) (by (with_reducible repeat (first | refine blk_drewN ?_ _ | refine blk_drew ?_ | refine blk_alloc ?_ _)); exact BK270.out) hb); have n1_ := Aside0.mk (below_step (by repeat (first | (with_reducible first | exact HB.out | apply below_alloc | apply pw_below_drewN | apply below_drew1 | refine below_set ?_ GE270.out) | exact HB.out)) hb); have n2_ := Aside0.mk (hbox); have n3_ := Aside0.mk ((by rw [hg]; exact (below_size (by repeat (first | (with_reducible first | exact HB.out | apply below_alloc | apply pw_below_drewN | apply below_drew1 | refine below_set ?_ GE270.out) | exact HB.out))) : w.heap.size ≤ gb271)); have n4_ := Aside0.mk ((by rw [hg]; exact (below_size (by repeat (first | (with_reducible first | exact HB.out | apply below_alloc | apply pw_below_drewN | apply below_drew1 | refine below_set ?_ GE270.out) | exact HB.out))) : w.heap.size ≤ gb271)); have n5_ := Aside0.mk ((by rw [hg]; exact Nat.ne_of_lt (blk_lt (g := gb270) (o := .cells #[.slice A0_0 l0_0.length c0_0] 24 (0, 0)) (by (with_reducible repeat (first | refine blk_drewN ?_ _ | refine blk_drew ?_ | refine blk_alloc ?_ _)); exact BK270.out)) : gb270 ≠ gb271)); have n6_ := Aside0.mk ((by rw [hg]; exact Nat.ne_of_gt (blk_lt (g := gb270) (o := .cells #[.slice A0_0 l0_0.length c0_0] 24 (0, 0)) (by (with_reducible repeat (first | refine blk_drewN ?_ _ | refine blk_drew ?_ | refine blk_alloc ?_ _)); exact BK270.out)) : gb271 ≠ gb270)); clear BK270; clear HB; have BK270 := n0_; have HB := n1_; have BK271 := n2_; have GW271 := n3_; have GE271 := n4_; have NB270_271 := n5_; have NB271_270 := n6_; clear n0_ n1_ n2_ n3_ n4_ n5_ n6_; clear hb hbox hg; have hnb16 := NB270_271.out; have hnc16 := NB271_270.out; have hcz17_0 : w15.cell? ⟨gb270, 0, none⟩ = some (.slice A0_0 l0_0.length c0_0) := (blk_cell BK270.out 0).trans rfl; have hfz17_0 := blk_frozen BK270.out 0) | ((with_reducible refine gate_callee (f := 9) rfl ?_); refine goesL_ (some 18) rfl rfl Try.func9 (by kernel_rfl) rfl #[.agg #[.slice A0_0 l0_0.length c0_0], .int .i64 1048576] rfl (by (try simp only [List.map_toArray, List.map_cons, List.map_nil]); first | done | rfl | (simp only [List.length_drop, List.length_take]; rfl)) ?_; (with_reducible refine (laws_szGroup.calls k _ _ l0_0 1048576 t272 _ ?side1 ?side2 A5.out).mono ?_); (case side1 => repeat (first | exact (Kd.C_below HR0_0.out HB.out) | (with_reducible refine Kd.C_alloc ?_ _) | (with_reducible refine Kd.C_drewN ?_ _) | (with_reducible refine Kd.C_drew ?_))); (case side2 => exact HC0_0.out); rintro e w18 ⟨rfl, hb⟩; refine ⟨_, rfl, ?_⟩; have n0_ := Aside0.mk (blk_below (g := gb270) (o := .cells #[.slice A0_0 l0_0.length c0_0] 24 (0, 0)) (by (with_reducible repeat (first | refine blk_drewN ?_ _ | refine blk_drew ?_ | refine blk_alloc ?_ _)); exact BK270.out) hb); have n1_ := Aside0.mk (blk_below (g := gb271) (o := .cells #[.int .i64 a1_0, .slice A1_1 l1_1.length c1_1] 27 (0, 0)) (by (with_reducible repeat (first | refine blk_drewN ?_ _ | refine blk_drew ?_ | refine blk_alloc ?_ _)); exact BK271.out) hb); have n2_ := Aside0.mk (below_step (by repeat (first | (with_reducible first | exact HB.out | apply below_alloc | apply pw_below_drewN | apply below_drew1 | refine below_set ?_ GE270.out | refine below_set ?_ GE271.out) | exact HB.out)) hb); clear BK270; clear BK271; clear HB; have BK270 := n0_; have BK271 := n1_; have HB := n2_; clear n0_ n1_ n2_; (try clear hb); (try clear hb2); (try clear hk); (try clear hi); have hcz19_0 : w18.cell? ⟨gb271, 0, none⟩ = some (.int .i64 a1_0) := (blk_cell BK271.out 0).trans rfl; have hcz19_1 : w18.cell? ⟨gb271, 1, none⟩ = some (.slice A1_1 l1_1.length c1_1) := (blk_cell BK271.out 1).trans rfl; have hfz19_0 := blk_frozen BK271.out 0; have hfz19_1 := blk_frozen BK271.out 1) | ((with_reducible refine gate_callee (f := 10) rfl ?_); refine goesL_ (some 23) rfl rfl Try.func10 (by kernel_rfl) rfl #[.agg #[.int .i64 a1_0, .slice A1_1 l1_1.length c1_1], .int .i64 t272] rfl (by (try simp only [List.map_toArray, List.map_cons, List.map_nil]); first | done | rfl | (simp only [List.length_drop, List.length_take]; rfl)) ?_; (with_reducible refine (laws_szModule.calls a1_0 _ _ l1_1 t272 t273 _ ?side1 ?side2 A12.out).mono ?_); (case side1 => repeat (first | exact (Kd.C_below HR1_1.out HB.out) | (with_reducible refine Kd.C_alloc ?_ _) | (with_reducible refine Kd.C_drewN ?_ _) | (with_reducible refine Kd.C_drew ?_))); (case side2 => exact HC1_1.out); rintro e w20 ⟨rfl, hb⟩; refine ⟨_, rfl, ?_⟩; have n0_ := Aside0.mk (blk_below (g := gb270) (o := .cells #[.slice A0_0 l0_0.length c0_0] 24 (0, 0)) (by (with_reducible repeat (first | refine blk_drewN ?_ _ | refine blk_drew ?_ | refine blk_alloc ?_ _)); exact BK270.out) hb); have n1_ := Aside0.mk (blk_below (g := gb271) (o := .cells #[.int .i64 a1_0, .slice A1_1 l1_1.length c1_1] 27 (0, 0)) (by (with_reducible repeat (first | refine blk_drewN ?_ _ | refine blk_drew ?_ | refine blk_alloc ?_ _)); exact BK271.out) hb); have n2_ := Aside0.mk (below_step (by repeat (first | (with_reducible first | exact HB.out | apply below_alloc | apply pw_below_drewN | apply below_drew1 | refine below_set ?_ GE270.out | refine below_set ?_ GE271.out) | exact HB.out)) hb); clear BK270; clear BK271; clear HB; have BK270 := n0_; have BK271 := n1_; have HB := n2_; clear n0_ n1_ n2_; (try clear hb); (try clear hb2); (try clear hk); (try clear hi)))
   go_ret
   exact ⟨by first | rfl | (simp [errW_none, errW_some] <;> rfl) | (simp [*, errW_none, errW_some] <;> rfl), by repeat (first | (with_reducible first | exact HB.out | apply below_alloc | apply pw_below_drewN | apply below_drew1 | refine below_set ?_ GE270.out | refine below_set ?_ GE271.out) | exact HB.out)⟩
  ·
   rw [if_neg c13] at H
   have c13b0 : decide (t273 < 0) = false := decide_eq_false c13
   clear c13
   replace H := Option.bind_eq_some_iff.mp H
   obtain ⟨t274, A210, H⟩ := H
   replace H : ((laws_toModule.f k a1_0 l1_1).bind fun bt277 => ((spec_PairProduct.f k t274 bt277.1 bt277.2 a2 a3).bind fun bt281 => ((laws_toGroup.f k l0_0).bind fun t283 => ((laws_toModule.f k a1_0 l1_1).bind fun bt287 => ((impl_PairProduct.f k t283 bt287.1 bt287.2 a2 a3).bind fun bt292 => (if bt292.1 = bt281.1 then (laws_FnExactPairProduct.j0 k (bt292.2 != bt281.2) l0_0 a1_0 l1_1 t283 bt287.1 bt287.2) else (laws_FnExactPairProduct.j0 k true l0_0 a1_0 l1_1 t283 bt287.1 bt287.2))))))) = some r := H
   have A21 := Aside0.mk A210
   clear A210
   replace H := Option.bind_eq_some_iff.mp H
   obtain ⟨⟨t277, t278⟩, A220, H⟩ := H
   replace H : ((spec_PairProduct.f k t274 t277 t278 a2 a3).bind fun bt281 => ((laws_toGroup.f k l0_0).bind fun t283 => ((laws_toModule.f k a1_0 l1_1).bind fun bt287 => ((impl_PairProduct.f k t283 bt287.1 bt287.2 a2 a3).bind fun bt292 => (if bt292.1 = bt281.1 then (laws_FnExactPairProduct.j0 k (bt292.2 != bt281.2) l0_0 a1_0 l1_1 t283 bt287.1 bt287.2) else (laws_FnExactPairProduct.j0 k true l0_0 a1_0 l1_1 t283 bt287.1 bt287.2)))))) = some r := H
   have A22 := Aside0.mk A220
   clear A220
   replace H := Option.bind_eq_some_iff.mp H
   obtain ⟨⟨t281, t282⟩, A230, H⟩ := H
   replace H : ((laws_toGroup.f k l0_0).bind fun t283 => ((laws_toModule.f k a1_0 l1_1).bind fun bt287 => ((impl_PairProduct.f k t283 bt287.1 bt287.2 a2 a3).bind fun bt292 => (if bt292.1 = t281 then (laws_FnExactPairProduct.j0 k (bt292.2 != t282) l0_0 a1_0 l1_1 t283 bt287.1 bt287.2) else (laws_FnExactPairProduct.j0 k true l0_0 a1_0 l1_1 t283 bt287.1 bt287.2))))) = some r := H
   have A23 := Aside0.mk A230
   clear A230
   replace H := Option.bind_eq_some_iff.mp H
   obtain ⟨t283, A240, H⟩ := H
   replace H : ((laws_toModule.f k a1_0 l1_1).bind fun bt287 => ((impl_PairProduct.f k t283 bt287.1 bt287.2 a2 a3).bind fun bt292 => (if bt292.1 = t281 then (laws_FnExactPairProduct.j0 k (bt292.2 != t282) l0_0 a1_0 l1_1 t283 bt287.1 bt287.2) else (laws_FnExactPairProduct.j0 k true l0_0 a1_0 l1_1 t283 bt287.1 bt287.2)))) = some r := H
   have A24 := Aside0.mk A240
   clear A240
   replace H := Option.bind_eq_some_iff.mp H
   obtain ⟨⟨t287, t288⟩, A250, H⟩ := H
   replace H : ((impl_PairProduct.f k t283 t287 t288 a2 a3).bind fun bt292 => (if bt292.1 = t281 then (laws_FnExactPairProduct.j0 k (bt292.2 != t282) l0_0 a1_0 l1_1 t283 t287 t288) else (laws_FnExactPairProduct.j0 k true l0_0 a1_0 l1_1 t283 t287 t288))) = some r := H
   have A25 := Aside0.mk A250
   clear A250
   replace H := Option.bind_eq_some_iff.mp H
   obtain ⟨⟨t292, t293⟩, A260, H⟩ := H
   replace H : (if t292 = t281 then (laws_FnExactPairProduct.j0 k (t293 != t282) l0_0 a1_0 l1_1 t283 t287 t288) else (laws_FnExactPairProduct.j0 k true l0_0 a1_0 l1_1 t283 t287 t288)) = some r := H
   have A26 := Aside0.mk A260
   clear A260
   have HC27 := Aside0.mk H
   clear H
   go_enter Try.func3, Try.ntmps3
   try go_wp2_with (first | ((with_reducible refine gate_dst (N := 4) rfl ?_); refine box_event ?hg (N := 4) ?hd (cs := #[.slice A0_0 l0_0.length c0_0]) (t := 24) ?hr ?_; (case hd => rfl); (case hg => rfl); (case hr => first | (go_simp; done) | (go_simp; rfl)); intro gb270 hg w28 hbox hb; have n0_ := Aside0.mk (below_step (by repeat (first | (with_reducible first | exact HB.out | apply below_alloc | apply pw_below_drewN | apply below_drew1) | exact HB.out)) hb); have n1_ := Aside0.mk (hbox); have n2_ := Aside0.mk ((by rw [hg]; exact (below_size (by repeat (first | (with_reducible first | exact HB.out | apply below_alloc | apply pw_below_drewN | apply below_drew1) | exact HB.out))) : w.heap.size ≤ gb270)); have n3_ := Aside0.mk ((by rw [hg]; exact (below_size (by repeat (first | (with_reducible first | exact HB.out | apply below_alloc | apply pw_below_drewN | apply below_drew1) | exact HB.out))) : w.heap.size ≤ gb270)); clear HB; have HB := n0_; have BK270 := n1_; have GW270 := n2_; have GE270 := n3_; clear n0_ n1_ n2_ n3_; clear hb hbox hg) | ((with_reducible refine gate_dst (N := 5) rfl ?_); refine box_event ?hg (N := 5) ?hd (cs := #[.int .i64 a1_0, .slice A1_1 l1_1.length c1_1]) (t := 27) ?hr ?_; (case hd => rfl); (case hg => rfl); (case hr => first | (go_simp; done) | (go_simp; rfl)); intro gb271 hg w29 hbox hb; have n0_ := Aside0.mk (blk_below (g := gb270) (o := .cells #[.slice A0_0 l0_0.length c0_0] 24 (0, 0)) (by (with_reducible repeat (first | refine blk_drewN ?_ _ | refine blk_drew ?_ | refine blk_alloc ?_ _)); exact BK270.out) hb); have n1_ := Aside0.mk (below_step (by repeat (first | (with_reducible first | exact HB.out | apply below_alloc | apply pw_below_drewN | apply below_drew1 | refine below_set ?_ GE270.out) | exact HB.out)) hb); have n2_ := Aside0.mk (hbox); have n3_ := Aside0.mk ((by rw [hg]; exact (below_size (by repeat (first | (with_reducible first | exact HB.out | apply below_alloc | apply pw_below_drewN | apply below_drew1 | refine below_set ?_ GE270.out) | exact HB.out))) : w.heap.size ≤ gb271)); have n4_ := Aside0.mk ((by rw [hg]; exact (below_size (by repeat (first | (with_reducible first | exact HB.out | apply below_alloc | apply pw_below_drewN | apply below_drew1 | refine below_set ?_ GE270.out) | exact HB.out))) : w.heap.size ≤ gb271)); have n5_ := Aside0.mk ((by rw [hg]; exact Nat.ne_of_lt (blk_lt (g := gb270) (o := .cells #[.slice A0_0 l0_0.length c0_0] 24 (0, 0)) (by (with_reducible repeat (first | refine blk_drewN ?_ _ | refine blk_drew ?_ | refine blk_alloc ?_ _)); exact BK270.out)) : gb270 ≠ gb271)); have n6_ := Aside0.mk ((by rw [hg]; exact Nat.ne_of_gt (blk_lt (g := gb270) (o := .cells #[.slice A0_0 l0_0.length c0_0] 24 (0, 0)) (by (with_reducible repeat (first | refine blk_drewN ?_ _ | refine blk_drew ?_ | refine blk_alloc ?_ _)); exact BK270.out)) : gb271 ≠ gb270)); clear BK270; clear HB; have BK270 := n0_; have HB := n1_; have BK271 := n2_; have GW271 := n3_; have GE271 := n4_; have NB270_271 := n5_; have NB271_270 := n6_; clear n0_ n1_ n2_ n3_ n4_ n5_ n6_; clear hb hbox hg; have hnb30 := NB270_271.out; have hnc30 := NB271_270.out; have hcz31_0 : w29.cell? ⟨gb270, 0, none⟩ = some (.slice A0_0 l0_0.length c0_0) := (blk_cell BK270.out 0).trans rfl; have hfz31_0 := blk_frozen BK270.out 0) | ((with_reducible refine gate_callee (f := 9) rfl ?_); refine goesL_ (some 18) rfl rfl Try.func9 (by kernel_rfl) rfl #[.agg #[.slice A0_0 l0_0.length c0_0], .int .i64 1048576] rfl (by (try simp only [List.map_toArray, List.map_cons, List.map_nil]); first | done | rfl | (simp only [List.length_drop, List.length_take]; rfl)) ?_; (with_reducible refine (laws_szGroup.calls k _ _ l0_0 1048576 t272 _ ?side1 ?side2 A5.out).mono ?_); (case side1 => repeat (first | exact (Kd.C_below HR0_0.out HB.out) | (with_reducible refine Kd.C_alloc ?_ _) | (with_reducible refine Kd.C_drewN ?_ _) | (with_reducible refine Kd.C_drew ?_))); (case side2 => exact HC0_0.out); rintro e w32 ⟨rfl, hb⟩; refine ⟨_, rfl, ?_⟩; have n0_ := Aside0.mk (blk_below (g := gb270) (o := .cells #[.slice A0_0 l0_0.length c0_0] 24 (0, 0)) (by (with_reducible repeat (first | refine blk_drewN ?_ _ | refine blk_drew ?_ | refine blk_alloc ?_ _)); exact BK270.out) hb); have n1_ := Aside0.mk (blk_below (g := gb271) (o := .cells #[.int .i64 a1_0, .slice A1_1 l1_1.length c1_1] 27 (0, 0)) (by (with_reducible repeat (first | refine blk_drewN ?_ _ | refine blk_drew ?_ | refine blk_alloc ?_ _)); exact BK271.out) hb); have n2_ := Aside0.mk (below_step (by repeat (first | (with_reducible first | exact HB.out | apply below_alloc | apply pw_below_drewN | apply below_drew1 | refine below_set ?_ GE270.out | refine below_set ?_ GE271.out) | exact HB.out)) hb); clear BK270; clear BK271; clear HB; have BK270 := n0_; have BK271 := n1_; have HB := n2_; clear n0_ n1_ n2_; (try clear hb); (try clear hb2); (try clear hk); (try clear hi); have hcz33_0 : w32.cell? ⟨gb271, 0, none⟩ = some (.int .i64 a1_0) := (blk_cell BK271.out 0).trans rfl; have hcz33_1 : w32.cell? ⟨gb271, 1, none⟩ = some (.slice A1_1 l1_1.length c1_1) := (blk_cell BK271.out 1).trans rfl; have hfz33_0 := blk_frozen BK271.out 0; have hfz33_1 := blk_frozen BK271.out 1) | ((with_reducible refine gate_callee (f := 10) rfl ?_); refine goesL_ (some 23) rfl rfl Try.func10 (by kernel_rfl) rfl #[.agg #[.int .i64 a1_0, .slice A1_1 l1_1.length c1_1], .int .i64 t272] rfl (by (try simp only [List.map_toArray, List.map_cons, List.map_nil]); first | done | rfl | (simp only [List.length_drop, List.length_take]; rfl)) ?_; (with_reducible refine (laws_szModule.calls a1_0 _ _ l1_1 t272 t273 _ ?side1 ?side2 A12.out).mono ?_); (case side1 => repeat (first | exact (Kd.C_below HR1_1.out HB.out) | (with_reducible refine Kd.C_alloc ?_ _) | (with_reducible refine Kd.C_drewN ?_ _) | (with_reducible refine Kd.C_drew ?_))); (case side2 => exact HC1_1.out); rintro e w34 ⟨rfl, hb⟩; refine ⟨_, rfl, ?_⟩; have n0_ := Aside0.mk (blk_below (g := gb270) (o := .cells #[.slice A0_0 l0_0.length c0_0] 24 (0, 0)) (by (with_reducible repeat (first | refine blk_drewN ?_ _ | refine blk_drew ?_ | refine blk_alloc ?_ _)); exact BK270.out) hb); have n1_ := Aside0.mk (blk_below (g := gb271) (o := .cells #[.int .i64 a1_0, .slice A1_1 l1_1.length c1_1] 27 (0, 0)) (by (with_reducible repeat (first | refine blk_drewN ?_ _ | refine blk_drew ?_ | refine blk_alloc ?_ _)); exact BK271.out) hb); have n2_ := Aside0.mk (below_step (by repeat (first | (with_reducible first | exact HB.out | apply below_alloc | apply pw_below_drewN | apply below_drew1 | refine below_set ?_ GE270.out | refine below_set ?_ GE271.out) | exact HB.out)) hb); clear BK270; clear BK271; clear HB; have BK270 := n0_; have BK271 := n1_; have HB := n2_; clear n0_ n1_ n2_; (try clear hb); (try clear hb2); (try clear hk); (try clear hi)))
   have n0_ := Aside0.mk (blk_drew BK270.out)
   have n1_ := Aside0.mk (blk_drew BK271.out)
   have n2_ := Aside0.mk (below_drew1 HB.out)
   clear BK270
   clear BK271
   clear HB
   have BK270 := n0_
   have BK271 := n1_
   have HB := n2_
   clear n0_ n1_ n2_
   refine start_ (n := 12) (S := fun w' => w'.cell? ⟨gb270, 0, none⟩ = some (.slice A0_0 l0_0.length c0_0) ∧ w'.cell? ⟨gb271, 0, none⟩ = some (.int .i64 a1_0) ∧ w'.cell? ⟨gb271, 1, none⟩ = some (.slice A1_1 l1_1.length c1_1)) (ds := []) #[false, false, false, false, false, false, false, false, false, false, false, false] (by kernel_rfl) rfl rfl ⟨(blk_cell BK270.out 0).trans rfl, (blk_cell BK271.out 0).trans rfl, (blk_cell BK271.out 1).trans rfl⟩ (fun hHeld => ?_); refine with_tabW laws_FnExactPairProduct.tab8 laws_FnExactPairProduct.bits8 (fun HT_ HW_ => ?_)
   generalize w34.drew = w35 at BK270 BK271 HB hHeld ⊢
   refine pure_ (i := 4) (N := some 31) (v := ?_) (a' := ?_) #[false, false, false, false, true, false, false, false, false, false, false, false] rfl rfl (any_of HT_.out (by kernel_rfl)) (fun _ _ _ h => h) (Or.inl ⟨by rfl, ?_⟩) ?_ ?_
   rotate_left
   ·
    intro w'
    go_simp
    with_reducible rfl
   rotate_left
   ·
    simp only [Act.put, List.setIfInBounds_toArray, List.set_cons_zero, List.set_cons_succ, i64_w, i32_w]
    rfl
   refine pure_ (i := 5) (N := some 32) (v := ?_) (a' := ?_) #[false, false, false, false, true, true, false, false, false, false, false, false] rfl rfl (any_of HT_.out (by kernel_rfl)) (fun _ _ _ h => h) (Or.inl ⟨by rfl, ?_⟩) ?_ ?_
   rotate_left
   ·
    intro w'
    go_simp
    with_reducible rfl
   rotate_left
   ·
    simp only [Act.put, List.setIfInBounds_toArray, List.set_cons_zero, List.set_cons_succ, i64_w, i32_w]
    rfl
   refine take_ (i := 0) (N := some 27) (v := ?_) (a' := ?_) #[true, false, false, false, true, true, false, false, false, false, false, false] rfl rfl (take_ofW HT_.out HW_.out (by kernel_rfl)) (fun _ _ _ h => h) (Or.inl ⟨by rfl, ?_⟩) hHeld ?_ ?_
   rotate_left
   ·
    rintro w' ⟨s0, s1, s2⟩
    go_simp
    with_reducible rfl
   rotate_left
   ·
    simp only [Act.put, List.setIfInBounds_toArray, List.set_cons_zero, List.set_cons_succ, i64_w, i32_w]
    rfl
   refine take_ (i := 2) (N := some 29) (v := ?_) (a' := ?_) #[true, false, true, false, true, true, false, false, false, false, false, false] rfl rfl (take_ofW HT_.out HW_.out (by kernel_rfl)) (fun _ _ _ h => h) (Or.inl ⟨by rfl, ?_⟩) hHeld ?_ ?_
   rotate_left
   ·
    rintro w' ⟨s0, s1, s2⟩
    go_simp
    with_reducible rfl
   rotate_left
   ·
    simp only [Act.put, List.setIfInBounds_toArray, List.set_cons_zero, List.set_cons_succ, i64_w, i32_w]
    rfl
   refine one_ (i := 1) (N := some 28) #[true, true, true, false, true, true, false, false, false, false, false, false] rfl rfl (one_of HT_.out (by kernel_rfl)) (by decide) (fun K hK => ?_)
   refine goes_ Try.func12 (by kernel_rfl) rfl #[.agg #[.slice A0_0 l0_0.length c0_0]] (by rfl) rfl rfl (by (try simp only [List.map_toArray, List.map_cons, List.map_nil]); first | done | rfl | (simp only [List.length_drop, List.length_take]; rfl)) ?_
   with_reducible refine (laws_toGroup.calls k _ _ l0_0 t274 _ ?side1 ?side2 A21.out).mono ?_
   (case side1 => repeat (first | exact (Kd.C_below HR0_0.out HB.out) | (with_reducible refine Kd.C_alloc ?_ _) | (with_reducible refine Kd.C_drewN ?_ _) | (with_reducible refine Kd.C_drew ?_)))
   (case side2 => exact HC0_0.out)
   rintro e w36 ⟨v275, rfl, ho0, hb⟩
   refine ⟨_, rfl, ?_⟩
   have n0_ := Aside0.mk (Kd.S_lower ho0 (below_size (by repeat (first | (with_reducible first | exact HB.out | apply below_alloc | apply pw_below_drewN | apply below_drew1 | refine below_set ?_ GE270.out | refine below_set ?_ GE271.out) | exact HB.out))))
   have n1_ := Aside0.mk (blk_below (g := gb270) (o := .cells #[.slice A0_0 l0_0.length c0_0] 24 (0, 0)) (by (with_reducible repeat (first | refine blk_drewN ?_ _ | refine blk_drew ?_ | refine blk_alloc ?_ _)); exact BK270.out) hb)
   have n2_ := Aside0.mk (blk_below (g := gb271) (o := .cells #[.int .i64 a1_0, .slice A1_1 l1_1.length c1_1] 27 (0, 0)) (by (with_reducible repeat (first | refine blk_drewN ?_ _ | refine blk_drew ?_ | refine blk_alloc ?_ _)); exact BK271.out) hb)
   have n3_ := Aside0.mk (below_step (by repeat (first | (with_reducible first | exact HB.out | apply below_alloc | apply pw_below_drewN | apply below_drew1 | refine below_set ?_ GE270.out | refine below_set ?_ GE271.out) | exact HB.out)) hb)
   clear BK270
   clear BK271
   clear HB
   have HO276 := n0_
   have BK270 := n1_
   have BK271 := n2_
   have HB := n3_
   clear n0_ n1_ n2_ n3_
   (try clear hb)
   (try clear hb2)
   (try clear hk)
   (try clear hi)
   (try clear ho0)
   refine hK.out _ _ ⟨(blk_cell BK270.out 0).trans rfl, (blk_cell BK271.out 0).trans rfl, (blk_cell BK271.out 1).trans rfl⟩ (fun hHeld => ?_)
   clear hK K
   refine norm_ (a' := ?_) ?_ ?_
   rotate_left
   ·
    show Act.put _ (some 28) _ = _
    simp only [Act.put, List.setIfInBounds_toArray, List.set_cons_zero, List.set_cons_succ, i64_w, i32_w]
    rfl
   refine one_ (i := 3) (N := some 30) #[true, true, true, true, true, true, false, false, false, false, false, false] rfl rfl (one_of HT_.out (by kernel_rfl)) (by decide) (fun K hK => ?_)
   refine goes_ Try.func13 (by kernel_rfl) rfl #[.agg #[.int .i64 a1_0, .slice A1_1 l1_1.length c1_1]] (by rfl) rfl rfl (by (try simp only [List.map_toArray, List.map_cons, List.map_nil]); first | done | rfl | (simp only [List.length_drop, List.length_take]; rfl)) ?_
   with_reducible refine (laws_toModule.calls k a1_0 _ _ l1_1 t277 t278 _ ?side1 ?side2 A22.out).mono ?_
   (case side1 => repeat (first | exact (Kd.C_below HR1_1.out HB.out) | (with_reducible refine Kd.C_alloc ?_ _) | (with_reducible refine Kd.C_drewN ?_ _) | (with_reducible refine Kd.C_drew ?_)))
   (case side2 => exact HC1_1.out)
   rintro e w37 ⟨v279, rfl, ho0, hb⟩
   refine ⟨_, rfl, ?_⟩
   have n0_ := Aside0.mk (Kd.S_elder' (by (with_reducible repeat (first | apply Kd.S_alloc | apply Kd.S_drewN | apply Kd.S_drew)); exact HO276.out) (Kd.R_base ho0) hb)
   have n1_ := Aside0.mk (Kd.R_lower ho0 (below_size (by repeat (first | (with_reducible first | exact HB.out | apply below_alloc | apply pw_below_drewN | apply below_drew1 | refine below_set ?_ GE270.out | refine below_set ?_ GE271.out) | exact HB.out))))
   have n2_ := Aside0.mk (blk_below (g := gb270) (o := .cells #[.slice A0_0 l0_0.length c0_0] 24 (0, 0)) (by (with_reducible repeat (first | refine blk_drewN ?_ _ | refine blk_drew ?_ | refine blk_alloc ?_ _)); exact BK270.out) hb)
   have n3_ := Aside0.mk (blk_below (g := gb271) (o := .cells #[.int .i64 a1_0, .slice A1_1 l1_1.length c1_1] 27 (0, 0)) (by (with_reducible repeat (first | refine blk_drewN ?_ _ | refine blk_drew ?_ | refine blk_alloc ?_ _)); exact BK271.out) hb)
   have n4_ := Aside0.mk (below_step (by repeat (first | (with_reducible first | exact HB.out | apply below_alloc | apply pw_below_drewN | apply below_drew1 | refine below_set ?_ GE270.out | refine below_set ?_ GE271.out) | exact HB.out)) hb)
   clear HO276
   clear BK270
   clear BK271
   clear HB
   have HO276 := n0_
   have HO280 := n1_
   have BK270 := n2_
   have BK271 := n3_
   have HB := n4_
   clear n0_ n1_ n2_ n3_ n4_
   (try clear hb)
   (try clear hb2)
   (try clear hk)
   (try clear hi)
   (try clear ho0)
   obtain ⟨Ao38, co38, eo38⟩ := Kd.S_slice HO276.out
   (first | subst eo38 | (injection eo38 with f1_ f2_ f3_; have f4_ := f1_.symm; have f5_ := f3_.symm; clear f1_ f2_ f3_; subst f4_; subst f5_))
   obtain ⟨Ao39, co39, eo39⟩ := Kd.R_slice HO280.out
   (first | subst eo39 | (injection eo39 with f1_ f2_ f3_; have f4_ := f1_.symm; have f5_ := f3_.symm; clear f1_ f2_ f3_; subst f4_; subst f5_))
   refine hK.out _ _ ⟨(blk_cell BK270.out 0).trans rfl, (blk_cell BK271.out 0).trans rfl, (blk_cell BK271.out 1).trans rfl⟩ (fun hHeld => ?_)
   clear hK K
   refine norm_ (a' := ?_) ?_ ?_
   rotate_left
   ·
    show Act.put _ (some 30) _ = _
    simp only [Act.put, List.setIfInBounds_toArray, List.set_cons_zero, List.set_cons_succ, i64_w, i32_w]
    rfl
   refine one_ (i := 6) (N := some 33) #[true, true, true, true, true, true, true, false, false, false, false, false] rfl rfl (one_of HT_.out (by kernel_rfl)) (by decide) (fun K hK => ?_)
   refine goes_ Try.func11 (by kernel_rfl) rfl #[.agg #[.slice Ao38 t274.length co38], .agg #[.int .i64 t277, .slice Ao39 t278.length co39], .int .i64 a2, .int .i64 a3] (by rfl) rfl rfl (by (try simp only [List.map_toArray, List.map_cons, List.map_nil]); first | done | rfl | (simp only [List.length_drop, List.length_take]; rfl)) ?_
   with_reducible refine (spec_PairProduct.calls k _ _ t274 t277 _ _ t278 a2 a3 t281 t282 _ ?side1 ?side2 ?side3 ?side4 A23.out).mono ?_
   (case side1 => repeat (first | exact (Kd.S_reads' HO276.out).2.2 | (with_reducible refine Kd.C_alloc ?_ _) | (with_reducible refine Kd.C_drewN ?_ _) | (with_reducible refine Kd.C_drew ?_)))
   (case side2 => exact (Kd.S_reads' HO276.out).2.1)
   (case side3 => repeat (first | exact (Kd.R_reads' HO280.out).2.2 | (with_reducible refine Kd.C_alloc ?_ _) | (with_reducible refine Kd.C_drewN ?_ _) | (with_reducible refine Kd.C_drew ?_)))
   (case side4 => exact (Kd.R_reads' HO280.out).2.1)
   rintro e w40 ⟨rfl, hb⟩
   refine ⟨_, rfl, ?_⟩
   have n0_ := Aside0.mk (Kd.S_below (by (with_reducible repeat (first | apply Kd.S_alloc | apply Kd.S_drewN | apply Kd.S_drew)); exact HO276.out) hb)
   have n1_ := Aside0.mk (Kd.R_below (by (with_reducible repeat (first | apply Kd.R_alloc | apply Kd.R_drewN | apply Kd.R_drew)); exact HO280.out) hb)
   have n2_ := Aside0.mk (blk_below (g := gb270) (o := .cells #[.slice A0_0 l0_0.length c0_0] 24 (0, 0)) (by (with_reducible repeat (first | refine blk_drewN ?_ _ | refine blk_drew ?_ | refine blk_alloc ?_ _)); exact BK270.out) hb)
   have n3_ := Aside0.mk (blk_below (g := gb271) (o := .cells #[.int .i64 a1_0, .slice A1_1 l1_1.length c1_1] 27 (0, 0)) (by (with_reducible repeat (first | refine blk_drewN ?_ _ | refine blk_drew ?_ | refine blk_alloc ?_ _)); exact BK271.out) hb)
   have n4_ := Aside0.mk (below_step (by repeat (first | (with_reducible first | exact HB.out | apply below_alloc | apply pw_below_drewN | apply below_drew1 | refine below_set ?_ GE270.out | refine below_set ?_ GE271.out) | exact HB.out)) hb)
   clear HO276
   clear HO280
   clear BK270
   clear BK271
   clear HB
   have HO276 := n0_
   have HO280 := n1_
   have BK270 := n2_
   have BK271 := n3_
   have HB := n4_
   clear n0_ n1_ n2_ n3_ n4_
   (try clear hb)
   (try clear hb2)
   (try clear hk)
   (try clear hi)
   refine hK.out _ _ ⟨(blk_cell BK270.out 0).trans rfl, (blk_cell BK271.out 0).trans rfl, (blk_cell BK271.out 1).trans rfl⟩ (fun hHeld => ?_)
   clear hK K
   refine norm_ (a' := ?_) ?_ ?_
   rotate_left
   ·
    show Act.put _ (some 33) _ = _
    simp only [Act.put, List.setIfInBounds_toArray, List.set_cons_zero, List.set_cons_succ, i64_w, i32_w]
    rfl
   refine pure_ (i := 7) (N := some 26) (v := ?_) (a' := ?_) #[true, true, true, true, true, true, true, true, false, false, false, false] rfl rfl (any_of HT_.out (by kernel_rfl)) (fun _ _ _ h => h) (Or.inl ⟨by rfl, ?_⟩) ?_ ?_
   rotate_left
   ·
    intro w'
    go_simp
    with_reducible rfl
   rotate_left
   ·
    simp only [Act.put, List.setIfInBounds_toArray, List.set_cons_zero, List.set_cons_succ, i64_w, i32_w]
    rfl
   refine pure_ (i := 8) (N := some 34) (v := ?_) (a' := ?_) #[true, true, true, true, true, true, true, true, true, false, false, false] rfl rfl (any_of HT_.out (by kernel_rfl)) (fun _ _ _ h => h) (Or.inl ⟨by rfl, ?_⟩) ?_ ?_
   rotate_left
   ·
    intro w'
    go_simp
    with_reducible rfl
   rotate_left
   ·
    simp only [Act.put, List.setIfInBounds_toArray, List.set_cons_zero, List.set_cons_succ, i64_w, i32_w]
    rfl
   refine pure_ (i := 9) (N := some 35) (v := ?_) (a' := ?_) #[true, true, true, true, true, true, true, true, true, true, false, false] rfl rfl (any_of HT_.out (by kernel_rfl)) (fun _ _ _ h => h) (Or.inl ⟨by rfl, ?_⟩) ?_ ?_
   rotate_left
   ·
    intro w'
    go_simp
    with_reducible rfl
   rotate_left
   ·
    simp only [Act.put, List.setIfInBounds_toArray, List.set_cons_zero, List.set_cons_succ, i64_w, i32_w]
    rfl
   refine pure_ (i := 10) (N := some 10) (v := ?_) (a' := ?_) #[true, true, true, true, true, true, true, true, true, true, true, false] rfl rfl (any_of HT_.out (by kernel_rfl)) (fun _ _ _ h => h) (Or.inl ⟨by rfl, ?_⟩) ?_ ?_
   rotate_left
   ·
    intro w'
    go_simp
    with_reducible rfl
   rotate_left
   ·
    simp only [Act.put, List.setIfInBounds_toArray, List.set_cons_zero, List.set_cons_succ, i64_w, i32_w]
    rfl
   refine pure_ (i := 11) (N := some 11) (v := ?_) (a' := ?_) #[true, true, true, true, true, true, true, true, true, true, true, true] rfl rfl (any_of HT_.out (by kernel_rfl)) (fun _ _ _ h => h) (Or.inl ⟨by rfl, ?_⟩) ?_ ?_
   rotate_left
   ·
    intro w'
    go_simp
    with_reducible rfl
   rotate_left
   ·
    simp only [Act.put, List.setIfInBounds_toArray, List.set_cons_zero, List.set_cons_succ, i64_w, i32_w]
    rfl
   refine done_ (done_of HT_.out (by kernel_rfl)) ?_
   have hcz41_0 : w40.cell? ⟨gb270, 0, none⟩ = some (.slice A0_0 l0_0.length c0_0) := (blk_cell BK270.out 0).trans rfl
   have hfz41_0 := blk_frozen BK270.out 0
   go_upto_region 12 with (first | ((with_reducible refine gate_callee (f := 12) rfl ?_); refine goesL_ (some 37) rfl rfl Try.func12 (by kernel_rfl) rfl #[.agg #[.slice A0_0 l0_0.length c0_0]] rfl (by (try simp only [List.map_toArray, List.map_cons, List.map_nil]); first | done | rfl | (simp only [List.length_drop, List.length_take]; rfl)) ?_; (with_reducible refine (laws_toGroup.calls k _ _ l0_0 t283 _ ?side1 ?side2 A24.out).mono ?_); (case side1 => repeat (first | exact (Kd.C_below HR0_0.out HB.out) | (with_reducible refine Kd.C_alloc ?_ _) | (with_reducible refine Kd.C_drewN ?_ _) | (with_reducible refine Kd.C_drew ?_))); (case side2 => exact HC0_0.out); rintro e w42 ⟨v284, rfl, ho0, hb⟩; refine ⟨_, rfl, ?_⟩; have n0_ := Aside0.mk (Kd.S_elder' (by (with_reducible repeat (first | apply Kd.S_alloc | apply Kd.S_drewN | apply Kd.S_drew)); exact HO276.out) (Kd.S_base ho0) hb); have n1_ := Aside0.mk (Kd.R_below (by (with_reducible repeat (first | apply Kd.R_alloc | apply Kd.R_drewN | apply Kd.R_drew)); exact HO280.out) hb); have n2_ := Aside0.mk (Kd.S_lower (Kd.S_new' (Kd.S_new' ho0 (Kd.S_lt (by (with_reducible repeat (first | apply Kd.S_alloc | apply Kd.S_drewN | apply Kd.S_drew)); exact HO276.out))) (Kd.R_lt (by (with_reducible repeat (first | apply Kd.R_alloc | apply Kd.R_drewN | apply Kd.R_drew)); exact HO280.out))) (below_size (by repeat (first | (with_reducible first | exact HB.out | apply below_alloc | apply pw_below_drewN | apply below_drew1 | refine below_set ?_ GE270.out | refine below_set ?_ GE271.out) | exact HB.out)))); have n3_ := Aside0.mk (blk_below (g := gb270) (o := .cells #[.slice A0_0 l0_0.length c0_0] 24 (0, 0)) (by (with_reducible repeat (first | refine blk_drewN ?_ _ | refine blk_drew ?_ | refine blk_alloc ?_ _)); exact BK270.out) hb); have n4_ := Aside0.mk (blk_below (g := gb271) (o := .cells #[.int .i64 a1_0, .slice A1_1 l1_1.length c1_1] 27 (0, 0)) (by (with_reducible repeat (first | refine blk_drewN ?_ _ | refine blk_drew ?_ | refine blk_alloc ?_ _)); exact BK271.out) hb); have n5_ := Aside0.mk (below_step (by repeat (first | (with_reducible first | exact HB.out | apply below_alloc | apply pw_below_drewN | apply below_drew1 | refine below_set ?_ GE270.out | refine below_set ?_ GE271.out) | exact HB.out)) hb); clear HO276; clear HO280; clear BK270; clear BK271; clear HB; have HO276 := n0_; have HO280 := n1_; have HO285 := n2_; have BK270 := n3_; have BK271 := n4_; have HB := n5_; clear n0_ n1_ n2_ n3_ n4_ n5_; (try clear hb); (try clear hb2); (try clear hk); (try clear hi); (try clear ho0)) | ((with_reducible refine gate_dst (N := 12) rfl ?_); refine box_event ?hg (N := 12) ?hd (cs := #[.slice none 0 0]) (t := 32) ?hr ?_; (case hd => rfl); (case hg => rfl); (case hr => first | (go_simp; done) | (go_simp; rfl)); intro gb286 hg w43 hbox hb; have n0_ := Aside0.mk (Kd.S_below (by (with_reducible repeat (first | apply Kd.S_alloc | apply Kd.S_drewN | apply Kd.S_drew)); exact HO276.out) hb); have n1_ := Aside0.mk (Kd.R_below (by (with_reducible repeat (first | apply Kd.R_alloc | apply Kd.R_drewN | apply Kd.R_drew)); exact HO280.out) hb); have n2_ := Aside0.mk (Kd.S_below (by (with_reducible repeat (first | apply Kd.S_alloc | apply Kd.S_drewN | apply Kd.S_drew)); exact HO285.out) hb); have n3_ := Aside0.mk (blk_below (g := gb270) (o := .cells #[.slice A0_0 l0_0.length c0_0] 24 (0, 0)) (by (with_reducible repeat (first | refine blk_drewN ?_ _ | refine blk_drew ?_ | refine blk_alloc ?_ _)); exact BK270.out) hb); have n4_ := Aside0.mk (blk_below (g := gb271) (o := .cells #[.int .i64 a1_0, .slice A1_1 l1_1.length c1_1] 27 (0, 0)) (by (with_reducible repeat (first | refine blk_drewN ?_ _ | refine blk_drew ?_ | refine blk_alloc ?_ _)); exact BK271.out) hb); have n5_ := Aside0.mk (below_step (by repeat (first | (with_reducible first | exact HB.out | apply below_alloc | apply pw_below_drewN | apply below_drew1 | refine below_set ?_ GE270.out | refine below_set ?_ GE271.out) | exact HB.out)) hb); have n6_ := Aside0.mk (hbox); have n7_ := Aside0.mk ((by rw [hg]; exact (below_size (by repeat (first | (with_reducible first | exact HB.out | apply below_alloc | apply pw_below_drewN | apply below_drew1 | refine below_set ?_ GE270.out | refine below_set ?_ GE271.out) | exact HB.out))) : w.heap.size ≤ gb286)); have n8_ := Aside0.mk ((by rw [hg]; exact (below_size (by repeat (first | (with_reducible first | exact HB.out | apply below_alloc | apply pw_below_drewN | apply below_drew1 | refine below_set ?_ GE270.out | refine below_set ?_ GE271.out) | exact HB.out))) : w.heap.size ≤ gb286)); have n9_ := Aside0.mk ((by rw [hg]; exact Nat.ne_of_lt (blk_lt (g := gb270) (o := .cells #[.slice A0_0 l0_0.length c0_0] 24 (0, 0)) (by (with_reducible repeat (first | refine blk_drewN ?_ _ | refine blk_drew ?_ | refine blk_alloc ?_ _)); exact BK270.out)) : gb270 ≠ gb286)); have n10_ := Aside0.mk ((by rw [hg]; exact Nat.ne_of_gt (blk_lt (g := gb270) (o := .cells #[.slice A0_0 l0_0.length c0_0] 24 (0, 0)) (by (with_reducible repeat (first | refine blk_drewN ?_ _ | refine blk_drew ?_ | refine blk_alloc ?_ _)); exact BK270.out)) : gb286 ≠ gb270)); have n11_ := Aside0.mk ((by rw [hg]; exact Nat.ne_of_lt (blk_lt (g := gb271) (o := .cells #[.int .i64 a1_0, .slice A1_1 l1_1.length c1_1] 27 (0, 0)) (by (with_reducible repeat (first | refine blk_drewN ?_ _ | refine blk_drew ?_ | refine blk_alloc ?_ _)); exact BK271.out)) : gb271 ≠ gb286)); have n12_ := Aside0.mk ((by rw [hg]; exact Nat.ne_of_gt (blk_lt (g := gb271) (o := .cells #[.int .i64 a1_0, .slice A1_1 l1_1.length c1_1] 27 (0, 0)) (by (with_reducible repeat (first | refine blk_drewN ?_ _ | refine blk_drew ?_ | refine blk_alloc ?_ _)); exact BK271.out)) : gb286 ≠ gb271)); clear HO276; clear HO280; clear HO285; clear BK270; clear BK271; clear HB; have HO276 := n0_; have HO280 := n1_; have HO285 := n2_; have BK270 := n3_; have BK271 := n4_; have HB := n5_; have BK286 := n6_; have GW286 := n7_; have GE286 := n8_; have NB270_286 := n9_; have NB286_270 := n10_; have NB271_286 := n11_; have NB286_271 := n12_; clear n0_ n1_ n2_ n3_ n4_ n5_ n6_ n7_ n8_ n9_ n10_ n11_ n12_; clear hb hbox hg; obtain ⟨Ao44, co44, eo44⟩ := Kd.S_slice HO285.out; subst eo44; have hnb45 := NB286_270.out; have hnc45 := NB270_286.out; have hnb46 := NB286_271.out; have hnc46 := NB271_286.out; have hcz47_0 : w43.cell? ⟨gb286, 0, none⟩ = some (.slice none 0 0) := (blk_cell BK286.out 0).trans rfl; have hfz47_0 := blk_frozen BK286.out 0; have hcz48_0 : w43.cell? ⟨gb271, 0, none⟩ = some (.int .i64 a1_0) := (blk_cell BK271.out 0).trans rfl; have hcz48_1 : w43.cell? ⟨gb271, 1, none⟩ = some (.slice A1_1 l1_1.length c1_1) := (blk_cell BK271.out 1).trans rfl; have hfz48_0 := blk_frozen BK271.out 0; have hfz48_1 := blk_frozen BK271.out 1) | ((with_reducible refine gate_callee (f := 13) rfl ?_); refine goesL_ (some 39) rfl rfl Try.func13 (by kernel_rfl) rfl #[.agg #[.int .i64 a1_0, .slice A1_1 l1_1.length c1_1]] rfl (by (try simp only [List.map_toArray, List.map_cons, List.map_nil]); first | done | rfl | (simp only [List.length_drop, List.length_take]; rfl)) ?_; (with_reducible refine (laws_toModule.calls k a1_0 _ _ l1_1 t287 t288 _ ?side1 ?side2 A25.out).mono ?_); (case side1 => exact Kd.C_below HR1_1.out (by repeat (first | (with_reducible first | exact HB.out | apply below_alloc | apply pw_below_drewN | apply below_drew1 | refine below_set ?_ GE270.out | refine below_set ?_ GE271.out | refine below_set ?_ GE286.out) | exact HB.out))); (case side2 => exact HC1_1.out); rintro e w49 ⟨v289, rfl, ho0, hb⟩; refine ⟨_, rfl, ?_⟩; have n0_ := Aside0.mk (Kd.S_elder' (by (with_reducible repeat (first | apply Kd.S_alloc | apply Kd.S_drewN | apply Kd.S_drew)); exact (Kd.S_mono (Kd.S_far (p := ⟨gb286, 0, none⟩) (Kd.S_types HO276.out BK286.out (by decide)) (fun _ hk => hk.2) (.slice Ao44 t283.length co44)) (fun _ h_ => h_.1))) (Kd.R_base ho0) hb); have n1_ := Aside0.mk (Kd.R_elder' (by (with_reducible repeat (first | apply Kd.R_alloc | apply Kd.R_drewN | apply Kd.R_drew)); exact (Kd.R_mono (Kd.R_far (p := ⟨gb286, 0, none⟩) (Kd.R_types HO280.out BK286.out (by decide)) (fun _ hk => hk.2) (.slice Ao44 t283.length co44)) (fun _ h_ => h_.1))) (Kd.R_base ho0) hb); have n2_ := Aside0.mk (Kd.S_elder' (by (with_reducible repeat (first | apply Kd.S_alloc | apply Kd.S_drewN | apply Kd.S_drew)); exact (Kd.S_mono (Kd.S_far (p := ⟨gb286, 0, none⟩) (Kd.S_types HO285.out BK286.out (by decide)) (fun _ hk => hk.2) (.slice Ao44 t283.length co44)) (fun _ h_ => h_.1))) (Kd.R_base ho0) hb); have n3_ := Aside0.mk (Kd.R_lower (Kd.R_new' ho0 (Kd.R_lt (by (with_reducible repeat (first | apply Kd.R_alloc | apply Kd.R_drewN | apply Kd.R_drew)); exact (Kd.R_mono (Kd.R_far (p := ⟨gb286, 0, none⟩) (Kd.R_types HO280.out BK286.out (by decide)) (fun _ hk => hk.2) (.slice Ao44 t283.length co44)) (fun _ h_ => h_.1))))) (below_size (by repeat (first | (with_reducible first | exact HB.out | apply below_alloc | apply pw_below_drewN | apply below_drew1 | refine below_set ?_ GE270.out | refine below_set ?_ GE271.out | refine below_set ?_ GE286.out) | exact HB.out)))); have n4_ := Aside0.mk (blk_below (g := gb270) (o := .cells #[.slice A0_0 l0_0.length c0_0] 24 (0, 0)) (by (with_reducible repeat (first | refine blk_drewN ?_ _ | refine blk_drew ?_ | refine blk_alloc ?_ _)); refine blk_far ?_ NB270_286.out _; (with_reducible repeat (first | refine blk_drewN ?_ _ | refine blk_drew ?_ | refine blk_alloc ?_ _)); exact BK270.out) hb); have n5_ := Aside0.mk (blk_below (g := gb271) (o := .cells #[.int .i64 a1_0, .slice A1_1 l1_1.length c1_1] 27 (0, 0)) (by (with_reducible repeat (first | refine blk_drewN ?_ _ | refine blk_drew ?_ | refine blk_alloc ?_ _)); refine blk_far ?_ NB271_286.out _; (with_reducible repeat (first | refine blk_drewN ?_ _ | refine blk_drew ?_ | refine blk_alloc ?_ _)); exact BK271.out) hb); have n6_ := Aside0.mk (blk_below (g := gb286) (o := .cells #[.slice Ao44 t283.length co44] 32 (0, 0)) (by (with_reducible repeat (first | refine blk_drewN ?_ _ | refine blk_drew ?_ | refine blk_alloc ?_ _)); refine blk_put (cs := #[.slice none 0 0]) ?_ 0 _ rfl; (with_reducible repeat (first | refine blk_drewN ?_ _ | refine blk_drew ?_ | refine blk_alloc ?_ _)); exact BK286.out) hb); have n7_ := Aside0.mk (below_step (by repeat (first | (with_reducible first | exact HB.out | apply below_alloc | apply pw_below_drewN | apply below_drew1 | refine below_set ?_ GE270.out | refine below_set ?_ GE271.out | refine below_set ?_ GE286.out) | exact HB.out)) hb); clear HO276; clear HO280; clear HO285; clear BK270; clear BK271; clear BK286; clear HB; have HO276 := n0_; have HO280 := n1_; have HO285 := n2_; have HO290 := n3_; have BK270 := n4_; have BK271 := n5_; have BK286 := n6_; have HB := n7_; clear n0_ n1_ n2_ n3_ n4_ n5_ n6_ n7_; (try clear hb); (try clear hb2); (try clear hk); (try clear hi); (try clear ho0)) | ((with_reducible refine gate_dst (N := 13) rfl ?_); refine box_event ?hg (N := 13) ?hd (cs := #[.int .i64 0, .slice none 0 0]) (t := 34) ?hr ?_; (case hd => rfl); (case hg => rfl); (case hr => first | (go_simp; done) | (go_simp; rfl)); intro gb291 hg w50 hbox hb; have n0_ := Aside0.mk (Kd.S_below (by (with_reducible repeat (first | apply Kd.S_alloc | apply Kd.S_drewN | apply Kd.S_drew)); exact HO276.out) hb); have n1_ := Aside0.mk (Kd.R_below (by (with_reducible repeat (first | apply Kd.R_alloc | apply Kd.R_drewN | apply Kd.R_drew)); exact HO280.out) hb); have n2_ := Aside0.mk (Kd.S_below (by (with_reducible repeat (first | apply Kd.S_alloc | apply Kd.S_drewN | apply Kd.S_drew)); exact HO285.out) hb); have n3_ := Aside0.mk (Kd.R_below (by (with_reducible repeat (first | apply Kd.R_alloc | apply Kd.R_drewN | apply Kd.R_drew)); exact HO290.out) hb); have n4_ := Aside0.mk (blk_below (g := gb270) (o := .cells #[.slice A0_0 l0_0.length c0_0] 24 (0, 0)) (by (with_reducible repeat (first | refine blk_drewN ?_ _ | refine blk_drew ?_ | refine blk_alloc ?_ _)); exact BK270.out) hb); have n5_ := Aside0.mk (blk_below (g := gb271) (o := .cells #[.int .i64 a1_0, .slice A1_1 l1_1.length c1_1] 27 (0, 0)) (by (with_reducible repeat (first | refine blk_drewN ?_ _ | refine blk_drew ?_ | refine blk_alloc ?_ _)); exact BK271.out) hb); have n6_ := Aside0.mk (blk_below (g := gb286) (o := .cells #[.slice Ao44 t283.length co44] 32 (0, 0)) (by (with_reducible repeat (first | refine blk_drewN ?_ _ | refine blk_drew ?_ | refine blk_alloc ?_ _)); exact BK286.out) hb); have n7_ := Aside0.mk (below_step (by repeat (first | (with_reducible first | exact HB.out | apply below_alloc | apply pw_below_drewN | apply below_drew1 | refine below_set ?_ GE270.out | refine below_set ?_ GE271.out | refine below_set ?_ GE286.out) | exact HB.out)) hb); have n8_ := Aside0.mk (hbox); have n9_ := Aside0.mk ((by rw [hg]; exact (below_size (by repeat (first | (with_reducible first | exact HB.out | apply below_alloc | apply pw_below_drewN | apply below_drew1 | refine below_set ?_ GE270.out | refine below_set ?_ GE271.out | refine below_set ?_ GE286.out) | exact HB.out))) : w.heap.size ≤ gb291)); have n10_ := Aside0.mk ((by rw [hg]; exact (below_size (by repeat (first | (with_reducible first | exact HB.out | apply below_alloc | apply pw_below_drewN | apply below_drew1 | refine below_set ?_ GE270.out | refine below_set ?_ GE271.out | refine below_set ?_ GE286.out) | exact HB.out))) : w.heap.size ≤ gb291)); have n11_ := Aside0.mk ((by rw [hg]; exact Nat.ne_of_lt (blk_lt (g := gb270) (o := .cells #[.slice A0_0 l0_0.length c0_0] 24 (0, 0)) (by (with_reducible repeat (first | refine blk_drewN ?_ _ | refine blk_drew ?_ | refine blk_alloc ?_ _)); exact BK270.out)) : gb270 ≠ gb291)); have n12_ := Aside0.mk ((by rw [hg]; exact Nat.ne_of_gt (blk_lt (g := gb270) (o := .cells #[.slice A0_0 l0_0.length c0_0] 24 (0, 0)) (by (with_reducible repeat (first | refine blk_drewN ?_ _ | refine blk_drew ?_ | refine blk_alloc ?_ _)); exact BK270.out)) : gb291 ≠ gb270)); have n13_ := Aside0.mk ((by rw [hg]; exact Nat.ne_of_lt (blk_lt (g := gb271) (o := .cells #[.int .i64 a1_0, .slice A1_1 l1_1.length c1_1] 27 (0, 0)) (by (with_reducible repeat (first | refine blk_drewN ?_ _ | refine blk_drew ?_ | refine blk_alloc ?_ _)); exact BK271.out)) : gb271 ≠ gb291)); have n14_ := Aside0.mk ((by rw [hg]; exact Nat.ne_of_gt (blk_lt (g := gb271) (o := .cells #[.int .i64 a1_0, .slice A1_1 l1_1.length c1_1] 27 (0, 0)) (by (with_reducible repeat (first | refine blk_drewN ?_ _ | refine blk_drew ?_ | refine blk_alloc ?_ _)); exact BK271.out)) : gb291 ≠ gb271)); have n15_ := Aside0.mk ((by rw [hg]; exact Nat.ne_of_lt (blk_lt (g := gb286) (o := .cells #[.slice Ao44 t283.length co44] 32 (0, 0)) (by (with_reducible repeat (first | refine blk_drewN ?_ _ | refine blk_drew ?_ | refine blk_alloc ?_ _)); exact BK286.out)) : gb286 ≠ gb291)); have n16_ := Aside0.mk ((by rw [hg]; exact Nat.ne_of_gt (blk_lt (g := gb286) (o := .cells #[.slice Ao44 t283.length co44] 32 (0, 0)) (by (with_reducible repeat (first | refine blk_drewN ?_ _ | refine blk_drew ?_ | refine blk_alloc ?_ _)); exact BK286.out)) : gb291 ≠ gb286)); clear HO276; clear HO280; clear HO285; clear HO290; clear BK270; clear BK271; clear BK286; clear HB; have HO276 := n0_; have HO280 := n1_; have HO285 := n2_; have HO290 := n3_; have BK270 := n4_; have BK271 := n5_; have BK286 := n6_; have HB := n7_; have BK291 := n8_; have GW291 := n9_; have GE291 := n10_; have NB270_291 := n11_; have NB291_270 := n12_; have NB271_291 := n13_; have NB291_271 := n14_; have NB286_291 := n15_; have NB291_286 := n16_; clear n0_ n1_ n2_ n3_ n4_ n5_ n6_ n7_ n8_ n9_ n10_ n11_ n12_ n13_ n14_ n15_ n16_; clear hb hbox hg; have hnb51 := NB291_270.out; have hnc51 := NB270_291.out; have hnb52 := NB291_271.out; have hnc52 := NB271_291.out; have hnb53 := NB291_286.out; have hnc53 := NB286_291.out; have hcz54_0 : w50.cell? ⟨gb291, 0, none⟩ = some (.int .i64 0) := (blk_cell BK291.out 0).trans rfl; have hcz54_1 : w50.cell? ⟨gb291, 1, none⟩ = some (.slice none 0 0) := (blk_cell BK291.out 1).trans rfl; have hfz54_0 := blk_frozen BK291.out 0; have hfz54_1 := blk_frozen BK291.out 1; obtain ⟨Ao55, co55, eo55⟩ := Kd.R_slice HO290.out; subst eo55; have hcz56_0 : w50.cell? ⟨gb286, 0, none⟩ = some (.slice Ao44 t283.length co44) := (blk_cell BK286.out 0).trans rfl; have hfz56_0 := blk_frozen BK286.out 0) | ((with_reducible refine gate_callee (f := 14) rfl ?_); refine goesL_ (some 45) rfl rfl Try.func14 (by kernel_rfl) rfl #[.agg #[.slice Ao44 t283.length co44], .agg #[.int .i64 t287, .slice Ao55 t288.length co55], .int .i64 a2, .int .i64 a3] rfl (by (try simp only [List.map_toArray, List.map_cons, List.map_nil]); first | done | rfl | (simp only [List.length_drop, List.length_take]; rfl)) ?_; (with_reducible refine (impl_PairProduct.calls k _ _ t283 t287 _ _ t288 a2 a3 t292 t293 _ ?side1 ?side2 ?side3 ?side4 A26.out).mono ?_); (case side1 => refine (Kd.S_reads' (e := 25) (base := w.heap.size) (ok := fun k_ => (((True ∧ some k_ ≠ (.slice Ao38 t274.length co38 : Value).ownBlock) ∧ some k_ ≠ (.slice Ao39 t278.length co39 : Value).ownBlock) ∧ some k_ ≠ (.slice Ao55 t288.length co55 : Value).ownBlock)) (n := t283.length) (c := co44) ?_).2.2; exact (by (with_reducible repeat (first | apply Kd.S_alloc | apply Kd.S_drewN | apply Kd.S_drew)); exact (Kd.S_mono (Kd.S_far (p := ⟨gb291, 1, none⟩) (Kd.S_far (p := ⟨gb291, 0, none⟩) (Kd.S_types HO285.out BK291.out (by decide)) (fun _ hk => hk.2) (.int .i64 t287)) (fun _ hk => hk.2) (.slice Ao55 t288.length co55)) (fun _ h_ => h_.1)))); (case side2 => exact (Kd.S_reads' HO285.out).2.1); (case side3 => refine (Kd.R_reads' (e := 2) (base := w.heap.size) (ok := fun k_ => (True ∧ some k_ ≠ (.slice Ao39 t278.length co39 : Value).ownBlock)) (n := t288.length) (c := co55) ?_).2.2; exact (by (with_reducible repeat (first | apply Kd.R_alloc | apply Kd.R_drewN | apply Kd.R_drew)); exact (Kd.R_mono (Kd.R_far (p := ⟨gb291, 1, none⟩) (Kd.R_far (p := ⟨gb291, 0, none⟩) (Kd.R_types HO290.out BK291.out (by decide)) (fun _ hk => hk.2) (.int .i64 t287)) (fun _ hk => hk.2) (.slice Ao55 t288.length co55)) (fun _ h_ => h_.1)))); (case side4 => exact (Kd.R_reads' HO290.out).2.1); rintro e w57 ⟨rfl, hb⟩; refine ⟨_, rfl, ?_⟩; have n0_ := Aside0.mk (Kd.S_below (by (with_reducible repeat (first | apply Kd.S_alloc | apply Kd.S_drewN | apply Kd.S_drew)); exact (Kd.S_mono (Kd.S_far (p := ⟨gb291, 1, none⟩) (Kd.S_far (p := ⟨gb291, 0, none⟩) (Kd.S_types HO276.out BK291.out (by decide)) (fun _ hk => hk.2) (.int .i64 t287)) (fun _ hk => hk.2) (.slice Ao55 t288.length co55)) (fun _ h_ => h_.1))) hb); have n1_ := Aside0.mk (Kd.R_below (by (with_reducible repeat (first | apply Kd.R_alloc | apply Kd.R_drewN | apply Kd.R_drew)); exact (Kd.R_mono (Kd.R_far (p := ⟨gb291, 1, none⟩) (Kd.R_far (p := ⟨gb291, 0, none⟩) (Kd.R_types HO280.out BK291.out (by decide)) (fun _ hk => hk.2) (.int .i64 t287)) (fun _ hk => hk.2) (.slice Ao55 t288.length co55)) (fun _ h_ => h_.1))) hb); have n2_ := Aside0.mk (Kd.S_below (by (with_reducible repeat (first | apply Kd.S_alloc | apply Kd.S_drewN | apply Kd.S_drew)); exact (Kd.S_mono (Kd.S_far (p := ⟨gb291, 1, none⟩) (Kd.S_far (p := ⟨gb291, 0, none⟩) (Kd.S_types HO285.out BK291.out (by decide)) (fun _ hk => hk.2) (.int .i64 t287)) (fun _ hk => hk.2) (.slice Ao55 t288.length co55)) (fun _ h_ => h_.1))) hb); have n3_ := Aside0.mk (Kd.R_below (by (with_reducible repeat (first | apply Kd.R_alloc | apply Kd.R_drewN | apply Kd.R_drew)); exact (Kd.R_mono (Kd.R_far (p := ⟨gb291, 1, none⟩) (Kd.R_far (p := ⟨gb291, 0, none⟩) (Kd.R_types HO290.out BK291.out (by decide)) (fun _ hk => hk.2) (.int .i64 t287)) (fun _ hk => hk.2) (.slice Ao55 t288.length co55)) (fun _ h_ => h_.1))) hb); have n4_ := Aside0.mk (blk_below (g := gb270) (o := .cells #[.slice A0_0 l0_0.length c0_0] 24 (0, 0)) (by (with_reducible repeat (first | refine blk_drewN ?_ _ | refine blk_drew ?_ | refine blk_alloc ?_ _)); refine blk_far ?_ NB270_291.out _; (with_reducible repeat (first | refine blk_drewN ?_ _ | refine blk_drew ?_ | refine blk_alloc ?_ _)); refine blk_far ?_ NB270_291.out _; (with_reducible repeat (first | refine blk_drewN ?_ _ | refine blk_drew ?_ | refine blk_alloc ?_ _)); exact BK270.out) hb); have n5_ := Aside0.mk (blk_below (g := gb271) (o := .cells #[.int .i64 a1_0, .slice A1_1 l1_1.length c1_1] 27 (0, 0)) (by (with_reducible repeat (first | refine blk_drewN ?_ _ | refine blk_drew ?_ | refine blk_alloc ?_ _)); refine blk_far ?_ NB271_291.out _; (with_reducible repeat (first | refine blk_drewN ?_ _ | refine blk_drew ?_ | refine blk_alloc ?_ _)); refine blk_far ?_ NB271_291.out _; (with_reducible repeat (first | refine blk_drewN ?_ _ | refine blk_drew ?_ | refine blk_alloc ?_ _)); exact BK271.out) hb); have n6_ := Aside0.mk (blk_below (g := gb286) (o := .cells #[.slice Ao44 t283.length co44] 32 (0, 0)) (by (with_reducible repeat (first | refine blk_drewN ?_ _ | refine blk_drew ?_ | refine blk_alloc ?_ _)); refine blk_far ?_ NB286_291.out _; (with_reducible repeat (first | refine blk_drewN ?_ _ | refine blk_drew ?_ | refine blk_alloc ?_ _)); refine blk_far ?_ NB286_291.out _; (with_reducible repeat (first | refine blk_drewN ?_ _ | refine blk_drew ?_ | refine blk_alloc ?_ _)); exact BK286.out) hb); have n7_ := Aside0.mk (blk_below (g := gb291) (o := .cells #[.int .i64 t287, .slice Ao55 t288.length co55] 34 (0, 0)) (by (with_reducible repeat (first | refine blk_drewN ?_ _ | refine blk_drew ?_ | refine blk_alloc ?_ _)); refine blk_put (cs := #[.int .i64 t287, .slice none 0 0]) ?_ 1 _ rfl; (with_reducible repeat (first | refine blk_drewN ?_ _ | refine blk_drew ?_ | refine blk_alloc ?_ _)); refine blk_put (cs := #[.int .i64 0, .slice none 0 0]) ?_ 0 _ rfl; (with_reducible repeat (first | refine blk_drewN ?_ _ | refine blk_drew ?_ | refine blk_alloc ?_ _)); exact BK291.out) hb); have n8_ := Aside0.mk (below_step (by repeat (first | (with_reducible first | exact HB.out | apply below_alloc | apply pw_below_drewN | apply below_drew1 | refine below_set ?_ GE270.out | refine below_set ?_ GE271.out | refine below_set ?_ GE286.out | refine below_set ?_ GE291.out) | exact HB.out)) hb); clear HO276; clear HO280; clear HO285; clear HO290; clear BK270; clear BK271; clear BK286; clear BK291; clear HB; have HO276 := n0_; have HO280 := n1_; have HO285 := n2_; have HO290 := n3_; have BK270 := n4_; have BK271 := n5_; have BK286 := n6_; have BK291 := n7_; have HB := n8_; clear n0_ n1_ n2_ n3_ n4_ n5_ n6_ n7_ n8_; (try clear hb); (try clear hb2); (try clear hk); (try clear hi)))
   (try simp only [Act.put, List.setIfInBounds_toArray, List.set_cons_zero, List.set_cons_succ])
   go_cut [55] (fun v55 wc => ∃ (kq : Nat) (x55_26 : Bool), v55 = .bool x55_26 ∧ Aside0 (laws_FnExactPairProduct.j0 kq x55_26 l0_0 a1_0 l1_1 t283 t287 t288 = some r) ∧ Aside0 (kq ≤ k) ∧ Aside0 (Kd.S (Kd.slice 2 (Kd.int .i64)) 25 wc w.heap.size (fun k_ => some k_ ≠ ((.slice Ao55 t288.length co55) : Value).ownBlock) (.slice Ao44 t283.length co44) t283) ∧ Aside0 (Kd.R (Kd.int .i64) 2 wc w.heap.size (fun _ => True) (.slice Ao55 t288.length co55) t288) ∧ Aside0 (wc.heap[gb270]? = some (.cells #[(.slice A0_0 l0_0.length c0_0)] 24 (0, 0))) ∧ Aside0 (wc.heap[gb271]? = some (.cells #[.int .i64 a1_0, (.slice A1_1 l1_1.length c1_1)] 27 (0, 0))) ∧ Aside0 (wc.heap[gb286]? = some (.cells #[(.slice Ao44 t283.length co44)] 32 (0, 0))) ∧ Aside0 (wc.heap[gb291]? = some (.cells #[.int .i64 t287, (.slice Ao55 t288.length co55)] 34 (0, 0))) ∧ Aside0 (Below w.heap.size w wc))
   case first =>
    have H := HC27.out
    clear HC27
    by_cases c58 : t292 = t281
    ·
     rw [if_pos c58] at H
     have c58b0 : (t292 == t281) = true := beq_iff_eq.mpr c58
     have c58b1 : (t292 != t281) = false := bne_eq_false_iff_eq.mpr c58
     clear c58
     (first | rw [c58b0] | (simp only [i64_w, i32_w]; rw [c58b0]) | skip)
     have H' := Aside0.mk H
     clear H
     go_wp2
     go_meet
     case rel => exact ⟨_, ((t293 != t282)), (by first | rfl | (simp; done) | (simp [*]; done)), H', ⟨by first | omega | exact Nat.le_refl _⟩, ⟨by (with_reducible repeat (first | apply Kd.S_alloc | apply Kd.S_drewN | apply Kd.S_drew)); exact Kd.S_mono HO285.out (fun _ hk => hk.2)⟩, ⟨by (with_reducible repeat (first | apply Kd.R_alloc | apply Kd.R_drewN | apply Kd.R_drew)); exact Kd.R_mono HO290.out (fun _ hk => trivial)⟩, ⟨by (with_reducible repeat (first | refine blk_drewN ?_ _ | refine blk_drew ?_ | refine blk_alloc ?_ _)); exact BK270.out⟩, ⟨by (with_reducible repeat (first | refine blk_drewN ?_ _ | refine blk_drew ?_ | refine blk_alloc ?_ _)); exact BK271.out⟩, ⟨by (with_reducible repeat (first | refine blk_drewN ?_ _ | refine blk_drew ?_ | refine blk_alloc ?_ _)); exact BK286.out⟩, ⟨by (with_reducible repeat (first | refine blk_drewN ?_ _ | refine blk_drew ?_ | refine blk_alloc ?_ _)); exact BK291.out⟩, ⟨by repeat (first | (with_reducible first | exact HB.out | apply below_alloc | apply pw_below_drewN | apply below_drew1 | refine below_set ?_ GE270.out | refine below_set ?_ GE271.out | refine below_set ?_ GE286.out | refine below_set ?_ GE291.out) | exact HB.out)⟩⟩
    ·
     rw [if_neg c58] at H
     have c58b0 : (t292 == t281) = false := beq_eq_false_iff_ne.mpr c58
     have c58b1 : (t292 != t281) = true := bne_iff_ne.mpr c58
     (first | rw [c58b0] | (simp only [i64_w, i32_w]; rw [c58b0]) | skip)
     have H' := Aside0.mk H
     clear H
     go_wp2
     go_meet
     case rel => exact ⟨_, (true), (by first | rfl | (simp; done) | (simp [*]; done)), H', ⟨by first | omega | exact Nat.le_refl _⟩, ⟨by (with_reducible repeat (first | apply Kd.S_alloc | apply Kd.S_drewN | apply Kd.S_drew)); exact Kd.S_mono HO285.out (fun _ hk => hk.2)⟩, ⟨by (with_reducible repeat (first | apply Kd.R_alloc | apply Kd.R_drewN | apply Kd.R_drew)); exact Kd.R_mono HO290.out (fun _ hk => trivial)⟩, ⟨by (with_reducible repeat (first | refine blk_drewN ?_ _ | refine blk_drew ?_ | refine blk_alloc ?_ _)); exact BK270.out⟩, ⟨by (with_reducible repeat (first | refine blk_drewN ?_ _ | refine blk_drew ?_ | refine blk_alloc ?_ _)); exact BK271.out⟩, ⟨by (with_reducible repeat (first | refine blk_drewN ?_ _ | refine blk_drew ?_ | refine blk_alloc ?_ _)); exact BK286.out⟩, ⟨by (with_reducible repeat (first | refine blk_drewN ?_ _ | refine blk_drew ?_ | refine blk_alloc ?_ _)); exact BK291.out⟩, ⟨by repeat (first | (with_reducible first | exact HB.out | apply below_alloc | apply pw_below_drewN | apply below_drew1 | refine below_set ?_ GE270.out | refine below_set ?_ GE271.out | refine below_set ?_ GE286.out | refine below_set ?_ GE291.out) | exact HB.out)⟩⟩
   case rest =>
    clear HC27
    try clear c1
    try clear p2
    try clear c3
    try clear c4
    try clear c5
    try clear c6
    try clear c6b0
    try clear c9
    try clear c10
    try clear c11
    try clear c12
    try clear c13
    try clear c13b0
    try clear c14
    try clear c16
    try clear c30
    try clear c45
    try clear c46
    try clear c51
    try clear c52
    try clear c53
    try clear c58
    try clear c58b0
    try clear c58b1
    try clear hcz10_0
    try clear hcz17_0
    try clear hcz19_0
    try clear hcz19_1
    try clear hcz31_0
    try clear hcz33_0
    try clear hcz33_1
    try clear hcz41_0
    try clear hcz47_0
    try clear hcz48_0
    try clear hcz48_1
    try clear hcz54_0
    try clear hcz54_1
    try clear hcz56_0
    try clear hfz10_0
    try clear hfz17_0
    try clear hfz19_0
    try clear hfz19_1
    try clear hfz31_0
    try clear hfz33_0
    try clear hfz33_1
    try clear hfz41_0
    try clear hfz47_0
    try clear hfz48_0
    try clear hfz48_1
    try clear hfz54_0
    try clear hfz54_1
    try clear hfz56_0
    obtain ⟨kq, x55_26, rfl, HA, HJ26, HO_287000, HO_292001, BK270, BK271, BK286, BK291, HB⟩ := hcut
    cases kq with
    | zero => exact absurd HA.out (by simp [laws_FnExactPairProduct.j0])
    | succ kj26 =>
     have H := HA.out
     clear HA
     simp only [laws_FnExactPairProduct.j0] at H
     by_cases c59 : x55_26 = true
     ·
      subst c59
      have H1 : (some false) = some r := by rw [if_pos rfl] at H; exact H
      clear H
      have H := H1
      clear H1
      obtain rfl := Option.some.inj H
      go_wp2
      go_ret
      exact ⟨by first | rfl | (simp [errW_none, errW_some] <;> rfl) | (simp [*, errW_none, errW_some] <;> rfl), by repeat (first | (with_reducible first | exact HB.out | apply below_alloc | apply pw_below_drewN | apply below_drew1 | refine below_set ?_ GE270.out | refine below_set ?_ GE271.out | refine below_set ?_ GE286.out | refine below_set ?_ GE291.out) | exact HB.out)⟩
     ·
      replace c59 := Bool.eq_false_iff.mpr c59
      subst c59
      have H1 : ((laws_toGroup.f kj26 l0_0).bind fun t294 => ((laws_eqGroup.f kj26 t283 t294).bind fun t297 => (if t297 = true then ((laws_toModule.f kj26 a1_0 l1_1).bind fun bt298 => ((laws_eqModule.f kj26 t287 t288 bt298.1 bt298.2).bind fun t302 => (if t302 = true then (some true) else (some false)))) else (some false)))) = some r := by rw [if_neg (show ¬ (false = true) by decide)] at H; exact H
      clear H
      have H := H1
      clear H1
      replace H := Option.bind_eq_some_iff.mp H
      obtain ⟨t294, A600, H⟩ := H
      replace H : ((laws_eqGroup.f kj26 t283 t294).bind fun t297 => (if t297 = true then ((laws_toModule.f kj26 a1_0 l1_1).bind fun bt298 => ((laws_eqModule.f kj26 t287 t288 bt298.1 bt298.2).bind fun t302 => (if t302 = true then (some true) else (some false)))) else (some false))) = some r := H
      have A60 := Aside0.mk A600
      clear A600
      replace H := Option.bind_eq_some_iff.mp H
      obtain ⟨t297, A610, H⟩ := H
      replace H : (if t297 = true then ((laws_toModule.f kj26 a1_0 l1_1).bind fun bt298 => ((laws_eqModule.f kj26 t287 t288 bt298.1 bt298.2).bind fun t302 => (if t302 = true then (some true) else (some false)))) else (some false)) = some r := H
      have A61 := Aside0.mk A610
      clear A610
      by_cases c62 : t297 = true
      ·
       subst c62
       have H1 : ((laws_toModule.f kj26 a1_0 l1_1).bind fun bt298 => ((laws_eqModule.f kj26 t287 t288 bt298.1 bt298.2).bind fun t302 => (if t302 = true then (some true) else (some false)))) = some r := by rw [if_pos rfl] at H; exact H
       clear H
       have H := H1
       clear H1
       replace H := Option.bind_eq_some_iff.mp H
       obtain ⟨⟨t298, t299⟩, A630, H⟩ := H
       replace H : ((laws_eqModule.f kj26 t287 t288 t298 t299).bind fun t302 => (if t302 = true then (some true) else (some false))) = some r := H
       have A63 := Aside0.mk A630
       clear A630
       replace H := Option.bind_eq_some_iff.mp H
       obtain ⟨t302, A640, H⟩ := H
       replace H : (if t302 = true then (some true) else (some false)) = some r := H
       have A64 := Aside0.mk A640
       clear A640
       by_cases c65 : t302 = true
       ·
        subst c65
        have H1 : (some true) = some r := by rw [if_pos rfl] at H; exact H
        clear H
        have H := H1
        clear H1
        obtain rfl := Option.some.inj H
        try go_wp2
        have n0_ := Aside0.mk (Kd.S_drew HO_287000.out)
        have n1_ := Aside0.mk (Kd.R_drew HO_292001.out)
        have n2_ := Aside0.mk (blk_drew BK270.out)
        have n3_ := Aside0.mk (blk_drew BK271.out)
        have n4_ := Aside0.mk (blk_drew BK286.out)
        have n5_ := Aside0.mk (blk_drew BK291.out)
        have n6_ := Aside0.mk (below_drew1 HB.out)
        clear HO_287000
        clear HO_292001
        clear BK270
        clear BK271
        clear BK286
        clear BK291
        clear HB
        have HO_287000 := n0_
        have HO_292001 := n1_
        have BK270 := n2_
        have BK271 := n3_
        have BK286 := n4_
        have BK291 := n5_
        have HB := n6_
        clear n0_ n1_ n2_ n3_ n4_ n5_ n6_
        refine start_ (n := 5) (S := fun w' => w'.cell? ⟨gb286, 0, none⟩ = some (.slice Ao44 t283.length co44) ∧ w'.cell? ⟨gb270, 0, none⟩ = some (.slice A0_0 l0_0.length c0_0)) (ds := []) #[false, false, false, false, false] (by kernel_rfl) rfl rfl ⟨(blk_cell BK286.out 0).trans rfl, (blk_cell BK270.out 0).trans rfl⟩ (fun hHeld => ?_)
        generalize wc.drew = w66 at HO_287000 HO_292001 BK270 BK271 BK286 BK291 HB hHeld ⊢
        refine take_ (i := 0) (N := some 56) (v := ?_) (a' := ?_) #[true, false, false, false, false] rfl rfl (by kernel_rfl) (fun _ _ _ h => h) (Or.inl ⟨by rfl, ?_⟩) hHeld ?_ ?_
        rotate_left
        ·
         rintro w' ⟨s0, s1⟩
         go_simp
         with_reducible rfl
        rotate_left
        ·
         simp only [Act.put, List.setIfInBounds_toArray, List.set_cons_zero, List.set_cons_succ, i64_w, i32_w]
         rfl
        refine take_ (i := 1) (N := some 57) (v := ?_) (a' := ?_) #[true, true, false, false, false] rfl rfl (by kernel_rfl) (fun _ _ _ h => h) (Or.inl ⟨by rfl, ?_⟩) hHeld ?_ ?_
        rotate_left
        ·
         rintro w' ⟨s0, s1⟩
         go_simp
         with_reducible rfl
        rotate_left
        ·
         simp only [Act.put, List.setIfInBounds_toArray, List.set_cons_zero, List.set_cons_succ, i64_w, i32_w]
         rfl
        refine one_ (i := 2) (N := some 58) #[true, true, true, false, false] rfl rfl (by kernel_rfl) (by decide) (fun K hK => ?_)
        refine goes_ Try.func12 (by kernel_rfl) rfl #[.agg #[.slice A0_0 l0_0.length c0_0]] (by rfl) rfl rfl (by (try simp only [List.map_toArray, List.map_cons, List.map_nil]); first | done | rfl | (simp only [List.length_drop, List.length_take]; rfl)) ?_
        with_reducible refine (laws_toGroup.calls kj26 _ _ l0_0 t294 _ ?side1 ?side2 A60.out).mono ?_
        (case side1 => repeat (first | exact (Kd.C_below HR0_0.out HB.out) | (with_reducible refine Kd.C_alloc ?_ _) | (with_reducible refine Kd.C_drewN ?_ _) | (with_reducible refine Kd.C_drew ?_)))
        (case side2 => exact HC0_0.out)
        rintro e w67 ⟨v295, rfl, ho0, hb⟩
        refine ⟨_, rfl, ?_⟩
        have n0_ := Aside0.mk (Kd.S_elder' (by (with_reducible repeat (first | apply Kd.S_alloc | apply Kd.S_drewN | apply Kd.S_drew)); exact HO_287000.out) (Kd.S_base ho0) hb)
        have n1_ := Aside0.mk (Kd.R_below (by (with_reducible repeat (first | apply Kd.R_alloc | apply Kd.R_drewN | apply Kd.R_drew)); exact HO_292001.out) hb)
        have n2_ := Aside0.mk (Kd.S_lower (Kd.S_new' (Kd.S_new' ho0 (Kd.S_lt (by (with_reducible repeat (first | apply Kd.S_alloc | apply Kd.S_drewN | apply Kd.S_drew)); exact HO_287000.out))) (Kd.R_lt (by (with_reducible repeat (first | apply Kd.R_alloc | apply Kd.R_drewN | apply Kd.R_drew)); exact HO_292001.out))) (below_size (by repeat (first | (with_reducible first | exact HB.out | apply below_alloc | apply pw_below_drewN | apply below_drew1 | refine below_set ?_ GE270.out | refine below_set ?_ GE271.out | refine below_set ?_ GE286.out | refine below_set ?_ GE291.out) | exact HB.out))))
        have n3_ := Aside0.mk (blk_below (g := gb270) (o := .cells #[.slice A0_0 l0_0.length c0_0] 24 (0, 0)) (by (with_reducible repeat (first | refine blk_drewN ?_ _ | refine blk_drew ?_ | refine blk_alloc ?_ _)); exact BK270.out) hb)
        have n4_ := Aside0.mk (blk_below (g := gb271) (o := .cells #[.int .i64 a1_0, .slice A1_1 l1_1.length c1_1] 27 (0, 0)) (by (with_reducible repeat (first | refine blk_drewN ?_ _ | refine blk_drew ?_ | refine blk_alloc ?_ _)); exact BK271.out) hb)
        have n5_ := Aside0.mk (blk_below (g := gb286) (o := .cells #[.slice Ao44 t283.length co44] 32 (0, 0)) (by (with_reducible repeat (first | refine blk_drewN ?_ _ | refine blk_drew ?_ | refine blk_alloc ?_ _)); exact BK286.out) hb)
        have n6_ := Aside0.mk (blk_below (g := gb291) (o := .cells #[.int .i64 t287, .slice Ao55 t288.length co55] 34 (0, 0)) (by (with_reducible repeat (first | refine blk_drewN ?_ _ | refine blk_drew ?_ | refine blk_alloc ?_ _)); exact BK291.out) hb)
        have n7_ := Aside0.mk (below_step (by repeat (first | (with_reducible first | exact HB.out | apply below_alloc | apply pw_below_drewN | apply below_drew1 | refine below_set ?_ GE270.out | refine below_set ?_ GE271.out | refine below_set ?_ GE286.out | refine below_set ?_ GE291.out) | exact HB.out)) hb)
        clear HO_287000
        clear HO_292001
        clear BK270
        clear BK271
        clear BK286
        clear BK291
        clear HB
        have HO_287000 := n0_
        have HO_292001 := n1_
        have HO296 := n2_
        have BK270 := n3_
        have BK271 := n4_
        have BK286 := n5_
        have BK291 := n6_
        have HB := n7_
        clear n0_ n1_ n2_ n3_ n4_ n5_ n6_ n7_
        (try clear hb)
        (try clear hb2)
        (try clear hk)
        (try clear hi)
        (try clear ho0)
        obtain ⟨Ao68, co68, eo68⟩ := Kd.S_slice HO296.out
        (first | subst eo68 | (injection eo68 with f1_ f2_ f3_; have f4_ := f1_.symm; have f5_ := f3_.symm; clear f1_ f2_ f3_; subst f4_; subst f5_))
        refine hK.out _ _ ⟨(blk_cell BK286.out 0).trans rfl, (blk_cell BK270.out 0).trans rfl⟩ (fun hHeld => ?_)
        clear hK K
        refine norm_ (a' := ?_) ?_ ?_
        rotate_left
        ·
         show Act.put _ (some 58) _ = _
         simp only [Act.put, List.setIfInBounds_toArray, List.set_cons_zero, List.set_cons_succ, i64_w, i32_w]
         rfl
        refine one_ (i := 3) (N := some 59) #[true, true, true, true, false] rfl rfl (by kernel_rfl) (by decide) (fun K hK => ?_)
        refine goes_ Try.func15 (by kernel_rfl) rfl #[.agg #[.slice Ao44 t283.length co44], .agg #[.slice Ao68 t294.length co68]] (by rfl) rfl rfl (by (try simp only [List.map_toArray, List.map_cons, List.map_nil]); first | done | rfl | (simp only [List.length_drop, List.length_take]; rfl)) ?_
        with_reducible refine (laws_eqGroup.calls kj26 _ _ t283 _ _ t294 true _ ?side1 ?side2 ?side3 ?side4 A61.out).mono ?_
        (case side1 => repeat (first | exact (Kd.S_reads' HO_287000.out).2.2 | (with_reducible refine Kd.C_alloc ?_ _) | (with_reducible refine Kd.C_drewN ?_ _) | (with_reducible refine Kd.C_drew ?_)))
        (case side2 => exact (Kd.S_reads' HO_287000.out).2.1)
        (case side3 => repeat (first | exact (Kd.S_reads' HO296.out).2.2 | (with_reducible refine Kd.C_alloc ?_ _) | (with_reducible refine Kd.C_drewN ?_ _) | (with_reducible refine Kd.C_drew ?_)))
        (case side4 => exact (Kd.S_reads' HO296.out).2.1)
        rintro e w69 ⟨rfl, hb⟩
        refine ⟨_, rfl, ?_⟩
        have n0_ := Aside0.mk (Kd.S_below (by (with_reducible repeat (first | apply Kd.S_alloc | apply Kd.S_drewN | apply Kd.S_drew)); exact HO_287000.out) hb)
        have n1_ := Aside0.mk (Kd.R_below (by (with_reducible repeat (first | apply Kd.R_alloc | apply Kd.R_drewN | apply Kd.R_drew)); exact HO_292001.out) hb)
        have n2_ := Aside0.mk (Kd.S_below (by (with_reducible repeat (first | apply Kd.S_alloc | apply Kd.S_drewN | apply Kd.S_drew)); exact HO296.out) hb)
        have n3_ := Aside0.mk (blk_below (g := gb270) (o := .cells #[.slice A0_0 l0_0.length c0_0] 24 (0, 0)) (by (with_reducible repeat (first | refine blk_drewN ?_ _ | refine blk_drew ?_ | refine blk_alloc ?_ _)); exact BK270.out) hb)
        have n4_ := Aside0.mk (blk_below (g := gb271) (o := .cells #[.int .i64 a1_0, .slice A1_1 l1_1.length c1_1] 27 (0, 0)) (by (with_reducible repeat (first | refine blk_drewN ?_ _ | refine blk_drew ?_ | refine blk_alloc ?_ _)); exact BK271.out) hb)
        have n5_ := Aside0.mk (blk_below (g := gb286) (o := .cells #[.slice Ao44 t283.length co44] 32 (0, 0)) (by (with_reducible repeat (first | refine blk_drewN ?_ _ | refine blk_drew ?_ | refine blk_alloc ?_ _)); exact BK286.out) hb)
        have n6_ := Aside0.mk (blk_below (g := gb291) (o := .cells #[.int .i64 t287, .slice Ao55 t288.length co55] 34 (0, 0)) (by (with_reducible repeat (first | refine blk_drewN ?_ _ | refine blk_drew ?_ | refine blk_alloc ?_ _)); exact BK291.out) hb)
        have n7_ := Aside0.mk (below_step (by repeat (first | (with_reducible first | exact HB.out | apply below_alloc | apply pw_below_drewN | apply below_drew1 | refine below_set ?_ GE270.out | refine below_set ?_ GE271.out | refine below_set ?_ GE286.out | refine below_set ?_ GE291.out) | exact HB.out)) hb)
        clear HO_287000
        clear HO_292001
        clear HO296
        clear BK270
        clear BK271
        clear BK286
        clear BK291
        clear HB
        have HO_287000 := n0_
        have HO_292001 := n1_
        have HO296 := n2_
        have BK270 := n3_
        have BK271 := n4_
        have BK286 := n5_
        have BK291 := n6_
        have HB := n7_
        clear n0_ n1_ n2_ n3_ n4_ n5_ n6_ n7_
        (try clear hb)
        (try clear hb2)
        (try clear hk)
        (try clear hi)
        refine hK.out _ _ ⟨(blk_cell BK286.out 0).trans rfl, (blk_cell BK270.out 0).trans rfl⟩ (fun hHeld => ?_)
        clear hK K
        refine norm_ (a' := ?_) ?_ ?_
        rotate_left
        ·
         show Act.put _ (some 59) _ = _
         simp only [Act.put, List.setIfInBounds_toArray, List.set_cons_zero, List.set_cons_succ, i64_w, i32_w]
         rfl
        refine pure_ (i := 4) (N := some 60) (v := ?_) (a' := ?_) #[true, true, true, true, true] rfl rfl (by kernel_rfl) (fun _ _ _ h => h) (Or.inl ⟨by rfl, ?_⟩) ?_ ?_
        rotate_left
        ·
         intro w'
         go_simp
         with_reducible rfl
        rotate_left
        ·
         simp only [Act.put, List.setIfInBounds_toArray, List.set_cons_zero, List.set_cons_succ, i64_w, i32_w]
         rfl
        refine done_ (by kernel_rfl) ?_
        try go_wp2
        have n0_ := Aside0.mk (Kd.S_drew HO_287000.out)
        have n1_ := Aside0.mk (Kd.R_drew HO_292001.out)
        have n2_ := Aside0.mk (Kd.S_drew HO296.out)
        have n3_ := Aside0.mk (blk_drew BK270.out)
        have n4_ := Aside0.mk (blk_drew BK271.out)
        have n5_ := Aside0.mk (blk_drew BK286.out)
        have n6_ := Aside0.mk (blk_drew BK291.out)
        have n7_ := Aside0.mk (below_drew1 HB.out)
        clear HO_287000
        clear HO_292001
        clear HO296
        clear BK270
        clear BK271
        clear BK286
        clear BK291
        clear HB
        have HO_287000 := n0_
        have HO_292001 := n1_
        have HO296 := n2_
        have BK270 := n3_
        have BK271 := n4_
        have BK286 := n5_
        have BK291 := n6_
        have HB := n7_
        clear n0_ n1_ n2_ n3_ n4_ n5_ n6_ n7_
        refine start_ (n := 5) (S := fun w' => w'.cell? ⟨gb291, 0, none⟩ = some (.int .i64 t287) ∧ w'.cell? ⟨gb291, 1, none⟩ = some (.slice Ao55 t288.length co55) ∧ w'.cell? ⟨gb271, 0, none⟩ = some (.int .i64 a1_0) ∧ w'.cell? ⟨gb271, 1, none⟩ = some (.slice A1_1 l1_1.length c1_1)) (ds := []) #[false, false, false, false, false] (by kernel_rfl) rfl rfl ⟨(blk_cell BK291.out 0).trans rfl, (blk_cell BK291.out 1).trans rfl, (blk_cell BK271.out 0).trans rfl, (blk_cell BK271.out 1).trans rfl⟩ (fun hHeld => ?_)
        generalize w69.drew = w70 at HO_287000 HO_292001 HO296 BK270 BK271 BK286 BK291 HB hHeld ⊢
        refine take_ (i := 0) (N := some 61) (v := ?_) (a' := ?_) #[true, false, false, false, false] rfl rfl (by kernel_rfl) (fun _ _ _ h => h) (Or.inl ⟨by rfl, ?_⟩) hHeld ?_ ?_
        rotate_left
        ·
         rintro w' ⟨s0, s1, s2, s3⟩
         go_simp
         with_reducible rfl
        rotate_left
        ·
         simp only [Act.put, List.setIfInBounds_toArray, List.set_cons_zero, List.set_cons_succ, i64_w, i32_w]
         rfl
        refine take_ (i := 1) (N := some 62) (v := ?_) (a' := ?_) #[true, true, false, false, false] rfl rfl (by kernel_rfl) (fun _ _ _ h => h) (Or.inl ⟨by rfl, ?_⟩) hHeld ?_ ?_
        rotate_left
        ·
         rintro w' ⟨s0, s1, s2, s3⟩
         go_simp
         with_reducible rfl
        rotate_left
        ·
         simp only [Act.put, List.setIfInBounds_toArray, List.set_cons_zero, List.set_cons_succ, i64_w, i32_w]
         rfl
        refine one_ (i := 2) (N := some 63) #[true, true, true, false, false] rfl rfl (by kernel_rfl) (by decide) (fun K hK => ?_)
        refine goes_ Try.func13 (by kernel_rfl) rfl #[.agg #[.int .i64 a1_0, .slice A1_1 l1_1.length c1_1]] (by rfl) rfl rfl (by (try simp only [List.map_toArray, List.map_cons, List.map_nil]); first | done | rfl | (simp only [List.length_drop, List.length_take]; rfl)) ?_
        with_reducible refine (laws_toModule.calls kj26 a1_0 _ _ l1_1 t298 t299 _ ?side1 ?side2 A63.out).mono ?_
        (case side1 => repeat (first | exact (Kd.C_below HR1_1.out HB.out) | (with_reducible refine Kd.C_alloc ?_ _) | (with_reducible refine Kd.C_drewN ?_ _) | (with_reducible refine Kd.C_drew ?_)))
        (case side2 => exact HC1_1.out)
        rintro e w71 ⟨v300, rfl, ho0, hb⟩
        refine ⟨_, rfl, ?_⟩
        have n0_ := Aside0.mk (Kd.S_elder' (by (with_reducible repeat (first | apply Kd.S_alloc | apply Kd.S_drewN | apply Kd.S_drew)); exact HO_287000.out) (Kd.R_base ho0) hb)
        have n1_ := Aside0.mk (Kd.R_elder' (by (with_reducible repeat (first | apply Kd.R_alloc | apply Kd.R_drewN | apply Kd.R_drew)); exact HO_292001.out) (Kd.R_base ho0) hb)
        have n2_ := Aside0.mk (Kd.S_elder' (by (with_reducible repeat (first | apply Kd.S_alloc | apply Kd.S_drewN | apply Kd.S_drew)); exact HO296.out) (Kd.R_base ho0) hb)
        have n3_ := Aside0.mk (Kd.R_lower (Kd.R_new' ho0 (Kd.R_lt (by (with_reducible repeat (first | apply Kd.R_alloc | apply Kd.R_drewN | apply Kd.R_drew)); exact HO_292001.out))) (below_size (by repeat (first | (with_reducible first | exact HB.out | apply below_alloc | apply pw_below_drewN | apply below_drew1 | refine below_set ?_ GE270.out | refine below_set ?_ GE271.out | refine below_set ?_ GE286.out | refine below_set ?_ GE291.out) | exact HB.out))))
        have n4_ := Aside0.mk (blk_below (g := gb270) (o := .cells #[.slice A0_0 l0_0.length c0_0] 24 (0, 0)) (by (with_reducible repeat (first | refine blk_drewN ?_ _ | refine blk_drew ?_ | refine blk_alloc ?_ _)); exact BK270.out) hb)
        have n5_ := Aside0.mk (blk_below (g := gb271) (o := .cells #[.int .i64 a1_0, .slice A1_1 l1_1.length c1_1] 27 (0, 0)) (by (with_reducible repeat (first | refine blk_drewN ?_ _ | refine blk_drew ?_ | refine blk_alloc ?_ _)); exact BK271.out) hb)
        have n6_ := Aside0.mk (blk_below (g := gb286) (o := .cells #[.slice Ao44 t283.length co44] 32 (0, 0)) (by (with_reducible repeat (first | refine blk_drewN ?_ _ | refine blk_drew ?_ | refine blk_alloc ?_ _)); exact BK286.out) hb)
        have n7_ := Aside0.mk (blk_below (g := gb291) (o := .cells #[.int .i64 t287, .slice Ao55 t288.length co55] 34 (0, 0)) (by (with_reducible repeat (first | refine blk_drewN ?_ _ | refine blk_drew ?_ | refine blk_alloc ?_ _)); exact BK291.out) hb)
        have n8_ := Aside0.mk (below_step (by repeat (first | (with_reducible first | exact HB.out | apply below_alloc | apply pw_below_drewN | apply below_drew1 | refine below_set ?_ GE270.out | refine below_set ?_ GE271.out | refine below_set ?_ GE286.out | refine below_set ?_ GE291.out) | exact HB.out)) hb)
        clear HO_287000
        clear HO_292001
        clear HO296
        clear BK270
        clear BK271
        clear BK286
        clear BK291
        clear HB
        have HO_287000 := n0_
        have HO_292001 := n1_
        have HO296 := n2_
        have HO301 := n3_
        have BK270 := n4_
        have BK271 := n5_
        have BK286 := n6_
        have BK291 := n7_
        have HB := n8_
        clear n0_ n1_ n2_ n3_ n4_ n5_ n6_ n7_ n8_
        (try clear hb)
        (try clear hb2)
        (try clear hk)
        (try clear hi)
        (try clear ho0)
        obtain ⟨Ao72, co72, eo72⟩ := Kd.R_slice HO301.out
        (first | subst eo72 | (injection eo72 with f1_ f2_ f3_; have f4_ := f1_.symm; have f5_ := f3_.symm; clear f1_ f2_ f3_; subst f4_; subst f5_))
        refine hK.out _ _ ⟨(blk_cell BK291.out 0).trans rfl, (blk_cell BK291.out 1).trans rfl, (blk_cell BK271.out 0).trans rfl, (blk_cell BK271.out 1).trans rfl⟩ (fun hHeld => ?_)
        clear hK K
        refine norm_ (a' := ?_) ?_ ?_
        rotate_left
        ·
         show Act.put _ (some 63) _ = _
         simp only [Act.put, List.setIfInBounds_toArray, List.set_cons_zero, List.set_cons_succ, i64_w, i32_w]
         rfl
        refine one_ (i := 3) (N := some 64) #[true, true, true, true, false] rfl rfl (by kernel_rfl) (by decide) (fun K hK => ?_)
        refine goes_ Try.func16 (by kernel_rfl) rfl #[.agg #[.int .i64 t287, .slice Ao55 t288.length co55], .agg #[.int .i64 t298, .slice Ao72 t299.length co72]] (by rfl) rfl rfl (by (try simp only [List.map_toArray, List.map_cons, List.map_nil]); first | done | rfl | (simp only [List.length_drop, List.length_take]; rfl)) ?_
        with_reducible refine (laws_eqModule.calls kj26 t287 _ _ t288 t298 _ _ t299 true _ ?side1 ?side2 ?side3 ?side4 A64.out).mono ?_
        (case side1 => repeat (first | exact (Kd.R_reads' HO_292001.out).2.2 | (with_reducible refine Kd.C_alloc ?_ _) | (with_reducible refine Kd.C_drewN ?_ _) | (with_reducible refine Kd.C_drew ?_)))
        (case side2 => exact (Kd.R_reads' HO_292001.out).2.1)
        (case side3 => repeat (first | exact (Kd.R_reads' HO301.out).2.2 | (with_reducible refine Kd.C_alloc ?_ _) | (with_reducible refine Kd.C_drewN ?_ _) | (with_reducible refine Kd.C_drew ?_)))
        (case side4 => exact (Kd.R_reads' HO301.out).2.1)
        rintro e w73 ⟨rfl, hb⟩
        refine ⟨_, rfl, ?_⟩
        have n0_ := Aside0.mk (Kd.S_below (by (with_reducible repeat (first | apply Kd.S_alloc | apply Kd.S_drewN | apply Kd.S_drew)); exact HO_287000.out) hb)
        have n1_ := Aside0.mk (Kd.R_below (by (with_reducible repeat (first | apply Kd.R_alloc | apply Kd.R_drewN | apply Kd.R_drew)); exact HO_292001.out) hb)
        have n2_ := Aside0.mk (Kd.S_below (by (with_reducible repeat (first | apply Kd.S_alloc | apply Kd.S_drewN | apply Kd.S_drew)); exact HO296.out) hb)
        have n3_ := Aside0.mk (Kd.R_below (by (with_reducible repeat (first | apply Kd.R_alloc | apply Kd.R_drewN | apply Kd.R_drew)); exact HO301.out) hb)
        have n4_ := Aside0.mk (blk_below (g := gb270) (o := .cells #[.slice A0_0 l0_0.length c0_0] 24 (0, 0)) (by (with_reducible repeat (first | refine blk_drewN ?_ _ | refine blk_drew ?_ | refine blk_alloc ?_ _)); exact BK270.out) hb)
        have n5_ := Aside0.mk (blk_below (g := gb271) (o := .cells #[.int .i64 a1_0, .slice A1_1 l1_1.length c1_1] 27 (0, 0)) (by (with_reducible repeat (first | refine blk_drewN ?_ _ | refine blk_drew ?_ | refine blk_alloc ?_ _)); exact BK271.out) hb)
        have n6_ := Aside0.mk (blk_below (g := gb286) (o := .cells #[.slice Ao44 t283.length co44] 32 (0, 0)) (by (with_reducible repeat (first | refine blk_drewN ?_ _ | refine blk_drew ?_ | refine blk_alloc ?_ _)); exact BK286.out) hb)
        have n7_ := Aside0.mk (blk_below (g := gb291) (o := .cells #[.int .i64 t287, .slice Ao55 t288.length co55] 34 (0, 0)) (by (with_reducible repeat (first | refine blk_drewN ?_ _ | refine blk_drew ?_ | refine blk_alloc ?_ _)); exact BK291.out) hb)
        have n8_ := Aside0.mk (below_step (by repeat (first | (with_reducible first | exact HB.out | apply below_alloc | apply pw_below_drewN | apply below_drew1 | refine below_set ?_ GE270.out | refine below_set ?_ GE271.out | refine below_set ?_ GE286.out | refine below_set ?_ GE291.out) | exact HB.out)) hb)
        clear HO_287000
        clear HO_292001
        clear HO296
        clear HO301
        clear BK270
        clear BK271
        clear BK286
        clear BK291
        clear HB
        have HO_287000 := n0_
        have HO_292001 := n1_
        have HO296 := n2_
        have HO301 := n3_
        have BK270 := n4_
        have BK271 := n5_
        have BK286 := n6_
        have BK291 := n7_
        have HB := n8_
        clear n0_ n1_ n2_ n3_ n4_ n5_ n6_ n7_ n8_
        (try clear hb)
        (try clear hb2)
        (try clear hk)
        (try clear hi)
        refine hK.out _ _ ⟨(blk_cell BK291.out 0).trans rfl, (blk_cell BK291.out 1).trans rfl, (blk_cell BK271.out 0).trans rfl, (blk_cell BK271.out 1).trans rfl⟩ (fun hHeld => ?_)
        clear hK K
        refine norm_ (a' := ?_) ?_ ?_
        rotate_left
        ·
         show Act.put _ (some 64) _ = _
         simp only [Act.put, List.setIfInBounds_toArray, List.set_cons_zero, List.set_cons_succ, i64_w, i32_w]
         rfl
        refine pure_ (i := 4) (N := some 65) (v := ?_) (a' := ?_) #[true, true, true, true, true] rfl rfl (by kernel_rfl) (fun _ _ _ h => h) (Or.inl ⟨by rfl, ?_⟩) ?_ ?_
        rotate_left
        ·
         intro w'
         go_simp
         with_reducible rfl
        rotate_left
        ·
         simp only [Act.put, List.setIfInBounds_toArray, List.set_cons_zero, List.set_cons_succ, i64_w, i32_w]
         rfl
        refine done_ (by kernel_rfl) ?_
        try go_wp2
        go_ret
        exact ⟨by first | rfl | (simp [errW_none, errW_some] <;> rfl) | (simp [*, errW_none, errW_some] <;> rfl), by repeat (first | (with_reducible first | exact HB.out | apply below_alloc | apply pw_below_drewN | apply below_drew1 | refine below_set ?_ GE270.out | refine below_set ?_ GE271.out | refine below_set ?_ GE286.out | refine below_set ?_ GE291.out) | exact HB.out)⟩
       ·
        replace c65 := Bool.eq_false_iff.mpr c65
        subst c65
        have H1 : (some false) = some r := by rw [if_neg (show ¬ (false = true) by decide)] at H; exact H
        clear H
        have H := H1
        clear H1
        obtain rfl := Option.some.inj H
        try go_wp2
        have n0_ := Aside0.mk (Kd.S_drew HO_287000.out)
        have n1_ := Aside0.mk (Kd.R_drew HO_292001.out)
        have n2_ := Aside0.mk (blk_drew BK270.out)
        have n3_ := Aside0.mk (blk_drew BK271.out)
        have n4_ := Aside0.mk (blk_drew BK286.out)
        have n5_ := Aside0.mk (blk_drew BK291.out)
        have n6_ := Aside0.mk (below_drew1 HB.out)
        clear HO_287000
        clear HO_292001
        clear BK270
        clear BK271
        clear BK286
        clear BK291
        clear HB
        have HO_287000 := n0_
        have HO_292001 := n1_
        have BK270 := n2_
        have BK271 := n3_
        have BK286 := n4_
        have BK291 := n5_
        have HB := n6_
        clear n0_ n1_ n2_ n3_ n4_ n5_ n6_
        refine start_ (n := 5) (S := fun w' => w'.cell? ⟨gb286, 0, none⟩ = some (.slice Ao44 t283.length co44) ∧ w'.cell? ⟨gb270, 0, none⟩ = some (.slice A0_0 l0_0.length c0_0)) (ds := []) #[false, false, false, false, false] (by kernel_rfl) rfl rfl ⟨(blk_cell BK286.out 0).trans rfl, (blk_cell BK270.out 0).trans rfl⟩ (fun hHeld => ?_)
        generalize wc.drew = w74 at HO_287000 HO_292001 BK270 BK271 BK286 BK291 HB hHeld ⊢
        refine take_ (i := 0) (N := some 56) (v := ?_) (a' := ?_) #[true, false, false, false, false] rfl rfl (by kernel_rfl) (fun _ _ _ h => h) (Or.inl ⟨by rfl, ?_⟩) hHeld ?_ ?_
        rotate_left
        ·
         rintro w' ⟨s0, s1⟩
         go_simp
         with_reducible rfl
        rotate_left
        ·
         simp only [Act.put, List.setIfInBounds_toArray, List.set_cons_zero, List.set_cons_succ, i64_w, i32_w]
         rfl
        refine take_ (i := 1) (N := some 57) (v := ?_) (a' := ?_) #[true, true, false, false, false] rfl rfl (by kernel_rfl) (fun _ _ _ h => h) (Or.inl ⟨by rfl, ?_⟩) hHeld ?_ ?_
        rotate_left
        ·
         rintro w' ⟨s0, s1⟩
         go_simp
         with_reducible rfl
        rotate_left
        ·
         simp only [Act.put, List.setIfInBounds_toArray, List.set_cons_zero, List.set_cons_succ, i64_w, i32_w]
         rfl
        refine one_ (i := 2) (N := some 58) #[true, true, true, false, false] rfl rfl (by kernel_rfl) (by decide) (fun K hK => ?_)
        refine goes_ Try.func12 (by kernel_rfl) rfl #[.agg #[.slice A0_0 l0_0.length c0_0]] (by rfl) rfl rfl (by (try simp only [List.map_toArray, List.map_cons, List.map_nil]); first | done | rfl | (simp only [List.length_drop, List.length_take]; rfl)) ?_
        with_reducible refine (laws_toGroup.calls kj26 _ _ l0_0 t294 _ ?side1 ?side2 A60.out).mono ?_
        (case side1 => repeat (first | exact (Kd.C_below HR0_0.out HB.out) | (with_reducible refine Kd.C_alloc ?_ _) | (with_reducible refine Kd.C_drewN ?_ _) | (with_reducible refine Kd.C_drew ?_)))
        (case side2 => exact HC0_0.out)
        rintro e w75 ⟨v295, rfl, ho0, hb⟩
        refine ⟨_, rfl, ?_⟩
        have n0_ := Aside0.mk (Kd.S_elder' (by (with_reducible repeat (first | apply Kd.S_alloc | apply Kd.S_drewN | apply Kd.S_drew)); exact HO_287000.out) (Kd.S_base ho0) hb)
        have n1_ := Aside0.mk (Kd.R_below (by (with_reducible repeat (first | apply Kd.R_alloc | apply Kd.R_drewN | apply Kd.R_drew)); exact HO_292001.out) hb)
        have n2_ := Aside0.mk (Kd.S_lower (Kd.S_new' (Kd.S_new' ho0 (Kd.S_lt (by (with_reducible repeat (first | apply Kd.S_alloc | apply Kd.S_drewN | apply Kd.S_drew)); exact HO_287000.out))) (Kd.R_lt (by (with_reducible repeat (first | apply Kd.R_alloc | apply Kd.R_drewN | apply Kd.R_drew)); exact HO_292001.out))) (below_size (by repeat (first | (with_reducible first | exact HB.out | apply below_alloc | apply pw_below_drewN | apply below_drew1 | refine below_set ?_ GE270.out | refine below_set ?_ GE271.out | refine below_set ?_ GE286.out | refine below_set ?_ GE291.out) | exact HB.out))))
        have n3_ := Aside0.mk (blk_below (g := gb270) (o := .cells #[.slice A0_0 l0_0.length c0_0] 24 (0, 0)) (by (with_reducible repeat (first | refine blk_drewN ?_ _ | refine blk_drew ?_ | refine blk_alloc ?_ _)); exact BK270.out) hb)
        have n4_ := Aside0.mk (blk_below (g := gb271) (o := .cells #[.int .i64 a1_0, .slice A1_1 l1_1.length c1_1] 27 (0, 0)) (by (with_reducible repeat (first | refine blk_drewN ?_ _ | refine blk_drew ?_ | refine blk_alloc ?_ _)); exact BK271.out) hb)
        have n5_ := Aside0.mk (blk_below (g := gb286) (o := .cells #[.slice Ao44 t283.length co44] 32 (0, 0)) (by (with_reducible repeat (first | refine blk_drewN ?_ _ | refine blk_drew ?_ | refine blk_alloc ?_ _)); exact BK286.out) hb)
        have n6_ := Aside0.mk (blk_below (g := gb291) (o := .cells #[.int .i64 t287, .slice Ao55 t288.length co55] 34 (0, 0)) (by (with_reducible repeat (first | refine blk_drewN ?_ _ | refine blk_drew ?_ | refine blk_alloc ?_ _)); exact BK291.out) hb)
        have n7_ := Aside0.mk (below_step (by repeat (first | (with_reducible first | exact HB.out | apply below_alloc | apply pw_below_drewN | apply below_drew1 | refine below_set ?_ GE270.out | refine below_set ?_ GE271.out | refine below_set ?_ GE286.out | refine below_set ?_ GE291.out) | exact HB.out)) hb)
        clear HO_287000
        clear HO_292001
        clear BK270
        clear BK271
        clear BK286
        clear BK291
        clear HB
        have HO_287000 := n0_
        have HO_292001 := n1_
        have HO296 := n2_
        have BK270 := n3_
        have BK271 := n4_
        have BK286 := n5_
        have BK291 := n6_
        have HB := n7_
        clear n0_ n1_ n2_ n3_ n4_ n5_ n6_ n7_
        (try clear hb)
        (try clear hb2)
        (try clear hk)
        (try clear hi)
        (try clear ho0)
        obtain ⟨Ao76, co76, eo76⟩ := Kd.S_slice HO296.out
        (first | subst eo76 | (injection eo76 with f1_ f2_ f3_; have f4_ := f1_.symm; have f5_ := f3_.symm; clear f1_ f2_ f3_; subst f4_; subst f5_))
        refine hK.out _ _ ⟨(blk_cell BK286.out 0).trans rfl, (blk_cell BK270.out 0).trans rfl⟩ (fun hHeld => ?_)
        clear hK K
        refine norm_ (a' := ?_) ?_ ?_
        rotate_left
        ·
         show Act.put _ (some 58) _ = _
         simp only [Act.put, List.setIfInBounds_toArray, List.set_cons_zero, List.set_cons_succ, i64_w, i32_w]
         rfl
        refine one_ (i := 3) (N := some 59) #[true, true, true, true, false] rfl rfl (by kernel_rfl) (by decide) (fun K hK => ?_)
        refine goes_ Try.func15 (by kernel_rfl) rfl #[.agg #[.slice Ao44 t283.length co44], .agg #[.slice Ao76 t294.length co76]] (by rfl) rfl rfl (by (try simp only [List.map_toArray, List.map_cons, List.map_nil]); first | done | rfl | (simp only [List.length_drop, List.length_take]; rfl)) ?_
        with_reducible refine (laws_eqGroup.calls kj26 _ _ t283 _ _ t294 true _ ?side1 ?side2 ?side3 ?side4 A61.out).mono ?_
        (case side1 => repeat (first | exact (Kd.S_reads' HO_287000.out).2.2 | (with_reducible refine Kd.C_alloc ?_ _) | (with_reducible refine Kd.C_drewN ?_ _) | (with_reducible refine Kd.C_drew ?_)))
        (case side2 => exact (Kd.S_reads' HO_287000.out).2.1)
        (case side3 => repeat (first | exact (Kd.S_reads' HO296.out).2.2 | (with_reducible refine Kd.C_alloc ?_ _) | (with_reducible refine Kd.C_drewN ?_ _) | (with_reducible refine Kd.C_drew ?_)))
        (case side4 => exact (Kd.S_reads' HO296.out).2.1)
        rintro e w77 ⟨rfl, hb⟩
        refine ⟨_, rfl, ?_⟩
        have n0_ := Aside0.mk (Kd.S_below (by (with_reducible repeat (first | apply Kd.S_alloc | apply Kd.S_drewN | apply Kd.S_drew)); exact HO_287000.out) hb)
        have n1_ := Aside0.mk (Kd.R_below (by (with_reducible repeat (first | apply Kd.R_alloc | apply Kd.R_drewN | apply Kd.R_drew)); exact HO_292001.out) hb)
        have n2_ := Aside0.mk (Kd.S_below (by (with_reducible repeat (first | apply Kd.S_alloc | apply Kd.S_drewN | apply Kd.S_drew)); exact HO296.out) hb)
        have n3_ := Aside0.mk (blk_below (g := gb270) (o := .cells #[.slice A0_0 l0_0.length c0_0] 24 (0, 0)) (by (with_reducible repeat (first | refine blk_drewN ?_ _ | refine blk_drew ?_ | refine blk_alloc ?_ _)); exact BK270.out) hb)
        have n4_ := Aside0.mk (blk_below (g := gb271) (o := .cells #[.int .i64 a1_0, .slice A1_1 l1_1.length c1_1] 27 (0, 0)) (by (with_reducible repeat (first | refine blk_drewN ?_ _ | refine blk_drew ?_ | refine blk_alloc ?_ _)); exact BK271.out) hb)
        have n5_ := Aside0.mk (blk_below (g := gb286) (o := .cells #[.slice Ao44 t283.length co44] 32 (0, 0)) (by (with_reducible repeat (first | refine blk_drewN ?_ _ | refine blk_drew ?_ | refine blk_alloc ?_ _)); exact BK286.out) hb)
        have n6_ := Aside0.mk (blk_below (g := gb291) (o := .cells #[.int .i64 t287, .slice Ao55 t288.length co55] 34 (0, 0)) (by (with_reducible repeat (first | refine blk_drewN ?_ _ | refine blk_drew ?_ | refine blk_alloc ?_ _)); exact BK291.out) hb)
        have n7_ := Aside0.mk (below_step (by repeat (first | (with_reducible first | exact HB.out | apply below_alloc | apply pw_below_drewN | apply below_drew1 | refine below_set ?_ GE270.out | refine below_set ?_ GE271.out | refine below_set ?_ GE286.out | refine below_set ?_ GE291.out) | exact HB.out)) hb)
        clear HO_287000
        clear HO_292001
        clear HO296
        clear BK270
        clear BK271
        clear BK286
        clear BK291
        clear HB
        have HO_287000 := n0_
        have HO_292001 := n1_
        have HO296 := n2_
        have BK270 := n3_
        have BK271 := n4_
        have BK286 := n5_
        have BK291 := n6_
        have HB := n7_
        clear n0_ n1_ n2_ n3_ n4_ n5_ n6_ n7_
        (try clear hb)
        (try clear hb2)
        (try clear hk)
        (try clear hi)
        refine hK.out _ _ ⟨(blk_cell BK286.out 0).trans rfl, (blk_cell BK270.out 0).trans rfl⟩ (fun hHeld => ?_)
        clear hK K
        refine norm_ (a' := ?_) ?_ ?_
        rotate_left
        ·
         show Act.put _ (some 59) _ = _
         simp only [Act.put, List.setIfInBounds_toArray, List.set_cons_zero, List.set_cons_succ, i64_w, i32_w]
         rfl
        refine pure_ (i := 4) (N := some 60) (v := ?_) (a' := ?_) #[true, true, true, true, true] rfl rfl (by kernel_rfl) (fun _ _ _ h => h) (Or.inl ⟨by rfl, ?_⟩) ?_ ?_
        rotate_left
        ·
         intro w'
         go_simp
         with_reducible rfl
        rotate_left
        ·
         simp only [Act.put, List.setIfInBounds_toArray, List.set_cons_zero, List.set_cons_succ, i64_w, i32_w]
         rfl
        refine done_ (by kernel_rfl) ?_
        try go_wp2
        have n0_ := Aside0.mk (Kd.S_drew HO_287000.out)
        have n1_ := Aside0.mk (Kd.R_drew HO_292001.out)
        have n2_ := Aside0.mk (Kd.S_drew HO296.out)
        have n3_ := Aside0.mk (blk_drew BK270.out)
        have n4_ := Aside0.mk (blk_drew BK271.out)
        have n5_ := Aside0.mk (blk_drew BK286.out)
        have n6_ := Aside0.mk (blk_drew BK291.out)
        have n7_ := Aside0.mk (below_drew1 HB.out)
        clear HO_287000
        clear HO_292001
        clear HO296
        clear BK270
        clear BK271
        clear BK286
        clear BK291
        clear HB
        have HO_287000 := n0_
        have HO_292001 := n1_
        have HO296 := n2_
        have BK270 := n3_
        have BK271 := n4_
        have BK286 := n5_
        have BK291 := n6_
        have HB := n7_
        clear n0_ n1_ n2_ n3_ n4_ n5_ n6_ n7_
        refine start_ (n := 5) (S := fun w' => w'.cell? ⟨gb291, 0, none⟩ = some (.int .i64 t287) ∧ w'.cell? ⟨gb291, 1, none⟩ = some (.slice Ao55 t288.length co55) ∧ w'.cell? ⟨gb271, 0, none⟩ = some (.int .i64 a1_0) ∧ w'.cell? ⟨gb271, 1, none⟩ = some (.slice A1_1 l1_1.length c1_1)) (ds := []) #[false, false, false, false, false] (by kernel_rfl) rfl rfl ⟨(blk_cell BK291.out 0).trans rfl, (blk_cell BK291.out 1).trans rfl, (blk_cell BK271.out 0).trans rfl, (blk_cell BK271.out 1).trans rfl⟩ (fun hHeld => ?_)
        generalize w77.drew = w78 at HO_287000 HO_292001 HO296 BK270 BK271 BK286 BK291 HB hHeld ⊢
        refine take_ (i := 0) (N := some 61) (v := ?_) (a' := ?_) #[true, false, false, false, false] rfl rfl (by kernel_rfl) (fun _ _ _ h => h) (Or.inl ⟨by rfl, ?_⟩) hHeld ?_ ?_
        rotate_left
        ·
         rintro w' ⟨s0, s1, s2, s3⟩
         go_simp
         with_reducible rfl
        rotate_left
        ·
         simp only [Act.put, List.setIfInBounds_toArray, List.set_cons_zero, List.set_cons_succ, i64_w, i32_w]
         rfl
        refine take_ (i := 1) (N := some 62) (v := ?_) (a' := ?_) #[true, true, false, false, false] rfl rfl (by kernel_rfl) (fun _ _ _ h => h) (Or.inl ⟨by rfl, ?_⟩) hHeld ?_ ?_
        rotate_left
        ·
         rintro w' ⟨s0, s1, s2, s3⟩
         go_simp
         with_reducible rfl
        rotate_left
        ·
         simp only [Act.put, List.setIfInBounds_toArray, List.set_cons_zero, List.set_cons_succ, i64_w, i32_w]
         rfl
        refine one_ (i := 2) (N := some 63) #[true, true, true, false, false] rfl rfl (by kernel_rfl) (by decide) (fun K hK => ?_)
        refine goes_ Try.func13 (by kernel_rfl) rfl #[.agg #[.int .i64 a1_0, .slice A1_1 l1_1.length c1_1]] (by rfl) rfl rfl (by (try simp only [List.map_toArray, List.map_cons, List.map_nil]); first | done | rfl | (simp only [List.length_drop, List.length_take]; rfl)) ?_
        with_reducible refine (laws_toModule.calls kj26 a1_0 _ _ l1_1 t298 t299 _ ?side1 ?side2 A63.out).mono ?_
        (case side1 => repeat (first | exact (Kd.C_below HR1_1.out HB.out) | (with_reducible refine Kd.C_alloc ?_ _) | (with_reducible refine Kd.C_drewN ?_ _) | (with_reducible refine Kd.C_drew ?_)))
        (case side2 => exact HC1_1.out)
        rintro e w79 ⟨v300, rfl, ho0, hb⟩
        refine ⟨_, rfl, ?_⟩
        have n0_ := Aside0.mk (Kd.S_elder' (by (with_reducible repeat (first | apply Kd.S_alloc | apply Kd.S_drewN | apply Kd.S_drew)); exact HO_287000.out) (Kd.R_base ho0) hb)
        have n1_ := Aside0.mk (Kd.R_elder' (by (with_reducible repeat (first | apply Kd.R_alloc | apply Kd.R_drewN | apply Kd.R_drew)); exact HO_292001.out) (Kd.R_base ho0) hb)
        have n2_ := Aside0.mk (Kd.S_elder' (by (with_reducible repeat (first | apply Kd.S_alloc | apply Kd.S_drewN | apply Kd.S_drew)); exact HO296.out) (Kd.R_base ho0) hb)
        have n3_ := Aside0.mk (Kd.R_lower (Kd.R_new' ho0 (Kd.R_lt (by (with_reducible repeat (first | apply Kd.R_alloc | apply Kd.R_drewN | apply Kd.R_drew)); exact HO_292001.out))) (below_size (by repeat (first | (with_reducible first | exact HB.out | apply below_alloc | apply pw_below_drewN | apply below_drew1 | refine below_set ?_ GE270.out | refine below_set ?_ GE271.out | refine below_set ?_ GE286.out | refine below_set ?_ GE291.out) | exact HB.out))))
        have n4_ := Aside0.mk (blk_below (g := gb270) (o := .cells #[.slice A0_0 l0_0.length c0_0] 24 (0, 0)) (by (with_reducible repeat (first | refine blk_drewN ?_ _ | refine blk_drew ?_ | refine blk_alloc ?_ _)); exact BK270.out) hb)
        have n5_ := Aside0.mk (blk_below (g := gb271) (o := .cells #[.int .i64 a1_0, .slice A1_1 l1_1.length c1_1] 27 (0, 0)) (by (with_reducible repeat (first | refine blk_drewN ?_ _ | refine blk_drew ?_ | refine blk_alloc ?_ _)); exact BK271.out) hb)
        have n6_ := Aside0.mk (blk_below (g := gb286) (o := .cells #[.slice Ao44 t283.length co44] 32 (0, 0)) (by (with_reducible repeat (first | refine blk_drewN ?_ _ | refine blk_drew ?_ | refine blk_alloc ?_ _)); exact BK286.out) hb)
        have n7_ := Aside0.mk (blk_below (g := gb291) (o := .cells #[.int .i64 t287, .slice Ao55 t288.length co55] 34 (0, 0)) (by (with_reducible repeat (first | refine blk_drewN ?_ _ | refine blk_drew ?_ | refine blk_alloc ?_ _)); exact BK291.out) hb)
        have n8_ := Aside0.mk (below_step (by repeat (first | (with_reducible first | exact HB.out | apply below_alloc | apply pw_below_drewN | apply below_drew1 | refine below_set ?_ GE270.out | refine below_set ?_ GE271.out | refine below_set ?_ GE286.out | refine below_set ?_ GE291.out) | exact HB.out)) hb)
        clear HO_287000
        clear HO_292001
        clear HO296
        clear BK270
        clear BK271
        clear BK286
        clear BK291
        clear HB
        have HO_287000 := n0_
        have HO_292001 := n1_
        have HO296 := n2_
        have HO301 := n3_
        have BK270 := n4_
        have BK271 := n5_
        have BK286 := n6_
        have BK291 := n7_
        have HB := n8_
        clear n0_ n1_ n2_ n3_ n4_ n5_ n6_ n7_ n8_
        (try clear hb)
        (try clear hb2)
        (try clear hk)
        (try clear hi)
        (try clear ho0)
        obtain ⟨Ao80, co80, eo80⟩ := Kd.R_slice HO301.out
        (first | subst eo80 | (injection eo80 with f1_ f2_ f3_; have f4_ := f1_.symm; have f5_ := f3_.symm; clear f1_ f2_ f3_; subst f4_; subst f5_))
        refine hK.out _ _ ⟨(blk_cell BK291.out 0).trans rfl, (blk_cell BK291.out 1).trans rfl, (blk_cell BK271.out 0).trans rfl, (blk_cell BK271.out 1).trans rfl⟩ (fun hHeld => ?_)
        clear hK K
        refine norm_ (a' := ?_) ?_ ?_
        rotate_left
        ·
         show Act.put _ (some 63) _ = _
         simp only [Act.put, List.setIfInBounds_toArray, List.set_cons_zero, List.set_cons_succ, i64_w, i32_w]
         rfl
        refine one_ (i := 3) (N := some 64) #[true, true, true, true, false] rfl rfl (by kernel_rfl) (by decide) (fun K hK => ?_)
        refine goes_ Try.func16 (by kernel_rfl) rfl #[.agg #[.int .i64 t287, .slice Ao55 t288.length co55], .agg #[.int .i64 t298, .slice Ao80 t299.length co80]] (by rfl) rfl rfl (by (try simp only [List.map_toArray, List.map_cons, List.map_nil]); first | done | rfl | (simp only [List.length_drop, List.length_take]; rfl)) ?_
        with_reducible refine (laws_eqModule.calls kj26 t287 _ _ t288 t298 _ _ t299 false _ ?side1 ?side2 ?side3 ?side4 A64.out).mono ?_
        (case side1 => repeat (first | exact (Kd.R_reads' HO_292001.out).2.2 | (with_reducible refine Kd.C_alloc ?_ _) | (with_reducible refine Kd.C_drewN ?_ _) | (with_reducible refine Kd.C_drew ?_)))
        (case side2 => exact (Kd.R_reads' HO_292001.out).2.1)
        (case side3 => repeat (first | exact (Kd.R_reads' HO301.out).2.2 | (with_reducible refine Kd.C_alloc ?_ _) | (with_reducible refine Kd.C_drewN ?_ _) | (with_reducible refine Kd.C_drew ?_)))
        (case side4 => exact (Kd.R_reads' HO301.out).2.1)
        rintro e w81 ⟨rfl, hb⟩
        refine ⟨_, rfl, ?_⟩
        have n0_ := Aside0.mk (Kd.S_below (by (with_reducible repeat (first | apply Kd.S_alloc | apply Kd.S_drewN | apply Kd.S_drew)); exact HO_287000.out) hb)
        have n1_ := Aside0.mk (Kd.R_below (by (with_reducible repeat (first | apply Kd.R_alloc | apply Kd.R_drewN | apply Kd.R_drew)); exact HO_292001.out) hb)
        have n2_ := Aside0.mk (Kd.S_below (by (with_reducible repeat (first | apply Kd.S_alloc | apply Kd.S_drewN | apply Kd.S_drew)); exact HO296.out) hb)
        have n3_ := Aside0.mk (Kd.R_below (by (with_reducible repeat (first | apply Kd.R_alloc | apply Kd.R_drewN | apply Kd.R_drew)); exact HO301.out) hb)
        have n4_ := Aside0.mk (blk_below (g := gb270) (o := .cells #[.slice A0_0 l0_0.length c0_0] 24 (0, 0)) (by (with_reducible repeat (first | refine blk_drewN ?_ _ | refine blk_drew ?_ | refine blk_alloc ?_ _)); exact BK270.out) hb)
        have n5_ := Aside0.mk (blk_below (g := gb271) (o := .cells #[.int .i64 a1_0, .slice A1_1 l1_1.length c1_1] 27 (0, 0)) (by (with_reducible repeat (first | refine blk_drewN ?_ _ | refine blk_drew ?_ | refine blk_alloc ?_ _)); exact BK271.out) hb)
        have n6_ := Aside0.mk (blk_below (g := gb286) (o := .cells #[.slice Ao44 t283.length co44] 32 (0, 0)) (by (with_reducible repeat (first | refine blk_drewN ?_ _ | refine blk_drew ?_ | refine blk_alloc ?_ _)); exact BK286.out) hb)
        have n7_ := Aside0.mk (blk_below (g := gb291) (o := .cells #[.int .i64 t287, .slice Ao55 t288.length co55] 34 (0, 0)) (by (with_reducible repeat (first | refine blk_drewN ?_ _ | refine blk_drew ?_ | refine blk_alloc ?_ _)); exact BK291.out) hb)
        have n8_ := Aside0.mk (below_step (by repeat (first | (with_reducible first | exact HB.out | apply below_alloc | apply pw_below_drewN | apply below_drew1 | refine below_set ?_ GE270.out | refine below_set ?_ GE271.out | refine below_set ?_ GE286.out | refine below_set ?_ GE291.out) | exact HB.out)) hb)
        clear HO_287000
        clear HO_292001
        clear HO296
        clear HO301
        clear BK270
        clear BK271
        clear BK286
        clear BK291
        clear HB
        have HO_287000 := n0_
        have HO_292001 := n1_
        have HO296 := n2_
        have HO301 := n3_
        have BK270 := n4_
        have BK271 := n5_
        have BK286 := n6_
        have BK291 := n7_
        have HB := n8_
        clear n0_ n1_ n2_ n3_ n4_ n5_ n6_ n7_ n8_
        (try clear hb)
        (try clear hb2)
        (try clear hk)
        (try clear hi)
        refine hK.out _ _ ⟨(blk_cell BK291.out 0).trans rfl, (blk_cell BK291.out 1).trans rfl, (blk_cell BK271.out 0).trans rfl, (blk_cell BK271.out 1).trans rfl⟩ (fun hHeld => ?_)
        clear hK K
        refine norm_ (a' := ?_) ?_ ?_
        rotate_left
        ·
         show Act.put _ (some 64) _ = _
         simp only [Act.put, List.setIfInBounds_toArray, List.set_cons_zero, List.set_cons_succ, i64_w, i32_w]
         rfl
        refine pure_ (i := 4) (N := some 65) (v := ?_) (a' := ?_) #[true, true, true, true, true] rfl rfl (by kernel_rfl) (fun _ _ _ h => h) (Or.inl ⟨by rfl, ?_⟩) ?_ ?_
        rotate_left
        ·
         intro w'
         go_simp
         with_reducible rfl
        rotate_left
        ·
         simp only [Act.put, List.setIfInBounds_toArray, List.set_cons_zero, List.set_cons_succ, i64_w, i32_w]
         rfl
        refine done_ (by kernel_rfl) ?_
        try go_wp2
        go_ret
        exact ⟨by first | rfl | (simp [errW_none, errW_some] <;> rfl) | (simp [*, errW_none, errW_some] <;> rfl), by repeat (first | (with_reducible first | exact HB.out | apply below_alloc | apply pw_below_drewN | apply below_drew1 | refine below_set ?_ GE270.out | refine below_set ?_ GE271.out | refine below_set ?_ GE286.out | refine below_set ?_ GE291.out) | exact HB.out)⟩
      ·
       replace c62 := Bool.eq_false_iff.mpr c62
       subst c62
       have H1 : (some false) = some r := by rw [if_neg (show ¬ (false = true) by decide)] at H; exact H
       clear H
       have H := H1
       clear H1
       obtain rfl := Option.some.inj H
       try go_wp2
       have n0_ := Aside0.mk (Kd.S_drew HO_287000.out)
       have n1_ := Aside0.mk (Kd.R_drew HO_292001.out)
       have n2_ := Aside0.mk (blk_drew BK270.out)
       have n3_ := Aside0.mk (blk_drew BK271.out)
       have n4_ := Aside0.mk (blk_drew BK286.out)
       have n5_ := Aside0.mk (blk_drew BK291.out)
       have n6_ := Aside0.mk (below_drew1 HB.out)
       clear HO_287000
       clear HO_292001
       clear BK270
       clear BK271
       clear BK286
       clear BK291
       clear HB
       have HO_287000 := n0_
       have HO_292001 := n1_
       have BK270 := n2_
       have BK271 := n3_
       have BK286 := n4_
       have BK291 := n5_
       have HB := n6_
       clear n0_ n1_ n2_ n3_ n4_ n5_ n6_
       refine start_ (n := 5) (S := fun w' => w'.cell? ⟨gb286, 0, none⟩ = some (.slice Ao44 t283.length co44) ∧ w'.cell? ⟨gb270, 0, none⟩ = some (.slice A0_0 l0_0.length c0_0)) (ds := []) #[false, false, false, false, false] (by kernel_rfl) rfl rfl ⟨(blk_cell BK286.out 0).trans rfl, (blk_cell BK270.out 0).trans rfl⟩ (fun hHeld => ?_)
       generalize wc.drew = w82 at HO_287000 HO_292001 BK270 BK271 BK286 BK291 HB hHeld ⊢
       refine take_ (i := 0) (N := some 56) (v := ?_) (a' := ?_) #[true, false, false, false, false] rfl rfl (by kernel_rfl) (fun _ _ _ h => h) (Or.inl ⟨by rfl, ?_⟩) hHeld ?_ ?_
       rotate_left
       ·
        rintro w' ⟨s0, s1⟩
        go_simp
        with_reducible rfl
       rotate_left
       ·
        simp only [Act.put, List.setIfInBounds_toArray, List.set_cons_zero, List.set_cons_succ, i64_w, i32_w]
        rfl
       refine take_ (i := 1) (N := some 57) (v := ?_) (a' := ?_) #[true, true, false, false, false] rfl rfl (by kernel_rfl) (fun _ _ _ h => h) (Or.inl ⟨by rfl, ?_⟩) hHeld ?_ ?_
       rotate_left
       ·
        rintro w' ⟨s0, s1⟩
        go_simp
        with_reducible rfl
       rotate_left
       ·
        simp only [Act.put, List.setIfInBounds_toArray, List.set_cons_zero, List.set_cons_succ, i64_w, i32_w]
        rfl
       refine one_ (i := 2) (N := some 58) #[true, true, true, false, false] rfl rfl (by kernel_rfl) (by decide) (fun K hK => ?_)
       refine goes_ Try.func12 (by kernel_rfl) rfl #[.agg #[.slice A0_0 l0_0.length c0_0]] (by rfl) rfl rfl (by (try simp only [List.map_toArray, List.map_cons, List.map_nil]); first | done | rfl | (simp only [List.length_drop, List.length_take]; rfl)) ?_
       with_reducible refine (laws_toGroup.calls kj26 _ _ l0_0 t294 _ ?side1 ?side2 A60.out).mono ?_
       (case side1 => repeat (first | exact (Kd.C_below HR0_0.out HB.out) | (with_reducible refine Kd.C_alloc ?_ _) | (with_reducible refine Kd.C_drewN ?_ _) | (with_reducible refine Kd.C_drew ?_)))
       (case side2 => exact HC0_0.out)
       rintro e w83 ⟨v295, rfl, ho0, hb⟩
       refine ⟨_, rfl, ?_⟩
       have n0_ := Aside0.mk (Kd.S_elder' (by (with_reducible repeat (first | apply Kd.S_alloc | apply Kd.S_drewN | apply Kd.S_drew)); exact HO_287000.out) (Kd.S_base ho0) hb)
       have n1_ := Aside0.mk (Kd.R_below (by (with_reducible repeat (first | apply Kd.R_alloc | apply Kd.R_drewN | apply Kd.R_drew)); exact HO_292001.out) hb)
       have n2_ := Aside0.mk (Kd.S_lower (Kd.S_new' (Kd.S_new' ho0 (Kd.S_lt (by (with_reducible repeat (first | apply Kd.S_alloc | apply Kd.S_drewN | apply Kd.S_drew)); exact HO_287000.out))) (Kd.R_lt (by (with_reducible repeat (first | apply Kd.R_alloc | apply Kd.R_drewN | apply Kd.R_drew)); exact HO_292001.out))) (below_size (by repeat (first | (with_reducible first | exact HB.out | apply below_alloc | apply pw_below_drewN | apply below_drew1 | refine below_set ?_ GE270.out | refine below_set ?_ GE271.out | refine below_set ?_ GE286.out | refine below_set ?_ GE291.out) | exact HB.out))))
       have n3_ := Aside0.mk (blk_below (g := gb270) (o := .cells #[.slice A0_0 l0_0.length c0_0] 24 (0, 0)) (by (with_reducible repeat (first | refine blk_drewN ?_ _ | refine blk_drew ?_ | refine blk_alloc ?_ _)); exact BK270.out) hb)
       have n4_ := Aside0.mk (blk_below (g := gb271) (o := .cells #[.int .i64 a1_0, .slice A1_1 l1_1.length c1_1] 27 (0, 0)) (by (with_reducible repeat (first | refine blk_drewN ?_ _ | refine blk_drew ?_ | refine blk_alloc ?_ _)); exact BK271.out) hb)
       have n5_ := Aside0.mk (blk_below (g := gb286) (o := .cells #[.slice Ao44 t283.length co44] 32 (0, 0)) (by (with_reducible repeat (first | refine blk_drewN ?_ _ | refine blk_drew ?_ | refine blk_alloc ?_ _)); exact BK286.out) hb)
       have n6_ := Aside0.mk (blk_below (g := gb291) (o := .cells #[.int .i64 t287, .slice Ao55 t288.length co55] 34 (0, 0)) (by (with_reducible repeat (first | refine blk_drewN ?_ _ | refine blk_drew ?_ | refine blk_alloc ?_ _)); exact BK291.out) hb)
       have n7_ := Aside0.mk (below_step (by repeat (first | (with_reducible first | exact HB.out | apply below_alloc | apply pw_below_drewN | apply below_drew1 | refine below_set ?_ GE270.out | refine below_set ?_ GE271.out | refine below_set ?_ GE286.out | refine below_set ?_ GE291.out) | exact HB.out)) hb)
       clear HO_287000
       clear HO_292001
       clear BK270
       clear BK271
       clear BK286
       clear BK291
       clear HB
       have HO_287000 := n0_
       have HO_292001 := n1_
       have HO296 := n2_
       have BK270 := n3_
       have BK271 := n4_
       have BK286 := n5_
       have BK291 := n6_
       have HB := n7_
       clear n0_ n1_ n2_ n3_ n4_ n5_ n6_ n7_
       (try clear hb)
       (try clear hb2)
       (try clear hk)
       (try clear hi)
       (try clear ho0)
       obtain ⟨Ao84, co84, eo84⟩ := Kd.S_slice HO296.out
       (first | subst eo84 | (injection eo84 with f1_ f2_ f3_; have f4_ := f1_.symm; have f5_ := f3_.symm; clear f1_ f2_ f3_; subst f4_; subst f5_))
       refine hK.out _ _ ⟨(blk_cell BK286.out 0).trans rfl, (blk_cell BK270.out 0).trans rfl⟩ (fun hHeld => ?_)
       clear hK K
       refine norm_ (a' := ?_) ?_ ?_
       rotate_left
       ·
        show Act.put _ (some 58) _ = _
        simp only [Act.put, List.setIfInBounds_toArray, List.set_cons_zero, List.set_cons_succ, i64_w, i32_w]
        rfl
       refine one_ (i := 3) (N := some 59) #[true, true, true, true, false] rfl rfl (by kernel_rfl) (by decide) (fun K hK => ?_)
       refine goes_ Try.func15 (by kernel_rfl) rfl #[.agg #[.slice Ao44 t283.length co44], .agg #[.slice Ao84 t294.length co84]] (by rfl) rfl rfl (by (try simp only [List.map_toArray, List.map_cons, List.map_nil]); first | done | rfl | (simp only [List.length_drop, List.length_take]; rfl)) ?_
       with_reducible refine (laws_eqGroup.calls kj26 _ _ t283 _ _ t294 false _ ?side1 ?side2 ?side3 ?side4 A61.out).mono ?_
       (case side1 => repeat (first | exact (Kd.S_reads' HO_287000.out).2.2 | (with_reducible refine Kd.C_alloc ?_ _) | (with_reducible refine Kd.C_drewN ?_ _) | (with_reducible refine Kd.C_drew ?_)))
       (case side2 => exact (Kd.S_reads' HO_287000.out).2.1)
       (case side3 => repeat (first | exact (Kd.S_reads' HO296.out).2.2 | (with_reducible refine Kd.C_alloc ?_ _) | (with_reducible refine Kd.C_drewN ?_ _) | (with_reducible refine Kd.C_drew ?_)))
       (case side4 => exact (Kd.S_reads' HO296.out).2.1)
       rintro e w85 ⟨rfl, hb⟩
       refine ⟨_, rfl, ?_⟩
       have n0_ := Aside0.mk (Kd.S_below (by (with_reducible repeat (first | apply Kd.S_alloc | apply Kd.S_drewN | apply Kd.S_drew)); exact HO_287000.out) hb)
       have n1_ := Aside0.mk (Kd.R_below (by (with_reducible repeat (first | apply Kd.R_alloc | apply Kd.R_drewN | apply Kd.R_drew)); exact HO_292001.out) hb)
       have n2_ := Aside0.mk (Kd.S_below (by (with_reducible repeat (first | apply Kd.S_alloc | apply Kd.S_drewN | apply Kd.S_drew)); exact HO296.out) hb)
       have n3_ := Aside0.mk (blk_below (g := gb270) (o := .cells #[.slice A0_0 l0_0.length c0_0] 24 (0, 0)) (by (with_reducible repeat (first | refine blk_drewN ?_ _ | refine blk_drew ?_ | refine blk_alloc ?_ _)); exact BK270.out) hb)
       have n4_ := Aside0.mk (blk_below (g := gb271) (o := .cells #[.int .i64 a1_0, .slice A1_1 l1_1.length c1_1] 27 (0, 0)) (by (with_reducible repeat (first | refine blk_drewN ?_ _ | refine blk_drew ?_ | refine blk_alloc ?_ _)); exact BK271.out) hb)
       have n5_ := Aside0.mk (blk_below (g := gb286) (o := .cells #[.slice Ao44 t283.length co44] 32 (0, 0)) (by (with_reducible repeat (first | refine blk_drewN ?_ _ | refine blk_drew ?_ | refine blk_alloc ?_ _)); exact BK286.out) hb)
       have n6_ := Aside0.mk (blk_below (g := gb291) (o := .cells #[.int .i64 t287, .slice Ao55 t288.length co55] 34 (0, 0)) (by (with_reducible repeat (first | refine blk_drewN ?_ _ | refine blk_drew ?_ | refine blk_alloc ?_ _)); exact BK291.out) hb)
       have n7_ := Aside0.mk (below_step (by repeat (first | (with_reducible first | exact HB.out | apply below_alloc | apply pw_below_drewN | apply below_drew1 | refine below_set ?_ GE270.out | refine below_set ?_ GE271.out | refine below_set ?_ GE286.out | refine below_set ?_ GE291.out) | exact HB.out)) hb)
       clear HO_287000
       clear HO_292001
       clear HO296
       clear BK270
       clear BK271
       clear BK286
       clear BK291
       clear HB
       have HO_287000 := n0_
       have HO_292001 := n1_
       have HO296 := n2_
       have BK270 := n3_
       have BK271 := n4_
       have BK286 := n5_
       have BK291 := n6_
       have HB := n7_
       clear n0_ n1_ n2_ n3_ n4_ n5_ n6_ n7_
       (try clear hb)
       (try clear hb2)
       (try clear hk)
       (try clear hi)
       refine hK.out _ _ ⟨(blk_cell BK286.out 0).trans rfl, (blk_cell BK270.out 0).trans rfl⟩ (fun hHeld => ?_)
       clear hK K
       refine norm_ (a' := ?_) ?_ ?_
       rotate_left
       ·
        show Act.put _ (some 59) _ = _
        simp only [Act.put, List.setIfInBounds_toArray, List.set_cons_zero, List.set_cons_succ, i64_w, i32_w]
        rfl
       refine pure_ (i := 4) (N := some 60) (v := ?_) (a' := ?_) #[true, true, true, true, true] rfl rfl (by kernel_rfl) (fun _ _ _ h => h) (Or.inl ⟨by rfl, ?_⟩) ?_ ?_
       rotate_left
       ·
        intro w'
        go_simp
        with_reducible rfl
       rotate_left
       ·
        simp only [Act.put, List.setIfInBounds_toArray, List.set_cons_zero, List.set_cons_succ, i64_w, i32_w]
        rfl
       refine done_ (by kernel_rfl) ?_
       try go_wp2
       go_ret
       exact ⟨by first | rfl | (simp [errW_none, errW_some] <;> rfl) | (simp [*, errW_none, errW_some] <;> rfl), by repeat (first | (with_reducible first | exact HB.out | apply below_alloc | apply pw_below_drewN | apply below_drew1 | refine below_set ?_ GE270.out | refine below_set ?_ GE271.out | refine below_set ?_ GE286.out | refine below_set ?_ GE291.out) | exact HB.out)⟩
end Go.Proofs.Ytfablaokggnioaa.Pa
set_option linter.unusedVariables false
namespace Go.Proofs.Ytfablaokggnioaa.U
open Go.RowKit Go.Proofs.YtfablaokggnioaaW.PrintWords Go.Proofs.YtfablaokggnioaaW.PrintLast Go.Proofs.YtfablaokggnioaaW.PrintMore
theorem w64 {x : Int} (h0 : -9223372036854775808 ≤ x) (h1 : x ≤ 9223372036854775807) : wrap64 x = x := by unfold wrap64; omega
theorem w64s {i n : Int} (h0 : 0 ≤ i) (h : i < n) (hn : n ≤ 9223372036854775807) : wrap64 (i + 1) = i + 1 := w64 (by omega) (by omega)
theorem ev_now {α : Type} {g : Nat → Option α} {r : α} (h : ∀ k, g k = some r) : Ev g r := ⟨0, fun k _ => h k⟩
theorem ev_step_now {α : Type} {g : Nat → Option α} {r : α} (h : ∀ k, g (k + 1) = some r) : Ev g r := Ev.step (f := fun _ => some r) h (ev_now fun _ => rfl)
theorem ev_step_bind {α β : Type} {g : Nat → Option β} {c : Nat → Option α} {f : Nat → α → Option β} {a : α} {r : β} (h : ∀ k, g (k + 1) = (c k).bind (f k)) (hc : Ev c a) (k : Ev (fun n => f n a) r) : Ev g r := Ev.step h (Ev.bind hc k)
theorem ev_bind {α β : Type} {g : Nat → Option β} {c : Nat → Option α} {f : Nat → α → Option β} {a : α} {r : β} (h : ∀ k, g k = (c k).bind (f k)) (hc : Ev c a) (k : Ev (fun n => f n a) r) : Ev g r := Ev.congr h (Ev.bind hc k)
theorem scan {R : Type} (n : Nat) (L : Int → Nat → Option R) (P : Int → Prop) (bad : R)
    (hs : ∀ i : Int, 0 ≤ i → i < n → (∀ j : Int, 0 ≤ j → j < i → P j) → (P i ∧ ∀ r, Ev (L (i + 1)) r → Ev (L i) r) ∨ (¬ P i ∧ Ev (L i) bad)) :
    ((∀ j : Int, 0 ≤ j → j < n → P j) ∧ ∀ r, Ev (L n) r → Ev (L 0) r) ∨ ((∃ j : Int, 0 ≤ j ∧ j < n ∧ ¬ P j) ∧ Ev (L 0) bad) := by
  suffices H : ∀ d m : Nat, m + d = n → (∀ j : Int, 0 ≤ j → j < m → P j) →
      ((∀ j : Int, 0 ≤ j → j < n → P j) ∧ ∀ r, Ev (L n) r → Ev (L m) r) ∨ ((∃ j : Int, 0 ≤ j ∧ j < n ∧ ¬ P j) ∧ Ev (L m) bad) by
    simpa using H n 0 (by omega) (fun j h0 h1 => by omega)
  intro d
  induction d with
  | zero =>
    intro m hm hp
    have : (m : Int) = n := by omega
    rw [this] at hp ⊢
    exact .inl ⟨hp, fun r h => h⟩
  | succ d ih =>
    intro m hm hp
    rcases hs m (by omega) (by omega) hp with ⟨h1, h2⟩ | ⟨h1, h2⟩
    · have hp' : ∀ j : Int, 0 ≤ j → j < ((m + 1 : Nat) : Int) → P j := fun j h0 hj => by
        by_cases e : j = m
        · rw [e]; exact h1
        · exact hp j h0 (by omega)
      rcases ih (m + 1) (by omega) hp' with ⟨h3, h4⟩ | ⟨h3, h4⟩
      · exact .inl ⟨h3, fun r h => h2 r (by have := h4 r h; rwa [Int.natCast_add, Int.natCast_one] at this)⟩
      · exact .inr ⟨h3, h2 _ (by rwa [Int.natCast_add, Int.natCast_one] at h4)⟩
    · exact .inr ⟨⟨m, by omega, by omega, h1⟩, h2⟩
theorem fold {R σ : Type} (n : Nat) (L : Int → σ → Nat → Option R) (F : Nat → σ)
    (hs : ∀ i : Nat, i < n → ∀ r, Ev (L ((i + 1 : Nat) : Int) (F (i + 1))) r → Ev (L (i : Int) (F i)) r) : ∀ r, Ev (L n (F n)) r → Ev (L 0 (F 0)) r := by
  suffices H : ∀ d m : Nat, m + d = n → ∀ r, Ev (L n (F n)) r → Ev (L m (F m)) r by
    intro r h
    exact H n 0 (by omega) r h
  intro d
  induction d with
  | zero =>
    intro m hm r h
    have : m = n := by omega
    rwa [this]
  | succ d ih => exact fun m hm r h => hs m (by omega) r (ih (m + 1) (by omega) r h)
noncomputable def B (p : Prop) : Bool := @decide p (Classical.propDecidable p)
theorem B_pos {p : Prop} (h : p) : B p = true := by unfold B; simp [h]
theorem B_neg {p : Prop} (h : ¬ p) : B p = false := by unfold B; simp [h]
theorem B_congr {p q : Prop} (h : p ↔ q) : B p = B q := by rw [show p = q from propext h]
theorem B_decide (p : Prop) [Decidable p] : decide p = B p := by by_cases h : p <;> simp [h, B]
theorem B_true : B True = true := B_pos trivial
theorem scanB (n : Nat) (L : Int → Nat → Option Bool) (P : Int → Prop) (Q : Prop)
    (hs : ∀ i : Int, 0 ≤ i → i < n → (∀ j : Int, 0 ≤ j → j < i → P j) → (P i ∧ ∀ r, Ev (L (i + 1)) r → Ev (L i) r) ∨ (¬ P i ∧ Ev (L i) false))
    (he : (∀ j : Int, 0 ≤ j → j < n → P j) → Ev (L n) (B Q)) : Ev (L 0) (B ((∀ j : Int, 0 ≤ j → j < n → P j) ∧ Q)) := by
  rcases scan n L P false hs with ⟨h1, h2⟩ | ⟨⟨j, h0, h1, h2⟩, h3⟩
  · rw [B_congr (show ((∀ j : Int, 0 ≤ j → j < n → P j) ∧ Q) ↔ Q from ⟨fun h => h.2, fun h => ⟨h1, h⟩⟩)]
    exact h2 _ (he h1)
  · rw [B_neg fun h => h2 (h.1 j h0 h1)]
    exact h3
theorem scanT (n : Nat) (L : Int → Nat → Option Bool) (P : Int → Prop)
    (hs : ∀ i : Int, 0 ≤ i → i < n → (∀ j : Int, 0 ≤ j → j < i → P j) → (P i ∧ ∀ r, Ev (L (i + 1)) r → Ev (L i) r) ∨ (¬ P i ∧ Ev (L i) false))
    (he : (∀ j : Int, 0 ≤ j → j < n → P j) → Ev (L n) true) : Ev (L 0) (B (∀ j : Int, 0 ≤ j → j < n → P j)) := by
  have := scanB n L P True hs (fun h => by rw [B_true]; exact he h)
  rwa [B_congr (show ((∀ j : Int, 0 ≤ j → j < n → P j) ∧ True) ↔ _ from ⟨fun h => h.1, fun h => ⟨h, trivial⟩⟩)] at this
theorem ext_rd {xs ys : List Int} (hl : xs.length = ys.length) (h : ∀ i : Int, 0 ≤ i → i < xs.length → rd xs i = rd ys i) : xs = ys := by
  apply List.ext_getElem hl
  intro i h1 h2
  have := h i (by omega) (by omega)
  simpa [rd, List.getD_eq_getElem?_getD, List.getElem?_eq_getElem h1, List.getElem?_eq_getElem h2] using this
end Go.Proofs.Ytfablaokggnioaa.U
set_option linter.unusedVariables false
set_option linter.unusedSimpArgs false
namespace Go.Proofs.Ytfablaokggnioaa.U
open Go.RowKit Go.Proofs.YtfablaokggnioaaW.PrintWords Go.Proofs.YtfablaokggnioaaW.PrintLast Go.Proofs.YtfablaokggnioaaW.PrintMore Go.Proofs.Ytfablaokggnioaa.Pa
theorem maxLen_le : maxLen ≤ 9223372036854775807 := by unfold maxLen; omega
def AllIn (n : Int) (xs : List Int) : Prop := ∀ i : Int, 0 ≤ i → i < xs.length → 0 ≤ rd xs i ∧ rd xs i < n
theorem ev_areIn (n : Int) (xs : List Int) (hl : xs.length ≤ maxLen) : Ev (fun k => impl_areIn.f k n xs) (B (AllIn n xs)) := by
  have hm := maxLen_le
  unfold impl_areIn.f
  refine scanT xs.length (fun i k => impl_areIn.l0 k n xs (xs.length : Int) i) (fun i => 0 ≤ rd xs i ∧ rd xs i < n) (fun i h0 h1 _ => ?_) (fun _ => ?_)
  · have hw : wrap64 (i + 1) = i + 1 := w64s h0 h1 (by omega)
    by_cases h2 : rd xs i < 0
    · exact .inr ⟨by omega, ev_step_now fun k => by simp only [impl_areIn.l0, h0, h1, h2, ↓reduceIte]⟩
    · by_cases h3 : rd xs i ≥ n
      · exact .inr ⟨by omega, ev_step_now fun k => by simp only [impl_areIn.l0, h0, h1, h2, h3, ↓reduceIte]⟩
      · exact .inl ⟨by omega, fun r h => Ev.step (fun k => by simp only [impl_areIn.l0, h0, h1, h2, h3, hw, ↓reduceIte]) h⟩
  · exact ev_step_now fun k => by simp only [impl_areIn.l0, Int.lt_irrefl, ↓reduceIte]
theorem ev_index (xs : List Int) (x : Int) (hl : xs.length ≤ maxLen) :
    ((∀ i : Int, 0 ≤ i → i < xs.length → rd xs i ≠ x) ∧ Ev (fun k => slices_Index_int64_int64.f k xs x) (-1)) ∨
    ∃ i : Int, 0 ≤ i ∧ i < xs.length ∧ rd xs i = x ∧ (∀ j : Int, 0 ≤ j → j < i → rd xs j ≠ x) ∧ Ev (fun k => slices_Index_int64_int64.f k xs x) i := by
  have hm := maxLen_le
  unfold slices_Index_int64_int64.f
  suffices H : ∀ d m : Nat, m + d = xs.length → (∀ j : Int, 0 ≤ j → j < m → rd xs j ≠ x) →
      ((∀ i : Int, 0 ≤ i → i < xs.length → rd xs i ≠ x) ∧ Ev (fun k => slices_Index_int64_int64.l0 k xs x (xs.length : Int) m) (-1)) ∨
      ∃ i : Int, 0 ≤ i ∧ i < xs.length ∧ rd xs i = x ∧ (∀ j : Int, 0 ≤ j → j < i → rd xs j ≠ x) ∧ Ev (fun k => slices_Index_int64_int64.l0 k xs x (xs.length : Int) m) i from
    H xs.length 0 (by omega) (fun j h0 h1 => by omega)
  intro d
  induction d with
  | zero =>
    intro m hd hp
    obtain rfl : m = xs.length := by omega
    exact .inl ⟨hp, ev_step_now fun k => by simp only [slices_Index_int64_int64.l0, Int.lt_irrefl, ↓reduceIte]⟩
  | succ d ih =>
    intro m hd hp
    have h1 : (m : Int) < xs.length := by omega
    have h0 : (0 : Int) ≤ m := by omega
    have hw : wrap64 ((m : Int) + 1) = ((m + 1 : Nat) : Int) := by rw [w64s h0 h1 (by omega)]; omega
    by_cases h2 : x = rd xs m
    · exact .inr ⟨m, h0, h1, h2.symm, hp, ev_step_now fun k => by simp only [slices_Index_int64_int64.l0, h1, h0, ← h2, ↓reduceIte]⟩
    · have st : ∀ r, Ev (fun k => slices_Index_int64_int64.l0 k xs x (xs.length : Int) ((m + 1 : Nat) : Int)) r → Ev (fun k => slices_Index_int64_int64.l0 k xs x (xs.length : Int) m) r := fun r h =>
        Ev.step (fun k => by simp only [slices_Index_int64_int64.l0, h1, h0, h2, hw, ↓reduceIte]) h
      have hp' : ∀ j : Int, 0 ≤ j → j < ((m + 1 : Nat) : Int) → rd xs j ≠ x := fun j k0 k1 => by
        by_cases e : j = m
        · rw [e]; exact fun h => h2 h.symm
        · exact hp j k0 (by omega)
      rcases ih (m + 1) (by omega) hp' with ⟨a, b⟩ | ⟨i, a1, a2, a3, a4, b⟩
      · exact .inl ⟨a, st _ b⟩
      · exact .inr ⟨i, a1, a2, a3, a4, st _ b⟩
theorem ev_contains (xs : List Int) (x : Int) (hl : xs.length ≤ maxLen) : Ev (fun k => slices_Contains_int64_int64.f k xs x) (B (∃ i : Int, 0 ≤ i ∧ i < xs.length ∧ rd xs i = x)) := by
  unfold slices_Contains_int64_int64.f
  rcases ev_index xs x hl with ⟨h, e⟩ | ⟨i, h0, h1, h2, _, e⟩
  · rw [B_neg fun ⟨i, h0, h1, h2⟩ => h i h0 h1 h2]
    exact Ev.bind e (ev_now fun k => by simp)
  · rw [B_pos ⟨i, h0, h1, h2⟩]
    exact Ev.bind e (ev_now fun k => by simp [h0])
def T (g : List (List Int)) (a b : Int) : Int := rd (rd_Li64 g a) b
structure Grp (g : List (List Int)) : Prop where
  n1 : 1 ≤ g.length
  n8 : g.length ≤ 8
  row : ∀ a : Int, 0 ≤ a → a < g.length → (rd_Li64 g a).length = g.length
  ent : ∀ a b : Int, 0 ≤ a → a < g.length → 0 ≤ b → b < g.length → 0 ≤ T g a b ∧ T g a b < g.length
  one : ∀ a : Int, 0 ≤ a → a < g.length → T g 0 a = a
  one' : ∀ a : Int, 0 ≤ a → a < g.length → T g a 0 = a
  assoc : ∀ a b c : Int, 0 ≤ a → a < g.length → 0 ≤ b → b < g.length → 0 ≤ c → c < g.length → T g (T g a b) c = T g a (T g b c)
  inv : ∀ a : Int, 0 ≤ a → a < g.length → ∃ b : Int, 0 ≤ b ∧ b < g.length ∧ T g a b = 0
theorem Grp.inv2 {g : List (List Int)} (h : Grp g) {a : Int} (h0 : 0 ≤ a) (h1 : a < g.length) : ∃ b : Int, 0 ≤ b ∧ b < g.length ∧ T g a b = 0 ∧ T g b a = 0 := by
  obtain ⟨b, b0, b1, hb⟩ := h.inv a h0 h1
  obtain ⟨c, c0, c1, hc⟩ := h.inv b b0 b1
  refine ⟨b, b0, b1, hb, ?_⟩
  have hac : c = a := by
    have e1 := h.assoc a b c h0 h1 b0 b1 c0 c1
    rw [hb, hc, h.one c c0 c1, h.one' a h0 h1] at e1
    exact e1
  rw [← hac]; exact hc
theorem rows_len {g : List (List Int)} (hr : ∀ r ∈ g, r.length ≤ maxLen) {a : Int} (h0 : 0 ≤ a) (h1 : a < g.length) : (rd_Li64 g a).length ≤ maxLen := by
  have h : a.toNat < g.length := by omega
  have : rd_Li64 g a ∈ g := by
    unfold rd_Li64
    rw [List.getD_eq_getElem?_getD, List.getElem?_eq_getElem h]
    exact List.getElem_mem h
  exact hr _ this
def Tab (g : List (List Int)) : Prop := ∀ a : Int, 0 ≤ a → a < g.length → (rd_Li64 g a).length = g.length ∧ AllIn g.length (rd_Li64 g a)
def Law (g : List (List Int)) (a : Int) : Prop := T g 0 a = a ∧ T g a 0 = a ∧ (∃ b : Int, 0 ≤ b ∧ b < g.length ∧ T g a b = 0) ∧ ∀ b : Int, 0 ≤ b → b < g.length → ∀ c : Int, 0 ≤ c → c < g.length → T g (T g a b) c = T g a (T g b c)
theorem grp_iff (g : List (List Int)) : Grp g ↔ (1 ≤ g.length ∧ g.length ≤ 8) ∧ Tab g ∧ ∀ a : Int, 0 ≤ a → a < g.length → Law g a := by
  constructor
  · intro h
    refine ⟨⟨h.n1, h.n8⟩, fun a h0 h1 => ⟨h.row a h0 h1, fun i i0 i1 => ?_⟩, fun a h0 h1 => ⟨h.one a h0 h1, h.one' a h0 h1, h.inv a h0 h1, fun b b0 b1 c c0 c1 => h.assoc a b c h0 h1 b0 b1 c0 c1⟩⟩
    have := h.row a h0 h1
    exact h.ent a i h0 h1 i0 (by omega)
  · rintro ⟨⟨h1, h8⟩, ht, hl⟩
    refine ⟨h1, h8, fun a a0 a1 => (ht a a0 a1).1, fun a b a0 a1 b0 b1 => ?_, fun a a0 a1 => (hl a a0 a1).1, fun a a0 a1 => (hl a a0 a1).2.1, fun a b c a0 a1 b0 b1 c0 c1 => (hl a a0 a1).2.2.2 b b0 b1 c c0 c1, fun a a0 a1 => (hl a a0 a1).2.2.1⟩
    have := (ht a a0 a1).1
    exact (ht a a0 a1).2 b b0 (by omega)
theorem ev_IsGroup (g : List (List Int)) (hl : g.length ≤ maxLen) (hr : ∀ r ∈ g, r.length ≤ maxLen) : Ev (fun k => impl_IsGroup.f k g) (B (Grp g)) := by
  have hm := maxLen_le
  rw [B_congr (grp_iff g)]
  unfold impl_IsGroup.f impl_order.f
  simp only [Option.bind_some]
  by_cases c1 : (g.length : Int) < 1
  · rw [B_neg fun h => by omega]
    simp only [c1, ↓reduceIte]
    exact ev_step_now fun k => by simp only [impl_IsGroup.j0, ↓reduceIte]
  simp only [c1, ↓reduceIte]
  by_cases c2 : (g.length : Int) > 8
  · rw [B_neg fun h => by omega]
    refine ev_step_now fun k => by simp only [impl_IsGroup.j0, c2, decide_true, ↓reduceIte]
  rw [B_congr (show ((1 ≤ g.length ∧ g.length ≤ 8) ∧ Tab g ∧ ∀ a : Int, 0 ≤ a → a < g.length → Law g a) ↔ (Tab g ∧ ∀ a : Int, 0 ≤ a → a < g.length → Law g a) from ⟨fun h => h.2, fun h => ⟨by omega, h⟩⟩)]
  have hpos : (0 : Int) < g.length := by omega
  refine Ev.step (f := fun k => impl_IsGroup.l0 k (g.length : Int) g (g.length : Int) 0 g) (fun k => by simp [impl_IsGroup.j0, c2]) ?_
  refine scanB g.length (fun i k => impl_IsGroup.l0 k (g.length : Int) g (g.length : Int) i g) (fun a => (rd_Li64 g a).length = g.length ∧ AllIn g.length (rd_Li64 g a)) (∀ a : Int, 0 ≤ a → a < g.length → Law g a) (fun i h0 h1 _ => ?_) (fun ht => ?_)
  · have hw : wrap64 (i + 1) = i + 1 := w64s h0 h1 (by omega)
    by_cases h2 : ((rd_Li64 g i).length : Int) = g.length
    · have ha := ev_areIn g.length (rd_Li64 g i) (rows_len hr h0 h1)
      by_cases h3 : AllIn g.length (rd_Li64 g i)
      · rw [B_pos h3] at ha
        refine .inl ⟨⟨by omega, h3⟩, fun r h => ev_step_bind (fun k => by simp only [impl_IsGroup.l0, h0, h1, h2, ↓reduceIte]; rfl) ha ?_⟩
        simp only [hw, ↓reduceIte]; exact h
      · rw [B_neg h3] at ha
        refine .inr ⟨fun h => h3 h.2, ev_step_bind (fun k => by simp only [impl_IsGroup.l0, h0, h1, h2, ↓reduceIte]; rfl) ha ?_⟩
        exact ev_now fun k => by simp
    · exact .inr ⟨fun h => h2 (by omega), ev_step_now fun k => by simp only [impl_IsGroup.l0, h0, h1, h2, ↓reduceIte]⟩
  · refine Ev.step (f := fun k => impl_IsGroup.l1 k (g.length : Int) (g.length : Int) 0 g) (fun k => by simp only [impl_IsGroup.l0, Int.lt_irrefl, ↓reduceIte]) ?_
    refine scanT g.length (fun i k => impl_IsGroup.l1 k (g.length : Int) (g.length : Int) i g) (Law g) (fun a a0 a1 _ => ?_) (fun _ => ev_step_now fun k => by simp only [impl_IsGroup.l1, Int.lt_irrefl, ↓reduceIte])
    have hlen : ∀ x : Int, 0 ≤ x → x < g.length → ((rd_Li64 g x).length : Int) = g.length := fun x x0 x1 => by rw [(ht x x0 x1).1]
    have hent : ∀ x y : Int, 0 ≤ x → x < g.length → 0 ≤ y → y < g.length → 0 ≤ rd (rd_Li64 g x) y ∧ rd (rd_Li64 g x) y < g.length := fun x y x0 x1 y0 y1 => (ht x x0 x1).2 y y0 (by rw [hlen x x0 x1]; exact y1)
    have l0 := hlen 0 (by omega) hpos
    have la := hlen a a0 a1
    have hwa : wrap64 (a + 1) = a + 1 := w64s a0 a1 (by omega)
    have bad : Ev (fun k => impl_IsGroup.j3 k (g.length : Int) a (g.length : Int) a true g) false := ev_step_now fun k => by simp only [impl_IsGroup.j3, ↓reduceIte]
    by_cases h2 : rd (rd_Li64 g 0) a = a
    · by_cases h3 : rd (rd_Li64 g a) 0 = a
      · have hc := ev_contains (rd_Li64 g a) 0 (rows_len hr a0 a1)
        rw [B_congr (show (∃ i : Int, 0 ≤ i ∧ i < (rd_Li64 g a).length ∧ rd (rd_Li64 g a) i = 0) ↔ ∃ b : Int, 0 ≤ b ∧ b < g.length ∧ T g a b = 0 by rw [la]; rfl)] at hc
        have go : ∀ r b, B (∃ b : Int, 0 ≤ b ∧ b < g.length ∧ T g a b = 0) = b → Ev (fun k => impl_IsGroup.j3 k (g.length : Int) a (g.length : Int) a (!b) g) r → Ev (fun k => impl_IsGroup.l1 k (g.length : Int) (g.length : Int) a g) r := fun r b hb h => by
          rw [hb] at hc
          refine ev_step_bind (fun k => by simp only [impl_IsGroup.l1, a0, a1, hpos, l0, la, h2, h3, ↓reduceIte]; rfl) hc ?_
          exact h
        by_cases h4 : ∃ b : Int, 0 ≤ b ∧ b < g.length ∧ T g a b = 0
        · have inner := scan g.length (fun b k => impl_IsGroup.l2 k (g.length : Int) a (g.length : Int) a (g.length : Int) b g) (fun b => ∀ c : Int, 0 ≤ c → c < g.length → T g (T g a b) c = T g a (T g b c)) false (fun b b0 b1 _ => by
            have hwb : wrap64 (b + 1) = b + 1 := w64s b0 b1 (by omega)
            obtain ⟨e0, e1⟩ := hent a b a0 a1 b0 b1
            have le := hlen _ e0 e1
            have lb := hlen b b0 b1
            have inner3 := scan g.length (fun c k => impl_IsGroup.l3 k (g.length : Int) a b (g.length : Int) a (g.length : Int) b (g.length : Int) c g) (fun c => T g (T g a b) c = T g a (T g b c)) false (fun c c0 c1 _ => by
              have hwc : wrap64 (c + 1) = c + 1 := w64s c0 c1 (by omega)
              obtain ⟨f0, f1⟩ := hent b c b0 b1 c0 c1
              by_cases h5 : rd (rd_Li64 g (rd (rd_Li64 g a) b)) c = rd (rd_Li64 g a) (rd (rd_Li64 g b) c)
              · exact .inl ⟨h5, fun r h => Ev.step (fun k => by simp only [impl_IsGroup.l3, a0, a1, b0, b1, c0, c1, e0, e1, f0, f1, la, lb, le, h5, hwc, ↓reduceIte]) h⟩
              · exact .inr ⟨h5, ev_step_now fun k => by simp only [impl_IsGroup.l3, a0, a1, b0, b1, c0, c1, e0, e1, f0, f1, la, lb, le, h5, ↓reduceIte]⟩)
            rcases inner3 with ⟨h5, h6⟩ | ⟨⟨c, c0, c1, h5⟩, h6⟩
            · exact .inl ⟨h5, fun r h => Ev.step (fun k => by simp only [impl_IsGroup.l2, b1, ↓reduceIte]) (h6 r (Ev.step (fun k => by simp only [impl_IsGroup.l3, Int.lt_irrefl, hwb, ↓reduceIte]) h))⟩
            · exact .inr ⟨fun h => h5 (h c c0 c1), Ev.step (fun k => by simp only [impl_IsGroup.l2, b1, ↓reduceIte]) h6⟩)
          have st : ∀ r, Ev (fun k => impl_IsGroup.l2 k (g.length : Int) a (g.length : Int) a (g.length : Int) 0 g) r → Ev (fun k => impl_IsGroup.l1 k (g.length : Int) (g.length : Int) a g) r := fun r h =>
            go r true (B_pos h4) (Ev.step (fun k => by simp only [impl_IsGroup.j3, Bool.not_true, Bool.false_eq_true, ↓reduceIte]) h)
          rcases inner with ⟨h5, h6⟩ | ⟨⟨b, b0, b1, h5⟩, h6⟩
          · exact .inl ⟨⟨h2, h3, h4, h5⟩, fun r h => st r (h6 r (Ev.step (fun k => by simp only [impl_IsGroup.l2, Int.lt_irrefl, hwa, ↓reduceIte]) h))⟩
          · exact .inr ⟨fun h => h5 (h.2.2.2 b b0 b1), st _ h6⟩
        · exact .inr ⟨fun h => h4 h.2.2.1, go _ false (B_neg h4) bad⟩
      · exact .inr ⟨fun h => h3 h.2.1, Ev.step (fun k => by simp only [impl_IsGroup.l1, a0, a1, hpos, l0, la, h2, h3, ↓reduceIte]) bad⟩
    · exact .inr ⟨fun h => h2 h.1, Ev.step (fun k => by simp only [impl_IsGroup.l1, a0, a1, hpos, l0, h2, ↓reduceIte]) bad⟩
end Go.Proofs.Ytfablaokggnioaa.U
set_option linter.unusedVariables false
set_option linter.unusedSimpArgs false
namespace Go.Proofs.Ytfablaokggnioaa.U
open Go.RowKit Go.Proofs.YtfablaokggnioaaW.PrintWords Go.Proofs.YtfablaokggnioaaW.PrintLast Go.Proofs.YtfablaokggnioaaW.PrintMore Go.Proofs.Ytfablaokggnioaa.Pa
theorem ev_In (x lo hi : Int) : Ev (fun _ => spec_l01In.f x lo hi) (B (lo ≤ x ∧ x ≤ hi)) := by
  refine ev_now fun k => ?_
  unfold spec_l01In.f
  by_cases h : x ≥ lo
  · rw [if_pos h, B_decide, B_congr (show x ≤ hi ↔ (lo ≤ x ∧ x ≤ hi) from ⟨fun h' => ⟨h, h'⟩, fun h' => h'.2⟩)]
  · rw [if_neg h, B_neg (fun h' => h h'.1)]
def LawS (g : List (List Int)) (a : Int) : Prop := T g 0 a = a ∧ T g a 0 = a ∧ (∀ b : Int, 0 ≤ b → b < g.length → ∀ c : Int, 0 ≤ c → c < g.length → T g (T g a b) c = T g a (T g b c)) ∧ ∃ b : Int, 0 ≤ b ∧ b < g.length ∧ T g a b = 0 ∧ T g b a = 0
theorem grp_iffS (g : List (List Int)) : Grp g ↔ (1 ≤ g.length ∧ g.length ≤ 8) ∧ Tab g ∧ ∀ a : Int, 0 ≤ a → a < g.length → LawS g a := by
  rw [grp_iff]
  constructor
  · intro h
    have hg := (grp_iff g).2 h
    refine ⟨h.1, h.2.1, fun a a0 a1 => ?_⟩
    obtain ⟨h1, h2, _, h4⟩ := h.2.2 a a0 a1
    exact ⟨h1, h2, h4, hg.inv2 a0 a1⟩
  · rintro ⟨h1, h2, h3⟩
    refine ⟨h1, h2, fun a a0 a1 => ?_⟩
    obtain ⟨k1, k2, k3, b, b0, b1, hb, _⟩ := h3 a a0 a1
    exact ⟨k1, k2, ⟨b, b0, b1, hb⟩, k3⟩
theorem ev_Is (g : List (List Int)) (hl : g.length ≤ maxLen) : Ev (fun k => spec_l01Is.f k g) (B (Grp g)) := by
  have hm := maxLen_le
  rw [B_congr (grp_iffS g)]
  unfold spec_l01Is.f
  refine ev_bind (fun k => rfl) (ev_In _ _ _) ?_
  by_cases c1 : 1 ≤ (g.length : Int) ∧ (g.length : Int) ≤ 8
  rotate_left
  · rw [B_neg c1, B_neg fun h => c1 (by omega)]
    exact ev_now fun k => by simp
  rw [B_pos c1]
  simp only [↓reduceIte]
  rw [B_congr (show ((1 ≤ g.length ∧ g.length ≤ 8) ∧ Tab g ∧ ∀ a : Int, 0 ≤ a → a < g.length → LawS g a) ↔ (Tab g ∧ ∀ a : Int, 0 ≤ a → a < g.length → LawS g a) from ⟨fun h => h.2, fun h => ⟨by omega, h⟩⟩)]
  have hpos : (0 : Int) < g.length := by omega
  refine scanB g.length (fun i k => spec_l01Is.l0 k (g.length : Int) i g) (fun a => (rd_Li64 g a).length = g.length ∧ AllIn g.length (rd_Li64 g a)) (∀ a : Int, 0 ≤ a → a < g.length → LawS g a) (fun a a0 a1 _ => ?_) (fun ht => ?_)
  · have hwa : wrap64 (a + 1) = a + 1 := w64s a0 a1 (by omega)
    by_cases h2 : ((rd_Li64 g a).length : Int) = g.length
    · have inner := scan g.length (fun b k => spec_l01Is.l1 k (g.length : Int) a b g) (fun b => 0 ≤ rd (rd_Li64 g a) b ∧ rd (rd_Li64 g a) b < g.length) false (fun b b0 b1 _ => by
        have hwb : wrap64 (b + 1) = b + 1 := w64s b0 b1 (by omega)
        have hw1 : wrap64 ((g.length : Int) - 1) = g.length - 1 := w64 (by omega) (by omega)
        have hin := ev_In (rd (rd_Li64 g a) b) 0 (wrap64 ((g.length : Int) - 1))
        rw [B_congr (show (0 ≤ rd (rd_Li64 g a) b ∧ rd (rd_Li64 g a) b ≤ wrap64 ((g.length : Int) - 1)) ↔ (0 ≤ rd (rd_Li64 g a) b ∧ rd (rd_Li64 g a) b < g.length) by rw [hw1]; omega)] at hin
        by_cases h3 : 0 ≤ rd (rd_Li64 g a) b ∧ rd (rd_Li64 g a) b < g.length
        · rw [B_pos h3] at hin
          refine .inl ⟨h3, fun r h => ev_step_bind (fun k => by simp only [spec_l01Is.l1, a0, a1, b0, b1, h2, ↓reduceIte]; rfl) hin ?_⟩
          simp only [hwb, ↓reduceIte]; exact h
        · rw [B_neg h3] at hin
          refine .inr ⟨h3, ev_step_bind (fun k => by simp only [spec_l01Is.l1, a0, a1, b0, b1, h2, ↓reduceIte]; rfl) hin ?_⟩
          exact ev_now fun k => by simp)
      rcases inner with ⟨h5, h6⟩ | ⟨⟨b, b0, b1, h5⟩, h6⟩
      · exact .inl ⟨⟨by omega, fun i i0 i1 => h5 i i0 (by omega)⟩, fun r h => Ev.step (fun k => by simp only [spec_l01Is.l0, a0, a1, h2, ↓reduceIte]) (h6 r (Ev.step (fun k => by simp only [spec_l01Is.l1, Int.lt_irrefl, hwa, ↓reduceIte]) h))⟩
      · exact .inr ⟨fun h => h5 (h.2 b b0 (by omega)), Ev.step (fun k => by simp only [spec_l01Is.l0, a0, a1, h2, ↓reduceIte]) h6⟩
    · exact .inr ⟨fun h => h2 (by omega), ev_step_now fun k => by simp only [spec_l01Is.l0, a0, a1, h2, ↓reduceIte]⟩
  · refine Ev.step (f := fun k => spec_l01Is.l2 k (g.length : Int) 0 g) (fun k => by simp only [spec_l01Is.l0, Int.lt_irrefl, ↓reduceIte]) ?_
    refine scanT g.length (fun i k => spec_l01Is.l2 k (g.length : Int) i g) (LawS g) (fun a a0 a1 _ => ?_) (fun _ => ev_step_now fun k => by simp only [spec_l01Is.l2, Int.lt_irrefl, ↓reduceIte])
    have hlen : ∀ x : Int, 0 ≤ x → x < g.length → ((rd_Li64 g x).length : Int) = g.length := fun x x0 x1 => by rw [(ht x x0 x1).1]
    have hent : ∀ x y : Int, 0 ≤ x → x < g.length → 0 ≤ y → y < g.length → 0 ≤ rd (rd_Li64 g x) y ∧ rd (rd_Li64 g x) y < g.length := fun x y x0 x1 y0 y1 => (ht x x0 x1).2 y y0 (by rw [hlen x x0 x1]; exact y1)
    have l0 := hlen 0 (by omega) hpos
    have la := hlen a a0 a1
    have hwa : wrap64 (a + 1) = a + 1 := w64s a0 a1 (by omega)
    have bad : Ev (fun k => spec_l01Is.j3 k (g.length : Int) a true g) false := ev_step_now fun k => by simp only [spec_l01Is.j3, ↓reduceIte]
    by_cases h2 : rd (rd_Li64 g 0) a = a
    rotate_left
    · exact .inr ⟨fun h => h2 h.1, Ev.step (fun k => by simp only [spec_l01Is.l2, a0, a1, hpos, l0, h2, ↓reduceIte]) bad⟩
    by_cases h3 : rd (rd_Li64 g a) 0 = a
    rotate_left
    · have h3' : (rd (rd_Li64 g a) 0 != a) = true := by simpa using h3
      exact .inr ⟨fun h => h3 h.2.1, Ev.step (fun k => by simp only [spec_l01Is.l2, a0, a1, hpos, l0, la, h2, h3', ↓reduceIte]) bad⟩
    have h3' : (rd (rd_Li64 g a) 0 != a) = false := by simpa using h3
    let Fd : Int → Prop := fun b => ∃ j : Int, 0 ≤ j ∧ j < b ∧ T g a j = 0 ∧ T g j a = 0
    have st : ∀ r, Ev (fun k => spec_l01Is.l3 k (g.length : Int) a (B (Fd 0)) 0 g) r → Ev (fun k => spec_l01Is.l2 k (g.length : Int) a g) r := fun r h => by
      rw [B_neg (show ¬ Fd 0 from fun ⟨j, j0, j1, _⟩ => by omega)] at h
      refine Ev.step (fun k => by simp only [spec_l01Is.l2, a0, a1, hpos, l0, la, h2, h3', ↓reduceIte]; rfl) ?_
      exact Ev.step (fun k => by simp only [spec_l01Is.j3, Bool.false_eq_true, ↓reduceIte]) h
    have inner := scan g.length (fun b k => spec_l01Is.l3 k (g.length : Int) a (B (Fd b)) b g) (fun b => ∀ c : Int, 0 ≤ c → c < g.length → T g (T g a b) c = T g a (T g b c)) false (fun b b0 b1 _ => by
      have hwb : wrap64 (b + 1) = b + 1 := w64s b0 b1 (by omega)
      obtain ⟨e0, e1⟩ := hent a b a0 a1 b0 b1
      have le := hlen _ e0 e1
      have lb := hlen b b0 b1
      have toj : ∀ r, Ev (fun k => spec_l01Is.j5 k (g.length : Int) a (B (Fd (b + 1))) b g) r → Ev (fun k => spec_l01Is.l3 k (g.length : Int) a (B (Fd b)) b g) r := fun r h => by
        by_cases k1 : Fd b
        · rw [B_pos k1]
          rw [B_pos (show Fd (b + 1) from by obtain ⟨j, j0, j1, h⟩ := k1; exact ⟨j, j0, by omega, h⟩)] at h
          exact Ev.step (fun k => by simp only [spec_l01Is.l3, b1, ↓reduceIte]) h
        · rw [B_neg k1]
          by_cases k2 : rd (rd_Li64 g a) b = 0
          · have e : B (Fd (b + 1)) = (rd (rd_Li64 g b) a == 0) := by
              by_cases k3 : rd (rd_Li64 g b) a = 0
              · rw [B_pos ⟨b, b0, by omega, k2, k3⟩]; simp [k3]
              · rw [B_neg]
                · simp [k3]
                · rintro ⟨j, j0, j1, ja, jb⟩
                  by_cases ej : j = b
                  · subst ej; exact k3 jb
                  · exact k1 ⟨j, j0, by omega, ja, jb⟩
            rw [e] at h
            exact Ev.step (fun k => by simp only [spec_l01Is.l3, a0, a1, b0, b1, la, lb, k2, Bool.false_eq_true, ↓reduceIte]) h
          · rw [B_neg (show ¬ Fd (b + 1) from by
              rintro ⟨j, j0, j1, ja, jb⟩
              by_cases ej : j = b
              · subst ej; exact k2 ja
              · exact k1 ⟨j, j0, by omega, ja, jb⟩)] at h
            exact Ev.step (fun k => by simp only [spec_l01Is.l3, a0, a1, b0, b1, la, k2, Bool.false_eq_true, ↓reduceIte]) h
      have inner4 := scan g.length (fun c k => spec_l01Is.l4 k (g.length : Int) a (B (Fd (b + 1))) b c g) (fun c => T g (T g a b) c = T g a (T g b c)) false (fun c c0 c1 _ => by
        have hwc : wrap64 (c + 1) = c + 1 := w64s c0 c1 (by omega)
        obtain ⟨f0, f1⟩ := hent b c b0 b1 c0 c1
        by_cases h5 : rd (rd_Li64 g (rd (rd_Li64 g a) b)) c = rd (rd_Li64 g a) (rd (rd_Li64 g b) c)
        · exact .inl ⟨h5, fun r h => Ev.step (fun k => by simp only [spec_l01Is.l4, a0, a1, b0, b1, c0, c1, e0, e1, f0, f1, la, lb, le, h5, hwc, ↓reduceIte]) h⟩
        · exact .inr ⟨h5, ev_step_now fun k => by simp only [spec_l01Is.l4, a0, a1, b0, b1, c0, c1, e0, e1, f0, f1, la, lb, le, h5, ↓reduceIte]⟩)
      rcases inner4 with ⟨h5, h6⟩ | ⟨⟨c, c0, c1, h5⟩, h6⟩
      · exact .inl ⟨h5, fun r h => toj r (Ev.step (fun k => by simp only [spec_l01Is.j5]) (h6 r (Ev.step (fun k => by simp only [spec_l01Is.l4, Int.lt_irrefl, hwb, ↓reduceIte]) h)))⟩
      · exact .inr ⟨fun h => h5 (h c c0 c1), toj _ (Ev.step (fun k => by simp only [spec_l01Is.j5]) h6)⟩)
    rcases inner with ⟨h5, h6⟩ | ⟨⟨b, b0, b1, h5⟩, h6⟩
    · by_cases h7 : Fd g.length
      · rw [B_pos h7] at h6
        exact .inl ⟨⟨h2, h3, h5, h7⟩, fun r h => st r (h6 r (Ev.step (fun k => by simp only [spec_l01Is.l3, Int.lt_irrefl, hwa, ↓reduceIte]) h))⟩
      · rw [B_neg h7] at h6
        exact .inr ⟨fun h => h7 h.2.2.2, st _ (h6 _ (ev_step_now fun k => by simp only [spec_l01Is.l3, Int.lt_irrefl, Bool.false_eq_true, ↓reduceIte]))⟩
    · exact .inr ⟨fun h => h5 (h.2.2.1 b b0 b1), st _ h6⟩
end Go.Proofs.Ytfablaokggnioaa.U
