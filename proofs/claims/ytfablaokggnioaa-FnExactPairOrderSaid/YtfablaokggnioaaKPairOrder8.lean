/- What the proof of the law PairOrder stands on, part 8: words, each Go function's Lean function, and that the Go code comes to its answers; no condition. (Packed by wip/myprint/pack.py out of what the kit's printer wrote, its words among it, partly by our patches of it, and out of texts of this session.) -/
import Derived.Test.YtfablaokggnioaaKPairOrder0
import Derived.Test.YtfablaokggnioaaKPairOrder1
import Derived.Test.YtfablaokggnioaaKPairOrder2
import Derived.Test.YtfablaokggnioaaKPairOrder3
import Derived.Test.YtfablaokggnioaaKPairOrder4
import Derived.Test.YtfablaokggnioaaKPairOrder5
import Derived.Test.YtfablaokggnioaaKPairOrder6
import Derived.Test.YtfablaokggnioaaKPairOrder7
namespace Go.Proofs.Ytfablaokggnioaa.Pa
open Go.RowKit Go.Proofs.YtfablaokggnioaaW.PrintWords Go.Proofs.YtfablaokggnioaaW.PrintLast Go.Proofs.YtfablaokggnioaaW.PrintMore
attribute [local go_sem] max2_int min2_int max_two min_two max_three min_three max_four min_four
set_option linter.unusedVariables false
set_option linter.unusedSimpArgs false
def laws_FnExactPairOrder.j0 : Nat → Bool → List (List Int) → Int → List Int → List (List Int) → Int → List Int → Option (Bool)
 | 0, _, _, _, _, _, _, _ => none
 | k + 1, x51, x375000, x376000, x376001, x391000, x396000, x396001 => if x51 = true then (some false) else ((laws_toGroup.f k x375000).bind fun t398 => ((laws_eqGroup.f k x391000 t398).bind fun t401 => (if t401 = true then ((laws_toModule.f k x376000 x376001).bind fun bt402 => ((laws_eqModule.f k x396000 x396001 bt402.1 bt402.2).bind fun t406 => (if t406 = true then (some true) else (some false)))) else (some false))))
def laws_FnExactPairOrder.f (k : Nat) (l0_0 : List (List Int)) (a1_0 : Int) (l1_1 : List Int) (a2 : Int) : Option (Bool) := (laws_szGroup.f k l0_0 1048576).bind fun t376 => (if t376 < 0 then (some true) else ((laws_szModule.f a1_0 l1_1 t376).bind fun t377 => (if t377 < 0 then (some true) else ((laws_toGroup.f k l0_0).bind fun t378 => ((laws_toModule.f k a1_0 l1_1).bind fun bt381 => ((spec_PairOrder.f k t378 bt381.1 bt381.2 a2).bind fun bt385 => ((laws_toGroup.f k l0_0).bind fun t387 => ((laws_toModule.f k a1_0 l1_1).bind fun bt391 => ((impl_PairOrder.f k t387 bt391.1 bt391.2 a2).bind fun bt396 => (if bt396.1 = bt385.1 then (laws_FnExactPairOrder.j0 k (bt396.2 != bt385.2) l0_0 a1_0 l1_1 t387 bt391.1 bt391.2) else (laws_FnExactPairOrder.j0 k true l0_0 a1_0 l1_1 t387 bt391.1 bt391.2)))))))))))
def laws_FnExactPairOrder.T8 : Bool × List (List Nat × List Nat) := (true, [([], []), ([0], [0]), ([], []), ([2, 1], [2]), ([], []), ([1, 3, 4, 3], [1, 3, 4]), ([5], [5]), ([6], [6]), ([6], [6]), ([7, 5, 0, 1, 2, 3, 4, 5, 6, 7], [7]), ([8, 9, 0, 1, 2, 3, 4, 5, 6, 7, 8, 9], [8])])
def laws_FnExactPairOrder.B8 : List Nat := [0, 1, 0, 7, 0, 31, 63, 127, 127, 255, 1023]
theorem laws_FnExactPairOrder.tab8 : rtab .any (opsOf Try.f5 8) = laws_FnExactPairOrder.T8 := by kernel_rfl
theorem laws_FnExactPairOrder.bits8 : waitsOk laws_FnExactPairOrder.T8.2 laws_FnExactPairOrder.B8 = true := by kernel_rfl
set_option maxHeartbeats 8000000 in
set_option maxRecDepth 100000 in
theorem laws_FnExactPairOrder.calls (k : Nat) (A0_0 : Option Addr) (c0_0 : Nat) (l0_0 : List (List Int)) (a1_0 : Int) (A1_1 : Option Addr) (c1_1 : Nat) (l1_1 : List Int) (a2 : Int) (r : Bool) (w : World) (hr0_0 : Kd.C (Kd.slice 2 (Kd.int .i64)) w A0_0 l0_0.length l0_0) (hc0_0 : l0_0.length ≤ c0_0) (hr1_1 : Kd.C (Kd.int .i64) w A1_1 l1_1.length l1_1) (hc1_1 : l1_1.length ≤ c1_1) (h : laws_FnExactPairOrder.f k l0_0 a1_0 l1_1 a2 = some r) :
  Calls Try.prog 5 #[.agg #[.slice A0_0 l0_0.length c0_0], .agg #[.int .i64 a1_0, .slice A1_1 l1_1.length c1_1], .int .i64 a2] w fun e w' => e = .returned (.bool r) ∧ Below w.heap.size w w' := by
 have hu24 := Try.underlying24
 have hu27 := Try.underlying27
 have hu32 := Try.underlying32
 have hu34 := Try.underlying34
 have HR0_0 := Aside0.mk hr0_0
 have HC0_0 := Aside0.mk hc0_0
 clear hr0_0 hc0_0
 have HR1_1 := Aside0.mk hr1_1
 have HC1_1 := Aside0.mk hc1_1
 clear hr1_1 hc1_1
 have HB := Aside0.mk (Below.refl w.heap.size w)
 have H : ((laws_szGroup.f k l0_0 1048576).bind fun t376 => (if t376 < 0 then (some true) else ((laws_szModule.f a1_0 l1_1 t376).bind fun t377 => (if t377 < 0 then (some true) else ((laws_toGroup.f k l0_0).bind fun t378 => ((laws_toModule.f k a1_0 l1_1).bind fun bt381 => ((spec_PairOrder.f k t378 bt381.1 bt381.2 a2).bind fun bt385 => ((laws_toGroup.f k l0_0).bind fun t387 => ((laws_toModule.f k a1_0 l1_1).bind fun bt391 => ((impl_PairOrder.f k t387 bt391.1 bt391.2 a2).bind fun bt396 => (if bt396.1 = bt385.1 then (laws_FnExactPairOrder.j0 k (bt396.2 != bt385.2) l0_0 a1_0 l1_1 t387 bt391.1 bt391.2) else (laws_FnExactPairOrder.j0 k true l0_0 a1_0 l1_1 t387 bt391.1 bt391.2)))))))))))) = some r := h
 clear h
 replace H := Option.bind_eq_some_iff.mp H
 obtain ⟨t376, A40, H⟩ := H
 replace H : (if t376 < 0 then (some true) else ((laws_szModule.f a1_0 l1_1 t376).bind fun t377 => (if t377 < 0 then (some true) else ((laws_toGroup.f k l0_0).bind fun t378 => ((laws_toModule.f k a1_0 l1_1).bind fun bt381 => ((spec_PairOrder.f k t378 bt381.1 bt381.2 a2).bind fun bt385 => ((laws_toGroup.f k l0_0).bind fun t387 => ((laws_toModule.f k a1_0 l1_1).bind fun bt391 => ((impl_PairOrder.f k t387 bt391.1 bt391.2 a2).bind fun bt396 => (if bt396.1 = bt385.1 then (laws_FnExactPairOrder.j0 k (bt396.2 != bt385.2) l0_0 a1_0 l1_1 t387 bt391.1 bt391.2) else (laws_FnExactPairOrder.j0 k true l0_0 a1_0 l1_1 t387 bt391.1 bt391.2))))))))))) = some r := H
 have A4 := Aside0.mk A40
 clear A40
 by_cases c5 : t376 < 0
 ·
  rw [if_pos c5] at H
  have c5b0 : decide (t376 < 0) = true := decide_eq_true c5
  clear c5
  obtain rfl := Option.some.inj H
  go_enter Try.func5, Try.ntmps5
  go_wp2_with (first | ((with_reducible refine gate_dst (N := 3) rfl ?_); refine box_event ?hg (N := 3) ?hd (cs := #[.slice A0_0 l0_0.length c0_0]) (t := 24) ?hr ?_; (case hd => rfl); (case hg => rfl); (case hr => first | (go_simp; done) | (go_simp; rfl)); intro gb374 hg w6 hbox hb; have n0_ := Aside0.mk (below_step (by repeat (first | (with_reducible first | exact HB.out | apply below_alloc | apply pw_below_drewN | apply below_drew1) | exact HB.out)) hb); have n1_ := Aside0.mk (hbox); have n2_ := Aside0.mk ((by rw [hg]; exact (below_size (by repeat (first | (with_reducible first | exact HB.out | apply below_alloc | apply pw_below_drewN | apply below_drew1) | exact HB.out))) : w.heap.size ≤ gb374)); have n3_ := Aside0.mk ((by rw [hg]; exact (below_size (by repeat (first | (with_reducible first | exact HB.out | apply below_alloc | apply pw_below_drewN | apply below_drew1) | exact HB.out))) : w.heap.size ≤ gb374)); clear HB; have HB := n0_; have BK374 := n1_; have GW374 := n2_; have GE374 := n3_; clear n0_ n1_ n2_ n3_; clear hb hbox hg) | ((with_reducible refine gate_dst (N := 4) rfl ?_); refine box_event ?hg (N := 4) ?hd (cs := #[.int .i64 a1_0, .slice A1_1 l1_1.length c1_1]) (t := 27) ?hr ?_; (case hd => rfl); (case hg => rfl); (case hr => first | (go_simp; done) | (go_simp; rfl)); intro gb375 hg w7 hbox hb; have n0_ := Aside0.mk (blk_below (g := gb374) (o := .cells #[.slice A0_0 l0_0.length c0_0] 24 (0, 0)) (by (with_reducible repeat (first | refine blk_drewN ?_ _ | refine blk_drew ?_ | refine blk_alloc ?_ _)); exact BK374.out) hb); have n1_ := Aside0.mk (below_step (by repeat (first | (with_reducible first | exact HB.out | apply below_alloc | apply pw_below_drewN | apply below_drew1 | refine below_set ?_ GE374.out) | exact HB.out)) hb); have n2_ := Aside0.mk (hbox); have n3_ := Aside0.mk ((by rw [hg]; exact (below_size (by repeat (first | (with_reducible first | exact HB.out | apply below_alloc | apply pw_below_drewN | apply below_drew1 | refine below_set ?_ GE374.out) | exact HB.out))) : w.heap.size ≤ gb375)); have n4_ := Aside0.mk ((by rw [hg]; exact (below_size (by repeat (first | (with_reducible first | exact HB.out | apply below_alloc | apply pw_below_drewN | apply below_drew1 | refine below_set ?_ GE374.out) | exact HB.out))) : w.heap.size ≤ gb375)); have n5_ := Aside0.mk ((by rw [hg]; exact Nat.ne_of_lt (blk_lt (g := gb374) (o := .cells #[.slice A0_0 l0_0.length c0_0] 24 (0, 0)) (by (with_reducible repeat (first | refine blk_drewN ?_ _ | refine blk_drew ?_ | refine blk_alloc ?_ _)); exact BK374.out)) : gb374 ≠ gb375)); have n6_ := Aside0.mk ((by rw [hg]; exact Nat.ne_of_gt (blk_lt (g := gb374) (o := .cells #[.slice A0_0 l0_0.length c0_0] 24 (0, 0)) (by (with_reducible repeat (first | refine blk_drewN ?_ _ | refine blk_drew ?_ | refine blk_alloc ?_ _)); exact BK374.out)) : gb375 ≠ gb374)); clear BK374; clear HB; have BK374 := n0_; have HB := n1_; have BK375 := n2_; have GW375 := n3_; have GE375 := n4_; have NB374_375 := n5_; have NB375_374 := n6_; clear n0_ n1_ n2_ n3_ n4_ n5_ n6_; clear hb hbox hg; have hnb8 := NB374_375.out; have hnc8 := NB375_374.out; have hcz9_0 : w7.cell? ⟨gb374, 0, none⟩ = some (.slice A0_0 l0_0.length c0_0) := (blk_cell BK374.out 0).trans rfl; have hfz9_0 := blk_frozen BK374.out 0) | ((with_reducible refine gate_callee (f := 9) rfl ?_); refine goesL_ (some 16) rfl rfl Try.func9 (by kernel_rfl) rfl #[.agg #[.slice A0_0 l0_0.length c0_0], .int .i64 1048576] rfl (by (try simp only [List.map_toArray, List.map_cons, List.map_nil]); first | done | rfl | (simp only [List.length_drop, List.length_take]; rfl)) ?_; (with_reducible refine (laws_szGroup.calls k _ _ l0_0 1048576 t376 _ ?side1 ?side2 A4.out).mono ?_); (case side1 => repeat (first | exact (Kd.C_below HR0_0.out HB.out) | (with_reducible refine Kd.C_alloc ?_ _) | (with_reducible refine Kd.C_drewN ?_ _) | (with_reducible refine Kd.C_drew ?_))); (case side2 => exact HC0_0.out); rintro e w10 ⟨rfl, hb⟩; refine ⟨_, rfl, ?_⟩; have n0_ := Aside0.mk (blk_below (g := gb374) (o := .cells #[.slice A0_0 l0_0.length c0_0] 24 (0, 0)) (by (with_reducible repeat (first | refine blk_drewN ?_ _ | refine blk_drew ?_ | refine blk_alloc ?_ _)); exact BK374.out) hb); have n1_ := Aside0.mk (blk_below (g := gb375) (o := .cells #[.int .i64 a1_0, .slice A1_1 l1_1.length c1_1] 27 (0, 0)) (by (with_reducible repeat (first | refine blk_drewN ?_ _ | refine blk_drew ?_ | refine blk_alloc ?_ _)); exact BK375.out) hb); have n2_ := Aside0.mk (below_step (by repeat (first | (with_reducible first | exact HB.out | apply below_alloc | apply pw_below_drewN | apply below_drew1 | refine below_set ?_ GE374.out | refine below_set ?_ GE375.out) | exact HB.out)) hb); clear BK374; clear BK375; clear HB; have BK374 := n0_; have BK375 := n1_; have HB := n2_; clear n0_ n1_ n2_; (try clear hb); (try clear hb2); (try clear hk); (try clear hi)))
  go_ret
  exact ⟨by first | rfl | (simp [errW_none, errW_some] <;> rfl) | (simp [*, errW_none, errW_some] <;> rfl), by repeat (first | (with_reducible first | exact HB.out | apply below_alloc | apply pw_below_drewN | apply below_drew1 | refine below_set ?_ GE374.out | refine below_set ?_ GE375.out) | exact HB.out)⟩
 ·
  rw [if_neg c5] at H
  have c5b0 : decide (t376 < 0) = false := decide_eq_false c5
  clear c5
  replace H := Option.bind_eq_some_iff.mp H
  obtain ⟨t377, A110, H⟩ := H
  replace H : (if t377 < 0 then (some true) else ((laws_toGroup.f k l0_0).bind fun t378 => ((laws_toModule.f k a1_0 l1_1).bind fun bt381 => ((spec_PairOrder.f k t378 bt381.1 bt381.2 a2).bind fun bt385 => ((laws_toGroup.f k l0_0).bind fun t387 => ((laws_toModule.f k a1_0 l1_1).bind fun bt391 => ((impl_PairOrder.f k t387 bt391.1 bt391.2 a2).bind fun bt396 => (if bt396.1 = bt385.1 then (laws_FnExactPairOrder.j0 k (bt396.2 != bt385.2) l0_0 a1_0 l1_1 t387 bt391.1 bt391.2) else (laws_FnExactPairOrder.j0 k true l0_0 a1_0 l1_1 t387 bt391.1 bt391.2))))))))) = some r := H
  have A11 := Aside0.mk A110
  clear A110
  by_cases c12 : t377 < 0
  ·
   rw [if_pos c12] at H
   have c12b0 : decide (t377 < 0) = true := decide_eq_true c12
   clear c12
   obtain rfl := Option.some.inj H
   go_enter Try.func5, Try.ntmps5
   go_wp2_with (first | ((with_reducible refine gate_dst (N := 3) rfl ?_); refine box_event ?hg (N := 3) ?hd (cs := #[.slice A0_0 l0_0.length c0_0]) (t := 24) ?hr ?_; (case hd => rfl); (case hg => rfl); (case hr => first | (go_simp; done) | (go_simp; rfl)); intro gb374 hg w13 hbox hb; have n0_ := Aside0.mk (below_step (by repeat (first | (with_reducible first | exact HB.out | apply below_alloc | apply pw_below_drewN | apply below_drew1) | exact HB.out)) hb); have n1_ := Aside0.mk (hbox); have n2_ := Aside0.mk ((by rw [hg]; exact (below_size (by repeat (first | (with_reducible first | exact HB.out | apply below_alloc | apply pw_below_drewN | apply below_drew1) | exact HB.out))) : w.heap.size ≤ gb374)); have n3_ := Aside0.mk ((by rw [hg]; exact (below_size (by repeat (first | (with_reducible first | exact HB.out | apply below_alloc | apply pw_below_drewN | apply below_drew1) | exact HB.out))) : w.heap.size ≤ gb374)); clear HB; have HB := n0_; have BK374 := n1_; have GW374 := n2_; have GE374 := n3_; clear n0_ n1_ n2_ n3_; clear hb hbox hg) | ((with_reducible refine gate_dst (N := 4) rfl ?_); refine box_event ?hg (N := 4) ?hd (cs := #[.int .i64 a1_0, .slice A1_1 l1_1.length c1_1]) (t := 27) ?hr ?_; (case hd => rfl); (case hg => rfl); (case hr => first | (go_simp; done) | (go_simp; rfl)); intro gb375 hg w14 hbox hb; have n0_ := Aside0.mk (blk_below (g := gb374) (o := .cells #[.slice A0_0 l0_0.length c0_0] 24 (0, 0)) (by (with_reducible repeat (first | refine blk_drewN ?_ _ | refine blk_drew ?_ | refine blk_alloc ?_ _)); exact BK374.out) hb); have n1_ := Aside0.mk (below_step (by repeat (first | (with_reducible first | exact HB.out | apply below_alloc | apply pw_below_drewN | apply below_drew1 | refine below_set ?_ GE374.out) | exact HB.out)) hb); have n2_ := Aside0.mk (hbox); have n3_ := Aside0.mk ((by rw [hg]; exact (below_size (by repeat (first | (with_reducible first | exact HB.out | apply below_alloc | apply pw_below_drewN | apply below_drew1 | refine below_set ?_ GE374.out) | exact HB.out))) : w.heap.size ≤ gb375)); have n4_ := Aside0.mk ((by rw [hg]; exact (below_size (by repeat (first | (with_reducible first | exact HB.out | apply below_alloc | apply pw_below_drewN | apply below_drew1 | refine below_set ?_ GE374.out) | exact HB.out))) : w.heap.size ≤ gb375)); have n5_ := Aside0.mk ((by rw [hg]; exact Nat.ne_of_lt (blk_lt (g := gb374) (o := .cells #[.slice A0_0 l0_0.length c0_0] 24 (0, 0)) (by (with_reducible repeat (first | refine blk_drewN ?_ _ | refine blk_drew ?_ | refine blk_alloc ?_ _)); exact BK374.out)) : gb374 ≠ gb375)); have n6_ := Aside0.mk ((by rw [hg]; exact Nat.ne_of_gt (blk_lt (g := gb374) (o := .cells #[.slice A0_0 l0_0.length c0_0] 24 (0, 0)) (by (with_reducible repeat (first | refine blk_drewN ?_ _ | refine blk_drew ?_ | refine blk_alloc ?_ _)); exact BK374.out)) : gb375 ≠ gb374)); clear BK374; clear HB; have BK374 := n0_; have HB := n1_; have BK375 := n2_; have GW375 := n3_; have GE375 := n4_; have NB374_375 := n5_; have NB375_374 := n6_; clear n0_ n1_ n2_ n3_ n4_ n5_ n6_; clear hb hbox hg; have hnb15 := NB374_375.out; have hnc15 := NB375_374.out; have hcz16_0 : w14.cell? ⟨gb374, 0, none⟩ = some (.slice A0_0 l0_0.length c0_0) := (blk_cell BK374.out 0).trans rfl; have hfz16_0 := blk_frozen BK374.out 0) | ((with_reducible refine gate_callee (f := 9) rfl ?_); refine goesL_ (some 16) rfl rfl Try.func9 (by kernel_rfl) rfl #[.agg #[.slice A0_0 l0_0.length c0_0], .int .i64 1048576] rfl (by (try simp only [List.map_toArray, List.map_cons, List.map_nil]); first | done | rfl | (simp only [List.length_drop, List.length_take]; rfl)) ?_; (with_reducible refine (laws_szGroup.calls k _ _ l0_0 1048576 t376 _ ?side1 ?side2 A4.out).mono ?_); (case side1 => repeat (first | exact (Kd.C_below HR0_0.out HB.out) | (with_reducible refine Kd.C_alloc ?_ _) | (with_reducible refine Kd.C_drewN ?_ _) | (with_reducible refine Kd.C_drew ?_))); (case side2 => exact HC0_0.out); rintro e w17 ⟨rfl, hb⟩; refine ⟨_, rfl, ?_⟩; have n0_ := Aside0.mk (blk_below (g := gb374) (o := .cells #[.slice A0_0 l0_0.length c0_0] 24 (0, 0)) (by (with_reducible repeat (first | refine blk_drewN ?_ _ | refine blk_drew ?_ | refine blk_alloc ?_ _)); exact BK374.out) hb); have n1_ := Aside0.mk (blk_below (g := gb375) (o := .cells #[.int .i64 a1_0, .slice A1_1 l1_1.length c1_1] 27 (0, 0)) (by (with_reducible repeat (first | refine blk_drewN ?_ _ | refine blk_drew ?_ | refine blk_alloc ?_ _)); exact BK375.out) hb); have n2_ := Aside0.mk (below_step (by repeat (first | (with_reducible first | exact HB.out | apply below_alloc | apply pw_below_drewN | apply below_drew1 | refine below_set ?_ GE374.out | refine below_set ?_ GE375.out) | exact HB.out)) hb); clear BK374; clear BK375; clear HB; have BK374 := n0_; have BK375 := n1_; have HB := n2_; clear n0_ n1_ n2_; (try clear hb); (try clear hb2); (try clear hk); (try clear hi); have hcz18_0 : w17.cell? ⟨gb375, 0, none⟩ = some (.int .i64 a1_0) := (blk_cell BK375.out 0).trans rfl; have hcz18_1 : w17.cell? ⟨gb375, 1, none⟩ = some (.slice A1_1 l1_1.length c1_1) := (blk_cell BK375.out 1).trans rfl; have hfz18_0 := blk_frozen BK375.out 0; have hfz18_1 := blk_frozen BK375.out 1) | ((with_reducible refine gate_callee (f := 10) rfl ?_); refine goesL_ (some 21) rfl rfl Try.func10 (by kernel_rfl) rfl #[.agg #[.int .i64 a1_0, .slice A1_1 l1_1.length c1_1], .int .i64 t376] rfl (by (try simp only [List.map_toArray, List.map_cons, List.map_nil]); first | done | rfl | (simp only [List.length_drop, List.length_take]; rfl)) ?_; (with_reducible refine (laws_szModule.calls a1_0 _ _ l1_1 t376 t377 _ ?side1 ?side2 A11.out).mono ?_); (case side1 => repeat (first | exact (Kd.C_below HR1_1.out HB.out) | (with_reducible refine Kd.C_alloc ?_ _) | (with_reducible refine Kd.C_drewN ?_ _) | (with_reducible refine Kd.C_drew ?_))); (case side2 => exact HC1_1.out); rintro e w19 ⟨rfl, hb⟩; refine ⟨_, rfl, ?_⟩; have n0_ := Aside0.mk (blk_below (g := gb374) (o := .cells #[.slice A0_0 l0_0.length c0_0] 24 (0, 0)) (by (with_reducible repeat (first | refine blk_drewN ?_ _ | refine blk_drew ?_ | refine blk_alloc ?_ _)); exact BK374.out) hb); have n1_ := Aside0.mk (blk_below (g := gb375) (o := .cells #[.int .i64 a1_0, .slice A1_1 l1_1.length c1_1] 27 (0, 0)) (by (with_reducible repeat (first | refine blk_drewN ?_ _ | refine blk_drew ?_ | refine blk_alloc ?_ _)); exact BK375.out) hb); have n2_ := Aside0.mk (below_step (by repeat (first | (with_reducible first | exact HB.out | apply below_alloc | apply pw_below_drewN | apply below_drew1 | refine below_set ?_ GE374.out | refine below_set ?_ GE375.out) | exact HB.out)) hb); clear BK374; clear BK375; clear HB; have BK374 := n0_; have BK375 := n1_; have HB := n2_; clear n0_ n1_ n2_; (try clear hb); (try clear hb2); (try clear hk); (try clear hi)))
   go_ret
   exact ⟨by first | rfl | (simp [errW_none, errW_some] <;> rfl) | (simp [*, errW_none, errW_some] <;> rfl), by repeat (first | (with_reducible first | exact HB.out | apply below_alloc | apply pw_below_drewN | apply below_drew1 | refine below_set ?_ GE374.out | refine below_set ?_ GE375.out) | exact HB.out)⟩
  ·
   rw [if_neg c12] at H
   have c12b0 : decide (t377 < 0) = false := decide_eq_false c12
   clear c12
   replace H := Option.bind_eq_some_iff.mp H
   obtain ⟨t378, A200, H⟩ := H
   replace H : ((laws_toModule.f k a1_0 l1_1).bind fun bt381 => ((spec_PairOrder.f k t378 bt381.1 bt381.2 a2).bind fun bt385 => ((laws_toGroup.f k l0_0).bind fun t387 => ((laws_toModule.f k a1_0 l1_1).bind fun bt391 => ((impl_PairOrder.f k t387 bt391.1 bt391.2 a2).bind fun bt396 => (if bt396.1 = bt385.1 then (laws_FnExactPairOrder.j0 k (bt396.2 != bt385.2) l0_0 a1_0 l1_1 t387 bt391.1 bt391.2) else (laws_FnExactPairOrder.j0 k true l0_0 a1_0 l1_1 t387 bt391.1 bt391.2))))))) = some r := H
   have A20 := Aside0.mk A200
   clear A200
   replace H := Option.bind_eq_some_iff.mp H
   obtain ⟨⟨t381, t382⟩, A210, H⟩ := H
   replace H : ((spec_PairOrder.f k t378 t381 t382 a2).bind fun bt385 => ((laws_toGroup.f k l0_0).bind fun t387 => ((laws_toModule.f k a1_0 l1_1).bind fun bt391 => ((impl_PairOrder.f k t387 bt391.1 bt391.2 a2).bind fun bt396 => (if bt396.1 = bt385.1 then (laws_FnExactPairOrder.j0 k (bt396.2 != bt385.2) l0_0 a1_0 l1_1 t387 bt391.1 bt391.2) else (laws_FnExactPairOrder.j0 k true l0_0 a1_0 l1_1 t387 bt391.1 bt391.2)))))) = some r := H
   have A21 := Aside0.mk A210
   clear A210
   replace H := Option.bind_eq_some_iff.mp H
   obtain ⟨⟨t385, t386⟩, A220, H⟩ := H
   replace H : ((laws_toGroup.f k l0_0).bind fun t387 => ((laws_toModule.f k a1_0 l1_1).bind fun bt391 => ((impl_PairOrder.f k t387 bt391.1 bt391.2 a2).bind fun bt396 => (if bt396.1 = t385 then (laws_FnExactPairOrder.j0 k (bt396.2 != t386) l0_0 a1_0 l1_1 t387 bt391.1 bt391.2) else (laws_FnExactPairOrder.j0 k true l0_0 a1_0 l1_1 t387 bt391.1 bt391.2))))) = some r := H
   have A22 := Aside0.mk A220
   clear A220
   replace H := Option.bind_eq_some_iff.mp H
   obtain ⟨t387, A230, H⟩ := H
   replace H : ((laws_toModule.f k a1_0 l1_1).bind fun bt391 => ((impl_PairOrder.f k t387 bt391.1 bt391.2 a2).bind fun bt396 => (if bt396.1 = t385 then (laws_FnExactPairOrder.j0 k (bt396.2 != t386) l0_0 a1_0 l1_1 t387 bt391.1 bt391.2) else (laws_FnExactPairOrder.j0 k true l0_0 a1_0 l1_1 t387 bt391.1 bt391.2)))) = some r := H
   have A23 := Aside0.mk A230
   clear A230
   replace H := Option.bind_eq_some_iff.mp H
   obtain ⟨⟨t391, t392⟩, A240, H⟩ := H
   replace H : ((impl_PairOrder.f k t387 t391 t392 a2).bind fun bt396 => (if bt396.1 = t385 then (laws_FnExactPairOrder.j0 k (bt396.2 != t386) l0_0 a1_0 l1_1 t387 t391 t392) else (laws_FnExactPairOrder.j0 k true l0_0 a1_0 l1_1 t387 t391 t392))) = some r := H
   have A24 := Aside0.mk A240
   clear A240
   replace H := Option.bind_eq_some_iff.mp H
   obtain ⟨⟨t396, t397⟩, A250, H⟩ := H
   replace H : (if t396 = t385 then (laws_FnExactPairOrder.j0 k (t397 != t386) l0_0 a1_0 l1_1 t387 t391 t392) else (laws_FnExactPairOrder.j0 k true l0_0 a1_0 l1_1 t387 t391 t392)) = some r := H
   have A25 := Aside0.mk A250
   clear A250
   have HC26 := Aside0.mk H
   clear H
   go_enter Try.func5, Try.ntmps5
   try go_wp2_with (first | ((with_reducible refine gate_dst (N := 3) rfl ?_); refine box_event ?hg (N := 3) ?hd (cs := #[.slice A0_0 l0_0.length c0_0]) (t := 24) ?hr ?_; (case hd => rfl); (case hg => rfl); (case hr => first | (go_simp; done) | (go_simp; rfl)); intro gb374 hg w27 hbox hb; have n0_ := Aside0.mk (below_step (by repeat (first | (with_reducible first | exact HB.out | apply below_alloc | apply pw_below_drewN | apply below_drew1) | exact HB.out)) hb); have n1_ := Aside0.mk (hbox); have n2_ := Aside0.mk ((by rw [hg]; exact (below_size (by repeat (first | (with_reducible first | exact HB.out | apply below_alloc | apply pw_below_drewN | apply below_drew1) | exact HB.out))) : w.heap.size ≤ gb374)); have n3_ := Aside0.mk ((by rw [hg]; exact (below_size (by repeat (first | (with_reducible first | exact HB.out | apply below_alloc | apply pw_below_drewN | apply below_drew1) | exact HB.out))) : w.heap.size ≤ gb374)); clear HB; have HB := n0_; have BK374 := n1_; have GW374 := n2_; have GE374 := n3_; clear n0_ n1_ n2_ n3_; clear hb hbox hg) | ((with_reducible refine gate_dst (N := 4) rfl ?_); refine box_event ?hg (N := 4) ?hd (cs := #[.int .i64 a1_0, .slice A1_1 l1_1.length c1_1]) (t := 27) ?hr ?_; (case hd => rfl); (case hg => rfl); (case hr => first | (go_simp; done) | (go_simp; rfl)); intro gb375 hg w28 hbox hb; have n0_ := Aside0.mk (blk_below (g := gb374) (o := .cells #[.slice A0_0 l0_0.length c0_0] 24 (0, 0)) (by (with_reducible repeat (first | refine blk_drewN ?_ _ | refine blk_drew ?_ | refine blk_alloc ?_ _)); exact BK374.out) hb); have n1_ := Aside0.mk (below_step (by repeat (first | (with_reducible first | exact HB.out | apply below_alloc | apply pw_below_drewN | apply below_drew1 | refine below_set ?_ GE374.out) | exact HB.out)) hb); have n2_ := Aside0.mk (hbox); have n3_ := Aside0.mk ((by rw [hg]; exact (below_size (by repeat (first | (with_reducible first | exact HB.out | apply below_alloc | apply pw_below_drewN | apply below_drew1 | refine below_set ?_ GE374.out) | exact HB.out))) : w.heap.size ≤ gb375)); have n4_ := Aside0.mk ((by rw [hg]; exact (below_size (by repeat (first | (with_reducible first | exact HB.out | apply below_alloc | apply pw_below_drewN | apply below_drew1 | refine below_set ?_ GE374.out) | exact HB.out))) : w.heap.size ≤ gb375)); have n5_ := Aside0.mk ((by rw [hg]; exact Nat.ne_of_lt (blk_lt (g := gb374) (o := .cells #[.slice A0_0 l0_0.length c0_0] 24 (0, 0)) (by (with_reducible repeat (first | refine blk_drewN ?_ _ | refine blk_drew ?_ | refine blk_alloc ?_ _)); exact BK374.out)) : gb374 ≠ gb375)); have n6_ := Aside0.mk ((by rw [hg]; exact Nat.ne_of_gt (blk_lt (g := gb374) (o := .cells #[.slice A0_0 l0_0.length c0_0] 24 (0, 0)) (by (with_reducible repeat (first | refine blk_drewN ?_ _ | refine blk_drew ?_ | refine blk_alloc ?_ _)); exact BK374.out)) : gb375 ≠ gb374)); clear BK374; clear HB; have BK374 := n0_; have HB := n1_; have BK375 := n2_; have GW375 := n3_; have GE375 := n4_; have NB374_375 := n5_; have NB375_374 := n6_; clear n0_ n1_ n2_ n3_ n4_ n5_ n6_; clear hb hbox hg; have hnb29 := NB374_375.out; have hnc29 := NB375_374.out; have hcz30_0 : w28.cell? ⟨gb374, 0, none⟩ = some (.slice A0_0 l0_0.length c0_0) := (blk_cell BK374.out 0).trans rfl; have hfz30_0 := blk_frozen BK374.out 0) | ((with_reducible refine gate_callee (f := 9) rfl ?_); refine goesL_ (some 16) rfl rfl Try.func9 (by kernel_rfl) rfl #[.agg #[.slice A0_0 l0_0.length c0_0], .int .i64 1048576] rfl (by (try simp only [List.map_toArray, List.map_cons, List.map_nil]); first | done | rfl | (simp only [List.length_drop, List.length_take]; rfl)) ?_; (with_reducible refine (laws_szGroup.calls k _ _ l0_0 1048576 t376 _ ?side1 ?side2 A4.out).mono ?_); (case side1 => repeat (first | exact (Kd.C_below HR0_0.out HB.out) | (with_reducible refine Kd.C_alloc ?_ _) | (with_reducible refine Kd.C_drewN ?_ _) | (with_reducible refine Kd.C_drew ?_))); (case side2 => exact HC0_0.out); rintro e w31 ⟨rfl, hb⟩; refine ⟨_, rfl, ?_⟩; have n0_ := Aside0.mk (blk_below (g := gb374) (o := .cells #[.slice A0_0 l0_0.length c0_0] 24 (0, 0)) (by (with_reducible repeat (first | refine blk_drewN ?_ _ | refine blk_drew ?_ | refine blk_alloc ?_ _)); exact BK374.out) hb); have n1_ := Aside0.mk (blk_below (g := gb375) (o := .cells #[.int .i64 a1_0, .slice A1_1 l1_1.length c1_1] 27 (0, 0)) (by (with_reducible repeat (first | refine blk_drewN ?_ _ | refine blk_drew ?_ | refine blk_alloc ?_ _)); exact BK375.out) hb); have n2_ := Aside0.mk (below_step (by repeat (first | (with_reducible first | exact HB.out | apply below_alloc | apply pw_below_drewN | apply below_drew1 | refine below_set ?_ GE374.out | refine below_set ?_ GE375.out) | exact HB.out)) hb); clear BK374; clear BK375; clear HB; have BK374 := n0_; have BK375 := n1_; have HB := n2_; clear n0_ n1_ n2_; (try clear hb); (try clear hb2); (try clear hk); (try clear hi); have hcz32_0 : w31.cell? ⟨gb375, 0, none⟩ = some (.int .i64 a1_0) := (blk_cell BK375.out 0).trans rfl; have hcz32_1 : w31.cell? ⟨gb375, 1, none⟩ = some (.slice A1_1 l1_1.length c1_1) := (blk_cell BK375.out 1).trans rfl; have hfz32_0 := blk_frozen BK375.out 0; have hfz32_1 := blk_frozen BK375.out 1) | ((with_reducible refine gate_callee (f := 10) rfl ?_); refine goesL_ (some 21) rfl rfl Try.func10 (by kernel_rfl) rfl #[.agg #[.int .i64 a1_0, .slice A1_1 l1_1.length c1_1], .int .i64 t376] rfl (by (try simp only [List.map_toArray, List.map_cons, List.map_nil]); first | done | rfl | (simp only [List.length_drop, List.length_take]; rfl)) ?_; (with_reducible refine (laws_szModule.calls a1_0 _ _ l1_1 t376 t377 _ ?side1 ?side2 A11.out).mono ?_); (case side1 => repeat (first | exact (Kd.C_below HR1_1.out HB.out) | (with_reducible refine Kd.C_alloc ?_ _) | (with_reducible refine Kd.C_drewN ?_ _) | (with_reducible refine Kd.C_drew ?_))); (case side2 => exact HC1_1.out); rintro e w33 ⟨rfl, hb⟩; refine ⟨_, rfl, ?_⟩; have n0_ := Aside0.mk (blk_below (g := gb374) (o := .cells #[.slice A0_0 l0_0.length c0_0] 24 (0, 0)) (by (with_reducible repeat (first | refine blk_drewN ?_ _ | refine blk_drew ?_ | refine blk_alloc ?_ _)); exact BK374.out) hb); have n1_ := Aside0.mk (blk_below (g := gb375) (o := .cells #[.int .i64 a1_0, .slice A1_1 l1_1.length c1_1] 27 (0, 0)) (by (with_reducible repeat (first | refine blk_drewN ?_ _ | refine blk_drew ?_ | refine blk_alloc ?_ _)); exact BK375.out) hb); have n2_ := Aside0.mk (below_step (by repeat (first | (with_reducible first | exact HB.out | apply below_alloc | apply pw_below_drewN | apply below_drew1 | refine below_set ?_ GE374.out | refine below_set ?_ GE375.out) | exact HB.out)) hb); clear BK374; clear BK375; clear HB; have BK374 := n0_; have BK375 := n1_; have HB := n2_; clear n0_ n1_ n2_; (try clear hb); (try clear hb2); (try clear hk); (try clear hi)))
   have n0_ := Aside0.mk (blk_drew BK374.out)
   have n1_ := Aside0.mk (blk_drew BK375.out)
   have n2_ := Aside0.mk (below_drew1 HB.out)
   clear BK374
   clear BK375
   clear HB
   have BK374 := n0_
   have BK375 := n1_
   have HB := n2_
   clear n0_ n1_ n2_
   refine start_ (n := 11) (S := fun w' => w'.cell? ⟨gb374, 0, none⟩ = some (.slice A0_0 l0_0.length c0_0) ∧ w'.cell? ⟨gb375, 0, none⟩ = some (.int .i64 a1_0) ∧ w'.cell? ⟨gb375, 1, none⟩ = some (.slice A1_1 l1_1.length c1_1)) (ds := []) #[false, false, false, false, false, false, false, false, false, false, false] (by kernel_rfl) rfl rfl ⟨(blk_cell BK374.out 0).trans rfl, (blk_cell BK375.out 0).trans rfl, (blk_cell BK375.out 1).trans rfl⟩ (fun hHeld => ?_); refine with_tabW laws_FnExactPairOrder.tab8 laws_FnExactPairOrder.bits8 (fun HT_ HW_ => ?_)
   generalize w33.drew = w34 at BK374 BK375 HB hHeld ⊢
   refine pure_ (i := 4) (N := some 29) (v := ?_) (a' := ?_) #[false, false, false, false, true, false, false, false, false, false, false] rfl rfl (any_of HT_.out (by kernel_rfl)) (fun _ _ _ h => h) (Or.inl ⟨by rfl, ?_⟩) ?_ ?_
   rotate_left
   ·
    intro w'
    go_simp
    with_reducible rfl
   rotate_left
   ·
    simp only [Act.put, List.setIfInBounds_toArray, List.set_cons_zero, List.set_cons_succ, i64_w, i32_w]
    rfl
   refine take_ (i := 0) (N := some 25) (v := ?_) (a' := ?_) #[true, false, false, false, true, false, false, false, false, false, false] rfl rfl (take_ofW HT_.out HW_.out (by kernel_rfl)) (fun _ _ _ h => h) (Or.inl ⟨by rfl, ?_⟩) hHeld ?_ ?_
   rotate_left
   ·
    rintro w' ⟨s0, s1, s2⟩
    go_simp
    with_reducible rfl
   rotate_left
   ·
    simp only [Act.put, List.setIfInBounds_toArray, List.set_cons_zero, List.set_cons_succ, i64_w, i32_w]
    rfl
   refine take_ (i := 2) (N := some 27) (v := ?_) (a' := ?_) #[true, false, true, false, true, false, false, false, false, false, false] rfl rfl (take_ofW HT_.out HW_.out (by kernel_rfl)) (fun _ _ _ h => h) (Or.inl ⟨by rfl, ?_⟩) hHeld ?_ ?_
   rotate_left
   ·
    rintro w' ⟨s0, s1, s2⟩
    go_simp
    with_reducible rfl
   rotate_left
   ·
    simp only [Act.put, List.setIfInBounds_toArray, List.set_cons_zero, List.set_cons_succ, i64_w, i32_w]
    rfl
   refine one_ (i := 1) (N := some 26) #[true, true, true, false, true, false, false, false, false, false, false] rfl rfl (one_of HT_.out (by kernel_rfl)) (by decide) (fun K hK => ?_)
   refine goes_ Try.func12 (by kernel_rfl) rfl #[.agg #[.slice A0_0 l0_0.length c0_0]] (by rfl) rfl rfl (by (try simp only [List.map_toArray, List.map_cons, List.map_nil]); first | done | rfl | (simp only [List.length_drop, List.length_take]; rfl)) ?_
   with_reducible refine (laws_toGroup.calls k _ _ l0_0 t378 _ ?side1 ?side2 A20.out).mono ?_
   (case side1 => repeat (first | exact (Kd.C_below HR0_0.out HB.out) | (with_reducible refine Kd.C_alloc ?_ _) | (with_reducible refine Kd.C_drewN ?_ _) | (with_reducible refine Kd.C_drew ?_)))
   (case side2 => exact HC0_0.out)
   rintro e w35 ⟨v379, rfl, ho0, hb⟩
   refine ⟨_, rfl, ?_⟩
   have n0_ := Aside0.mk (Kd.S_lower ho0 (below_size (by repeat (first | (with_reducible first | exact HB.out | apply below_alloc | apply pw_below_drewN | apply below_drew1 | refine below_set ?_ GE374.out | refine below_set ?_ GE375.out) | exact HB.out))))
   have n1_ := Aside0.mk (blk_below (g := gb374) (o := .cells #[.slice A0_0 l0_0.length c0_0] 24 (0, 0)) (by (with_reducible repeat (first | refine blk_drewN ?_ _ | refine blk_drew ?_ | refine blk_alloc ?_ _)); exact BK374.out) hb)
   have n2_ := Aside0.mk (blk_below (g := gb375) (o := .cells #[.int .i64 a1_0, .slice A1_1 l1_1.length c1_1] 27 (0, 0)) (by (with_reducible repeat (first | refine blk_drewN ?_ _ | refine blk_drew ?_ | refine blk_alloc ?_ _)); exact BK375.out) hb)
   have n3_ := Aside0.mk (below_step (by repeat (first | (with_reducible first | exact HB.out | apply below_alloc | apply pw_below_drewN | apply below_drew1 | refine below_set ?_ GE374.out | refine below_set ?_ GE375.out) | exact HB.out)) hb)
   clear BK374
   clear BK375
   clear HB
   have HO380 := n0_
   have BK374 := n1_
   have BK375 := n2_
   have HB := n3_
   clear n0_ n1_ n2_ n3_
   (try clear hb)
   (try clear hb2)
   (try clear hk)
   (try clear hi)
   (try clear ho0)
   refine hK.out _ _ ⟨(blk_cell BK374.out 0).trans rfl, (blk_cell BK375.out 0).trans rfl, (blk_cell BK375.out 1).trans rfl⟩ (fun hHeld => ?_)
   clear hK K
   refine norm_ (a' := ?_) ?_ ?_
   rotate_left
   ·
    show Act.put _ (some 26) _ = _
    simp only [Act.put, List.setIfInBounds_toArray, List.set_cons_zero, List.set_cons_succ, i64_w, i32_w]
    rfl
   refine one_ (i := 3) (N := some 28) #[true, true, true, true, true, false, false, false, false, false, false] rfl rfl (one_of HT_.out (by kernel_rfl)) (by decide) (fun K hK => ?_)
   refine goes_ Try.func13 (by kernel_rfl) rfl #[.agg #[.int .i64 a1_0, .slice A1_1 l1_1.length c1_1]] (by rfl) rfl rfl (by (try simp only [List.map_toArray, List.map_cons, List.map_nil]); first | done | rfl | (simp only [List.length_drop, List.length_take]; rfl)) ?_
   with_reducible refine (laws_toModule.calls k a1_0 _ _ l1_1 t381 t382 _ ?side1 ?side2 A21.out).mono ?_
   (case side1 => repeat (first | exact (Kd.C_below HR1_1.out HB.out) | (with_reducible refine Kd.C_alloc ?_ _) | (with_reducible refine Kd.C_drewN ?_ _) | (with_reducible refine Kd.C_drew ?_)))
   (case side2 => exact HC1_1.out)
   rintro e w36 ⟨v383, rfl, ho0, hb⟩
   refine ⟨_, rfl, ?_⟩
   have n0_ := Aside0.mk (Kd.S_elder' (by (with_reducible repeat (first | apply Kd.S_alloc | apply Kd.S_drewN | apply Kd.S_drew)); exact HO380.out) (Kd.R_base ho0) hb)
   have n1_ := Aside0.mk (Kd.R_lower ho0 (below_size (by repeat (first | (with_reducible first | exact HB.out | apply below_alloc | apply pw_below_drewN | apply below_drew1 | refine below_set ?_ GE374.out | refine below_set ?_ GE375.out) | exact HB.out))))
   have n2_ := Aside0.mk (blk_below (g := gb374) (o := .cells #[.slice A0_0 l0_0.length c0_0] 24 (0, 0)) (by (with_reducible repeat (first | refine blk_drewN ?_ _ | refine blk_drew ?_ | refine blk_alloc ?_ _)); exact BK374.out) hb)
   have n3_ := Aside0.mk (blk_below (g := gb375) (o := .cells #[.int .i64 a1_0, .slice A1_1 l1_1.length c1_1] 27 (0, 0)) (by (with_reducible repeat (first | refine blk_drewN ?_ _ | refine blk_drew ?_ | refine blk_alloc ?_ _)); exact BK375.out) hb)
   have n4_ := Aside0.mk (below_step (by repeat (first | (with_reducible first | exact HB.out | apply below_alloc | apply pw_below_drewN | apply below_drew1 | refine below_set ?_ GE374.out | refine below_set ?_ GE375.out) | exact HB.out)) hb)
   clear HO380
   clear BK374
   clear BK375
   clear HB
   have HO380 := n0_
   have HO384 := n1_
   have BK374 := n2_
   have BK375 := n3_
   have HB := n4_
   clear n0_ n1_ n2_ n3_ n4_
   (try clear hb)
   (try clear hb2)
   (try clear hk)
   (try clear hi)
   (try clear ho0)
   obtain ⟨Ao37, co37, eo37⟩ := Kd.S_slice HO380.out
   (first | subst eo37 | (injection eo37 with f1_ f2_ f3_; have f4_ := f1_.symm; have f5_ := f3_.symm; clear f1_ f2_ f3_; subst f4_; subst f5_))
   obtain ⟨Ao38, co38, eo38⟩ := Kd.R_slice HO384.out
   (first | subst eo38 | (injection eo38 with f1_ f2_ f3_; have f4_ := f1_.symm; have f5_ := f3_.symm; clear f1_ f2_ f3_; subst f4_; subst f5_))
   refine hK.out _ _ ⟨(blk_cell BK374.out 0).trans rfl, (blk_cell BK375.out 0).trans rfl, (blk_cell BK375.out 1).trans rfl⟩ (fun hHeld => ?_)
   clear hK K
   refine norm_ (a' := ?_) ?_ ?_
   rotate_left
   ·
    show Act.put _ (some 28) _ = _
    simp only [Act.put, List.setIfInBounds_toArray, List.set_cons_zero, List.set_cons_succ, i64_w, i32_w]
    rfl
   refine one_ (i := 5) (N := some 30) #[true, true, true, true, true, true, false, false, false, false, false] rfl rfl (one_of HT_.out (by kernel_rfl)) (by decide) (fun K hK => ?_)
   refine goes_ Try.func19 (by kernel_rfl) rfl #[.agg #[.slice Ao37 t378.length co37], .agg #[.int .i64 t381, .slice Ao38 t382.length co38], .int .i64 a2] (by rfl) rfl rfl (by (try simp only [List.map_toArray, List.map_cons, List.map_nil]); first | done | rfl | (simp only [List.length_drop, List.length_take]; rfl)) ?_
   with_reducible refine (spec_PairOrder.calls k _ _ t378 t381 _ _ t382 a2 t385 t386 _ ?side1 ?side2 ?side3 ?side4 A22.out).mono ?_
   (case side1 => repeat (first | exact (Kd.S_reads' HO380.out).2.2 | (with_reducible refine Kd.C_alloc ?_ _) | (with_reducible refine Kd.C_drewN ?_ _) | (with_reducible refine Kd.C_drew ?_)))
   (case side2 => exact (Kd.S_reads' HO380.out).2.1)
   (case side3 => repeat (first | exact (Kd.R_reads' HO384.out).2.2 | (with_reducible refine Kd.C_alloc ?_ _) | (with_reducible refine Kd.C_drewN ?_ _) | (with_reducible refine Kd.C_drew ?_)))
   (case side4 => exact (Kd.R_reads' HO384.out).2.1)
   rintro e w39 ⟨rfl, hb⟩
   refine ⟨_, rfl, ?_⟩
   have n0_ := Aside0.mk (Kd.S_below (by (with_reducible repeat (first | apply Kd.S_alloc | apply Kd.S_drewN | apply Kd.S_drew)); exact HO380.out) hb)
   have n1_ := Aside0.mk (Kd.R_below (by (with_reducible repeat (first | apply Kd.R_alloc | apply Kd.R_drewN | apply Kd.R_drew)); exact HO384.out) hb)
   have n2_ := Aside0.mk (blk_below (g := gb374) (o := .cells #[.slice A0_0 l0_0.length c0_0] 24 (0, 0)) (by (with_reducible repeat (first | refine blk_drewN ?_ _ | refine blk_drew ?_ | refine blk_alloc ?_ _)); exact BK374.out) hb)
   have n3_ := Aside0.mk (blk_below (g := gb375) (o := .cells #[.int .i64 a1_0, .slice A1_1 l1_1.length c1_1] 27 (0, 0)) (by (with_reducible repeat (first | refine blk_drewN ?_ _ | refine blk_drew ?_ | refine blk_alloc ?_ _)); exact BK375.out) hb)
   have n4_ := Aside0.mk (below_step (by repeat (first | (with_reducible first | exact HB.out | apply below_alloc | apply pw_below_drewN | apply below_drew1 | refine below_set ?_ GE374.out | refine below_set ?_ GE375.out) | exact HB.out)) hb)
   clear HO380
   clear HO384
   clear BK374
   clear BK375
   clear HB
   have HO380 := n0_
   have HO384 := n1_
   have BK374 := n2_
   have BK375 := n3_
   have HB := n4_
   clear n0_ n1_ n2_ n3_ n4_
   (try clear hb)
   (try clear hb2)
   (try clear hk)
   (try clear hi)
   refine hK.out _ _ ⟨(blk_cell BK374.out 0).trans rfl, (blk_cell BK375.out 0).trans rfl, (blk_cell BK375.out 1).trans rfl⟩ (fun hHeld => ?_)
   clear hK K
   refine norm_ (a' := ?_) ?_ ?_
   rotate_left
   ·
    show Act.put _ (some 30) _ = _
    simp only [Act.put, List.setIfInBounds_toArray, List.set_cons_zero, List.set_cons_succ, i64_w, i32_w]
    rfl
   refine pure_ (i := 6) (N := some 24) (v := ?_) (a' := ?_) #[true, true, true, true, true, true, true, false, false, false, false] rfl rfl (any_of HT_.out (by kernel_rfl)) (fun _ _ _ h => h) (Or.inl ⟨by rfl, ?_⟩) ?_ ?_
   rotate_left
   ·
    intro w'
    go_simp
    with_reducible rfl
   rotate_left
   ·
    simp only [Act.put, List.setIfInBounds_toArray, List.set_cons_zero, List.set_cons_succ, i64_w, i32_w]
    rfl
   refine pure_ (i := 7) (N := some 31) (v := ?_) (a' := ?_) #[true, true, true, true, true, true, true, true, false, false, false] rfl rfl (any_of HT_.out (by kernel_rfl)) (fun _ _ _ h => h) (Or.inl ⟨by rfl, ?_⟩) ?_ ?_
   rotate_left
   ·
    intro w'
    go_simp
    with_reducible rfl
   rotate_left
   ·
    simp only [Act.put, List.setIfInBounds_toArray, List.set_cons_zero, List.set_cons_succ, i64_w, i32_w]
    rfl
   refine pure_ (i := 8) (N := some 32) (v := ?_) (a' := ?_) #[true, true, true, true, true, true, true, true, true, false, false] rfl rfl (any_of HT_.out (by kernel_rfl)) (fun _ _ _ h => h) (Or.inl ⟨by rfl, ?_⟩) ?_ ?_
   rotate_left
   ·
    intro w'
    go_simp
    with_reducible rfl
   rotate_left
   ·
    simp only [Act.put, List.setIfInBounds_toArray, List.set_cons_zero, List.set_cons_succ, i64_w, i32_w]
    rfl
   refine pure_ (i := 9) (N := some 8) (v := ?_) (a' := ?_) #[true, true, true, true, true, true, true, true, true, true, false] rfl rfl (any_of HT_.out (by kernel_rfl)) (fun _ _ _ h => h) (Or.inl ⟨by rfl, ?_⟩) ?_ ?_
   rotate_left
   ·
    intro w'
    go_simp
    with_reducible rfl
   rotate_left
   ·
    simp only [Act.put, List.setIfInBounds_toArray, List.set_cons_zero, List.set_cons_succ, i64_w, i32_w]
    rfl
   refine pure_ (i := 10) (N := some 9) (v := ?_) (a' := ?_) #[true, true, true, true, true, true, true, true, true, true, true] rfl rfl (any_of HT_.out (by kernel_rfl)) (fun _ _ _ h => h) (Or.inl ⟨by rfl, ?_⟩) ?_ ?_
   rotate_left
   ·
    intro w'
    go_simp
    with_reducible rfl
   rotate_left
   ·
    simp only [Act.put, List.setIfInBounds_toArray, List.set_cons_zero, List.set_cons_succ, i64_w, i32_w]
    rfl
   refine done_ (done_of HT_.out (by kernel_rfl)) ?_
   have hcz40_0 : w39.cell? ⟨gb374, 0, none⟩ = some (.slice A0_0 l0_0.length c0_0) := (blk_cell BK374.out 0).trans rfl
   have hfz40_0 := blk_frozen BK374.out 0
   go_upto_region 12 with (first | ((with_reducible refine gate_callee (f := 12) rfl ?_); refine goesL_ (some 34) rfl rfl Try.func12 (by kernel_rfl) rfl #[.agg #[.slice A0_0 l0_0.length c0_0]] rfl (by (try simp only [List.map_toArray, List.map_cons, List.map_nil]); first | done | rfl | (simp only [List.length_drop, List.length_take]; rfl)) ?_; (with_reducible refine (laws_toGroup.calls k _ _ l0_0 t387 _ ?side1 ?side2 A23.out).mono ?_); (case side1 => repeat (first | exact (Kd.C_below HR0_0.out HB.out) | (with_reducible refine Kd.C_alloc ?_ _) | (with_reducible refine Kd.C_drewN ?_ _) | (with_reducible refine Kd.C_drew ?_))); (case side2 => exact HC0_0.out); rintro e w41 ⟨v388, rfl, ho0, hb⟩; refine ⟨_, rfl, ?_⟩; have n0_ := Aside0.mk (Kd.S_elder' (by (with_reducible repeat (first | apply Kd.S_alloc | apply Kd.S_drewN | apply Kd.S_drew)); exact HO380.out) (Kd.S_base ho0) hb); have n1_ := Aside0.mk (Kd.R_below (by (with_reducible repeat (first | apply Kd.R_alloc | apply Kd.R_drewN | apply Kd.R_drew)); exact HO384.out) hb); have n2_ := Aside0.mk (Kd.S_lower (Kd.S_new' (Kd.S_new' ho0 (Kd.S_lt (by (with_reducible repeat (first | apply Kd.S_alloc | apply Kd.S_drewN | apply Kd.S_drew)); exact HO380.out))) (Kd.R_lt (by (with_reducible repeat (first | apply Kd.R_alloc | apply Kd.R_drewN | apply Kd.R_drew)); exact HO384.out))) (below_size (by repeat (first | (with_reducible first | exact HB.out | apply below_alloc | apply pw_below_drewN | apply below_drew1 | refine below_set ?_ GE374.out | refine below_set ?_ GE375.out) | exact HB.out)))); have n3_ := Aside0.mk (blk_below (g := gb374) (o := .cells #[.slice A0_0 l0_0.length c0_0] 24 (0, 0)) (by (with_reducible repeat (first | refine blk_drewN ?_ _ | refine blk_drew ?_ | refine blk_alloc ?_ _)); exact BK374.out) hb); have n4_ := Aside0.mk (blk_below (g := gb375) (o := .cells #[.int .i64 a1_0, .slice A1_1 l1_1.length c1_1] 27 (0, 0)) (by (with_reducible repeat (first | refine blk_drewN ?_ _ | refine blk_drew ?_ | refine blk_alloc ?_ _)); exact BK375.out) hb); have n5_ := Aside0.mk (below_step (by repeat (first | (with_reducible first | exact HB.out | apply below_alloc | apply pw_below_drewN | apply below_drew1 | refine below_set ?_ GE374.out | refine below_set ?_ GE375.out) | exact HB.out)) hb); clear HO380; clear HO384; clear BK374; clear BK375; clear HB; have HO380 := n0_; have HO384 := n1_; have HO389 := n2_; have BK374 := n3_; have BK375 := n4_; have HB := n5_; clear n0_ n1_ n2_ n3_ n4_ n5_; (try clear hb); (try clear hb2); (try clear hk); (try clear hi); (try clear ho0)) | ((with_reducible refine gate_dst (N := 10) rfl ?_); refine box_event ?hg (N := 10) ?hd (cs := #[.slice none 0 0]) (t := 32) ?hr ?_; (case hd => rfl); (case hg => rfl); (case hr => first | (go_simp; done) | (go_simp; rfl)); intro gb390 hg w42 hbox hb; have n0_ := Aside0.mk (Kd.S_below (by (with_reducible repeat (first | apply Kd.S_alloc | apply Kd.S_drewN | apply Kd.S_drew)); exact HO380.out) hb); have n1_ := Aside0.mk (Kd.R_below (by (with_reducible repeat (first | apply Kd.R_alloc | apply Kd.R_drewN | apply Kd.R_drew)); exact HO384.out) hb); have n2_ := Aside0.mk (Kd.S_below (by (with_reducible repeat (first | apply Kd.S_alloc | apply Kd.S_drewN | apply Kd.S_drew)); exact HO389.out) hb); have n3_ := Aside0.mk (blk_below (g := gb374) (o := .cells #[.slice A0_0 l0_0.length c0_0] 24 (0, 0)) (by (with_reducible repeat (first | refine blk_drewN ?_ _ | refine blk_drew ?_ | refine blk_alloc ?_ _)); exact BK374.out) hb); have n4_ := Aside0.mk (blk_below (g := gb375) (o := .cells #[.int .i64 a1_0, .slice A1_1 l1_1.length c1_1] 27 (0, 0)) (by (with_reducible repeat (first | refine blk_drewN ?_ _ | refine blk_drew ?_ | refine blk_alloc ?_ _)); exact BK375.out) hb); have n5_ := Aside0.mk (below_step (by repeat (first | (with_reducible first | exact HB.out | apply below_alloc | apply pw_below_drewN | apply below_drew1 | refine below_set ?_ GE374.out | refine below_set ?_ GE375.out) | exact HB.out)) hb); have n6_ := Aside0.mk (hbox); have n7_ := Aside0.mk ((by rw [hg]; exact (below_size (by repeat (first | (with_reducible first | exact HB.out | apply below_alloc | apply pw_below_drewN | apply below_drew1 | refine below_set ?_ GE374.out | refine below_set ?_ GE375.out) | exact HB.out))) : w.heap.size ≤ gb390)); have n8_ := Aside0.mk ((by rw [hg]; exact (below_size (by repeat (first | (with_reducible first | exact HB.out | apply below_alloc | apply pw_below_drewN | apply below_drew1 | refine below_set ?_ GE374.out | refine below_set ?_ GE375.out) | exact HB.out))) : w.heap.size ≤ gb390)); have n9_ := Aside0.mk ((by rw [hg]; exact Nat.ne_of_lt (blk_lt (g := gb374) (o := .cells #[.slice A0_0 l0_0.length c0_0] 24 (0, 0)) (by (with_reducible repeat (first | refine blk_drewN ?_ _ | refine blk_drew ?_ | refine blk_alloc ?_ _)); exact BK374.out)) : gb374 ≠ gb390)); have n10_ := Aside0.mk ((by rw [hg]; exact Nat.ne_of_gt (blk_lt (g := gb374) (o := .cells #[.slice A0_0 l0_0.length c0_0] 24 (0, 0)) (by (with_reducible repeat (first | refine blk_drewN ?_ _ | refine blk_drew ?_ | refine blk_alloc ?_ _)); exact BK374.out)) : gb390 ≠ gb374)); have n11_ := Aside0.mk ((by rw [hg]; exact Nat.ne_of_lt (blk_lt (g := gb375) (o := .cells #[.int .i64 a1_0, .slice A1_1 l1_1.length c1_1] 27 (0, 0)) (by (with_reducible repeat (first | refine blk_drewN ?_ _ | refine blk_drew ?_ | refine blk_alloc ?_ _)); exact BK375.out)) : gb375 ≠ gb390)); have n12_ := Aside0.mk ((by rw [hg]; exact Nat.ne_of_gt (blk_lt (g := gb375) (o := .cells #[.int .i64 a1_0, .slice A1_1 l1_1.length c1_1] 27 (0, 0)) (by (with_reducible repeat (first | refine blk_drewN ?_ _ | refine blk_drew ?_ | refine blk_alloc ?_ _)); exact BK375.out)) : gb390 ≠ gb375)); clear HO380; clear HO384; clear HO389; clear BK374; clear BK375; clear HB; have HO380 := n0_; have HO384 := n1_; have HO389 := n2_; have BK374 := n3_; have BK375 := n4_; have HB := n5_; have BK390 := n6_; have GW390 := n7_; have GE390 := n8_; have NB374_390 := n9_; have NB390_374 := n10_; have NB375_390 := n11_; have NB390_375 := n12_; clear n0_ n1_ n2_ n3_ n4_ n5_ n6_ n7_ n8_ n9_ n10_ n11_ n12_; clear hb hbox hg; obtain ⟨Ao43, co43, eo43⟩ := Kd.S_slice HO389.out; subst eo43; have hnb44 := NB390_374.out; have hnc44 := NB374_390.out; have hnb45 := NB390_375.out; have hnc45 := NB375_390.out; have hcz46_0 : w42.cell? ⟨gb390, 0, none⟩ = some (.slice none 0 0) := (blk_cell BK390.out 0).trans rfl; have hfz46_0 := blk_frozen BK390.out 0; have hcz47_0 : w42.cell? ⟨gb375, 0, none⟩ = some (.int .i64 a1_0) := (blk_cell BK375.out 0).trans rfl; have hcz47_1 : w42.cell? ⟨gb375, 1, none⟩ = some (.slice A1_1 l1_1.length c1_1) := (blk_cell BK375.out 1).trans rfl; have hfz47_0 := blk_frozen BK375.out 0; have hfz47_1 := blk_frozen BK375.out 1) | ((with_reducible refine gate_callee (f := 13) rfl ?_); refine goesL_ (some 36) rfl rfl Try.func13 (by kernel_rfl) rfl #[.agg #[.int .i64 a1_0, .slice A1_1 l1_1.length c1_1]] rfl (by (try simp only [List.map_toArray, List.map_cons, List.map_nil]); first | done | rfl | (simp only [List.length_drop, List.length_take]; rfl)) ?_; (with_reducible refine (laws_toModule.calls k a1_0 _ _ l1_1 t391 t392 _ ?side1 ?side2 A24.out).mono ?_); (case side1 => exact Kd.C_below HR1_1.out (by repeat (first | (with_reducible first | exact HB.out | apply below_alloc | apply pw_below_drewN | apply below_drew1 | refine below_set ?_ GE374.out | refine below_set ?_ GE375.out | refine below_set ?_ GE390.out) | exact HB.out))); (case side2 => exact HC1_1.out); rintro e w48 ⟨v393, rfl, ho0, hb⟩; refine ⟨_, rfl, ?_⟩; have n0_ := Aside0.mk (Kd.S_elder' (by (with_reducible repeat (first | apply Kd.S_alloc | apply Kd.S_drewN | apply Kd.S_drew)); exact (Kd.S_mono (Kd.S_far (p := ⟨gb390, 0, none⟩) (Kd.S_types HO380.out BK390.out (by decide)) (fun _ hk => hk.2) (.slice Ao43 t387.length co43)) (fun _ h_ => h_.1))) (Kd.R_base ho0) hb); have n1_ := Aside0.mk (Kd.R_elder' (by (with_reducible repeat (first | apply Kd.R_alloc | apply Kd.R_drewN | apply Kd.R_drew)); exact (Kd.R_mono (Kd.R_far (p := ⟨gb390, 0, none⟩) (Kd.R_types HO384.out BK390.out (by decide)) (fun _ hk => hk.2) (.slice Ao43 t387.length co43)) (fun _ h_ => h_.1))) (Kd.R_base ho0) hb); have n2_ := Aside0.mk (Kd.S_elder' (by (with_reducible repeat (first | apply Kd.S_alloc | apply Kd.S_drewN | apply Kd.S_drew)); exact (Kd.S_mono (Kd.S_far (p := ⟨gb390, 0, none⟩) (Kd.S_types HO389.out BK390.out (by decide)) (fun _ hk => hk.2) (.slice Ao43 t387.length co43)) (fun _ h_ => h_.1))) (Kd.R_base ho0) hb); have n3_ := Aside0.mk (Kd.R_lower (Kd.R_new' ho0 (Kd.R_lt (by (with_reducible repeat (first | apply Kd.R_alloc | apply Kd.R_drewN | apply Kd.R_drew)); exact (Kd.R_mono (Kd.R_far (p := ⟨gb390, 0, none⟩) (Kd.R_types HO384.out BK390.out (by decide)) (fun _ hk => hk.2) (.slice Ao43 t387.length co43)) (fun _ h_ => h_.1))))) (below_size (by repeat (first | (with_reducible first | exact HB.out | apply below_alloc | apply pw_below_drewN | apply below_drew1 | refine below_set ?_ GE374.out | refine below_set ?_ GE375.out | refine below_set ?_ GE390.out) | exact HB.out)))); have n4_ := Aside0.mk (blk_below (g := gb374) (o := .cells #[.slice A0_0 l0_0.length c0_0] 24 (0, 0)) (by (with_reducible repeat (first | refine blk_drewN ?_ _ | refine blk_drew ?_ | refine blk_alloc ?_ _)); refine blk_far ?_ NB374_390.out _; (with_reducible repeat (first | refine blk_drewN ?_ _ | refine blk_drew ?_ | refine blk_alloc ?_ _)); exact BK374.out) hb); have n5_ := Aside0.mk (blk_below (g := gb375) (o := .cells #[.int .i64 a1_0, .slice A1_1 l1_1.length c1_1] 27 (0, 0)) (by (with_reducible repeat (first | refine blk_drewN ?_ _ | refine blk_drew ?_ | refine blk_alloc ?_ _)); refine blk_far ?_ NB375_390.out _; (with_reducible repeat (first | refine blk_drewN ?_ _ | refine blk_drew ?_ | refine blk_alloc ?_ _)); exact BK375.out) hb); have n6_ := Aside0.mk (blk_below (g := gb390) (o := .cells #[.slice Ao43 t387.length co43] 32 (0, 0)) (by (with_reducible repeat (first | refine blk_drewN ?_ _ | refine blk_drew ?_ | refine blk_alloc ?_ _)); refine blk_put (cs := #[.slice none 0 0]) ?_ 0 _ rfl; (with_reducible repeat (first | refine blk_drewN ?_ _ | refine blk_drew ?_ | refine blk_alloc ?_ _)); exact BK390.out) hb); have n7_ := Aside0.mk (below_step (by repeat (first | (with_reducible first | exact HB.out | apply below_alloc | apply pw_below_drewN | apply below_drew1 | refine below_set ?_ GE374.out | refine below_set ?_ GE375.out | refine below_set ?_ GE390.out) | exact HB.out)) hb); clear HO380; clear HO384; clear HO389; clear BK374; clear BK375; clear BK390; clear HB; have HO380 := n0_; have HO384 := n1_; have HO389 := n2_; have HO394 := n3_; have BK374 := n4_; have BK375 := n5_; have BK390 := n6_; have HB := n7_; clear n0_ n1_ n2_ n3_ n4_ n5_ n6_ n7_; (try clear hb); (try clear hb2); (try clear hk); (try clear hi); (try clear ho0)) | ((with_reducible refine gate_dst (N := 11) rfl ?_); refine box_event ?hg (N := 11) ?hd (cs := #[.int .i64 0, .slice none 0 0]) (t := 34) ?hr ?_; (case hd => rfl); (case hg => rfl); (case hr => first | (go_simp; done) | (go_simp; rfl)); intro gb395 hg w49 hbox hb; have n0_ := Aside0.mk (Kd.S_below (by (with_reducible repeat (first | apply Kd.S_alloc | apply Kd.S_drewN | apply Kd.S_drew)); exact HO380.out) hb); have n1_ := Aside0.mk (Kd.R_below (by (with_reducible repeat (first | apply Kd.R_alloc | apply Kd.R_drewN | apply Kd.R_drew)); exact HO384.out) hb); have n2_ := Aside0.mk (Kd.S_below (by (with_reducible repeat (first | apply Kd.S_alloc | apply Kd.S_drewN | apply Kd.S_drew)); exact HO389.out) hb); have n3_ := Aside0.mk (Kd.R_below (by (with_reducible repeat (first | apply Kd.R_alloc | apply Kd.R_drewN | apply Kd.R_drew)); exact HO394.out) hb); have n4_ := Aside0.mk (blk_below (g := gb374) (o := .cells #[.slice A0_0 l0_0.length c0_0] 24 (0, 0)) (by (with_reducible repeat (first | refine blk_drewN ?_ _ | refine blk_drew ?_ | refine blk_alloc ?_ _)); exact BK374.out) hb); have n5_ := Aside0.mk (blk_below (g := gb375) (o := .cells #[.int .i64 a1_0, .slice A1_1 l1_1.length c1_1] 27 (0, 0)) (by (with_reducible repeat (first | refine blk_drewN ?_ _ | refine blk_drew ?_ | refine blk_alloc ?_ _)); exact BK375.out) hb); have n6_ := Aside0.mk (blk_below (g := gb390) (o := .cells #[.slice Ao43 t387.length co43] 32 (0, 0)) (by (with_reducible repeat (first | refine blk_drewN ?_ _ | refine blk_drew ?_ | refine blk_alloc ?_ _)); exact BK390.out) hb); have n7_ := Aside0.mk (below_step (by repeat (first | (with_reducible first | exact HB.out | apply below_alloc | apply pw_below_drewN | apply below_drew1 | refine below_set ?_ GE374.out | refine below_set ?_ GE375.out | refine below_set ?_ GE390.out) | exact HB.out)) hb); have n8_ := Aside0.mk (hbox); have n9_ := Aside0.mk ((by rw [hg]; exact (below_size (by repeat (first | (with_reducible first | exact HB.out | apply below_alloc | apply pw_below_drewN | apply below_drew1 | refine below_set ?_ GE374.out | refine below_set ?_ GE375.out | refine below_set ?_ GE390.out) | exact HB.out))) : w.heap.size ≤ gb395)); have n10_ := Aside0.mk ((by rw [hg]; exact (below_size (by repeat (first | (with_reducible first | exact HB.out | apply below_alloc | apply pw_below_drewN | apply below_drew1 | refine below_set ?_ GE374.out | refine below_set ?_ GE375.out | refine below_set ?_ GE390.out) | exact HB.out))) : w.heap.size ≤ gb395)); have n11_ := Aside0.mk ((by rw [hg]; exact Nat.ne_of_lt (blk_lt (g := gb374) (o := .cells #[.slice A0_0 l0_0.length c0_0] 24 (0, 0)) (by (with_reducible repeat (first | refine blk_drewN ?_ _ | refine blk_drew ?_ | refine blk_alloc ?_ _)); exact BK374.out)) : gb374 ≠ gb395)); have n12_ := Aside0.mk ((by rw [hg]; exact Nat.ne_of_gt (blk_lt (g := gb374) (o := .cells #[.slice A0_0 l0_0.length c0_0] 24 (0, 0)) (by (with_reducible repeat (first | refine blk_drewN ?_ _ | refine blk_drew ?_ | refine blk_alloc ?_ _)); exact BK374.out)) : gb395 ≠ gb374)); have n13_ := Aside0.mk ((by rw [hg]; exact Nat.ne_of_lt (blk_lt (g := gb375) (o := .cells #[.int .i64 a1_0, .slice A1_1 l1_1.length c1_1] 27 (0, 0)) (by (with_reducible repeat (first | refine blk_drewN ?_ _ | refine blk_drew ?_ | refine blk_alloc ?_ _)); exact BK375.out)) : gb375 ≠ gb395)); have n14_ := Aside0.mk ((by rw [hg]; exact Nat.ne_of_gt (blk_lt (g := gb375) (o := .cells #[.int .i64 a1_0, .slice A1_1 l1_1.length c1_1] 27 (0, 0)) (by (with_reducible repeat (first | refine blk_drewN ?_ _ | refine blk_drew ?_ | refine blk_alloc ?_ _)); exact BK375.out)) : gb395 ≠ gb375)); have n15_ := Aside0.mk ((by rw [hg]; exact Nat.ne_of_lt (blk_lt (g := gb390) (o := .cells #[.slice Ao43 t387.length co43] 32 (0, 0)) (by (with_reducible repeat (first | refine blk_drewN ?_ _ | refine blk_drew ?_ | refine blk_alloc ?_ _)); exact BK390.out)) : gb390 ≠ gb395)); have n16_ := Aside0.mk ((by rw [hg]; exact Nat.ne_of_gt (blk_lt (g := gb390) (o := .cells #[.slice Ao43 t387.length co43] 32 (0, 0)) (by (with_reducible repeat (first | refine blk_drewN ?_ _ | refine blk_drew ?_ | refine blk_alloc ?_ _)); exact BK390.out)) : gb395 ≠ gb390)); clear HO380; clear HO384; clear HO389; clear HO394; clear BK374; clear BK375; clear BK390; clear HB; have HO380 := n0_; have HO384 := n1_; have HO389 := n2_; have HO394 := n3_; have BK374 := n4_; have BK375 := n5_; have BK390 := n6_; have HB := n7_; have BK395 := n8_; have GW395 := n9_; have GE395 := n10_; have NB374_395 := n11_; have NB395_374 := n12_; have NB375_395 := n13_; have NB395_375 := n14_; have NB390_395 := n15_; have NB395_390 := n16_; clear n0_ n1_ n2_ n3_ n4_ n5_ n6_ n7_ n8_ n9_ n10_ n11_ n12_ n13_ n14_ n15_ n16_; clear hb hbox hg; have hnb50 := NB395_374.out; have hnc50 := NB374_395.out; have hnb51 := NB395_375.out; have hnc51 := NB375_395.out; have hnb52 := NB395_390.out; have hnc52 := NB390_395.out; have hcz53_0 : w49.cell? ⟨gb395, 0, none⟩ = some (.int .i64 0) := (blk_cell BK395.out 0).trans rfl; have hcz53_1 : w49.cell? ⟨gb395, 1, none⟩ = some (.slice none 0 0) := (blk_cell BK395.out 1).trans rfl; have hfz53_0 := blk_frozen BK395.out 0; have hfz53_1 := blk_frozen BK395.out 1; obtain ⟨Ao54, co54, eo54⟩ := Kd.R_slice HO394.out; subst eo54; have hcz55_0 : w49.cell? ⟨gb390, 0, none⟩ = some (.slice Ao43 t387.length co43) := (blk_cell BK390.out 0).trans rfl; have hfz55_0 := blk_frozen BK390.out 0) | ((with_reducible refine gate_callee (f := 20) rfl ?_); refine goesL_ (some 41) rfl rfl Try.func20 (by kernel_rfl) rfl #[.agg #[.slice Ao43 t387.length co43], .agg #[.int .i64 t391, .slice Ao54 t392.length co54], .int .i64 a2] rfl (by (try simp only [List.map_toArray, List.map_cons, List.map_nil]); first | done | rfl | (simp only [List.length_drop, List.length_take]; rfl)) ?_; (with_reducible refine (impl_PairOrder.calls k _ _ t387 t391 _ _ t392 a2 t396 t397 _ ?side1 ?side2 ?side3 ?side4 A25.out).mono ?_); (case side1 => refine (Kd.S_reads' (e := 25) (base := w.heap.size) (ok := fun k_ => (((True ∧ some k_ ≠ (.slice Ao37 t378.length co37 : Value).ownBlock) ∧ some k_ ≠ (.slice Ao38 t382.length co38 : Value).ownBlock) ∧ some k_ ≠ (.slice Ao54 t392.length co54 : Value).ownBlock)) (n := t387.length) (c := co43) ?_).2.2; exact (by (with_reducible repeat (first | apply Kd.S_alloc | apply Kd.S_drewN | apply Kd.S_drew)); exact (Kd.S_mono (Kd.S_far (p := ⟨gb395, 1, none⟩) (Kd.S_far (p := ⟨gb395, 0, none⟩) (Kd.S_types HO389.out BK395.out (by decide)) (fun _ hk => hk.2) (.int .i64 t391)) (fun _ hk => hk.2) (.slice Ao54 t392.length co54)) (fun _ h_ => h_.1)))); (case side2 => exact (Kd.S_reads' HO389.out).2.1); (case side3 => refine (Kd.R_reads' (e := 2) (base := w.heap.size) (ok := fun k_ => (True ∧ some k_ ≠ (.slice Ao38 t382.length co38 : Value).ownBlock)) (n := t392.length) (c := co54) ?_).2.2; exact (by (with_reducible repeat (first | apply Kd.R_alloc | apply Kd.R_drewN | apply Kd.R_drew)); exact (Kd.R_mono (Kd.R_far (p := ⟨gb395, 1, none⟩) (Kd.R_far (p := ⟨gb395, 0, none⟩) (Kd.R_types HO394.out BK395.out (by decide)) (fun _ hk => hk.2) (.int .i64 t391)) (fun _ hk => hk.2) (.slice Ao54 t392.length co54)) (fun _ h_ => h_.1)))); (case side4 => exact (Kd.R_reads' HO394.out).2.1); rintro e w56 ⟨rfl, hb⟩; refine ⟨_, rfl, ?_⟩; have n0_ := Aside0.mk (Kd.S_below (by (with_reducible repeat (first | apply Kd.S_alloc | apply Kd.S_drewN | apply Kd.S_drew)); exact (Kd.S_mono (Kd.S_far (p := ⟨gb395, 1, none⟩) (Kd.S_far (p := ⟨gb395, 0, none⟩) (Kd.S_types HO380.out BK395.out (by decide)) (fun _ hk => hk.2) (.int .i64 t391)) (fun _ hk => hk.2) (.slice Ao54 t392.length co54)) (fun _ h_ => h_.1))) hb); have n1_ := Aside0.mk (Kd.R_below (by (with_reducible repeat (first | apply Kd.R_alloc | apply Kd.R_drewN | apply Kd.R_drew)); exact (Kd.R_mono (Kd.R_far (p := ⟨gb395, 1, none⟩) (Kd.R_far (p := ⟨gb395, 0, none⟩) (Kd.R_types HO384.out BK395.out (by decide)) (fun _ hk => hk.2) (.int .i64 t391)) (fun _ hk => hk.2) (.slice Ao54 t392.length co54)) (fun _ h_ => h_.1))) hb); have n2_ := Aside0.mk (Kd.S_below (by (with_reducible repeat (first | apply Kd.S_alloc | apply Kd.S_drewN | apply Kd.S_drew)); exact (Kd.S_mono (Kd.S_far (p := ⟨gb395, 1, none⟩) (Kd.S_far (p := ⟨gb395, 0, none⟩) (Kd.S_types HO389.out BK395.out (by decide)) (fun _ hk => hk.2) (.int .i64 t391)) (fun _ hk => hk.2) (.slice Ao54 t392.length co54)) (fun _ h_ => h_.1))) hb); have n3_ := Aside0.mk (Kd.R_below (by (with_reducible repeat (first | apply Kd.R_alloc | apply Kd.R_drewN | apply Kd.R_drew)); exact (Kd.R_mono (Kd.R_far (p := ⟨gb395, 1, none⟩) (Kd.R_far (p := ⟨gb395, 0, none⟩) (Kd.R_types HO394.out BK395.out (by decide)) (fun _ hk => hk.2) (.int .i64 t391)) (fun _ hk => hk.2) (.slice Ao54 t392.length co54)) (fun _ h_ => h_.1))) hb); have n4_ := Aside0.mk (blk_below (g := gb374) (o := .cells #[.slice A0_0 l0_0.length c0_0] 24 (0, 0)) (by (with_reducible repeat (first | refine blk_drewN ?_ _ | refine blk_drew ?_ | refine blk_alloc ?_ _)); refine blk_far ?_ NB374_395.out _; (with_reducible repeat (first | refine blk_drewN ?_ _ | refine blk_drew ?_ | refine blk_alloc ?_ _)); refine blk_far ?_ NB374_395.out _; (with_reducible repeat (first | refine blk_drewN ?_ _ | refine blk_drew ?_ | refine blk_alloc ?_ _)); exact BK374.out) hb); have n5_ := Aside0.mk (blk_below (g := gb375) (o := .cells #[.int .i64 a1_0, .slice A1_1 l1_1.length c1_1] 27 (0, 0)) (by (with_reducible repeat (first | refine blk_drewN ?_ _ | refine blk_drew ?_ | refine blk_alloc ?_ _)); refine blk_far ?_ NB375_395.out _; (with_reducible repeat (first | refine blk_drewN ?_ _ | refine blk_drew ?_ | refine blk_alloc ?_ _)); refine blk_far ?_ NB375_395.out _; (with_reducible repeat (first | refine blk_drewN ?_ _ | refine blk_drew ?_ | refine blk_alloc ?_ _)); exact BK375.out) hb); have n6_ := Aside0.mk (blk_below (g := gb390) (o := .cells #[.slice Ao43 t387.length co43] 32 (0, 0)) (by (with_reducible repeat (first | refine blk_drewN ?_ _ | refine blk_drew ?_ | refine blk_alloc ?_ _)); refine blk_far ?_ NB390_395.out _; (with_reducible repeat (first | refine blk_drewN ?_ _ | refine blk_drew ?_ | refine blk_alloc ?_ _)); refine blk_far ?_ NB390_395.out _; (with_reducible repeat (first | refine blk_drewN ?_ _ | refine blk_drew ?_ | refine blk_alloc ?_ _)); exact BK390.out) hb); have n7_ := Aside0.mk (blk_below (g := gb395) (o := .cells #[.int .i64 t391, .slice Ao54 t392.length co54] 34 (0, 0)) (by (with_reducible repeat (first | refine blk_drewN ?_ _ | refine blk_drew ?_ | refine blk_alloc ?_ _)); refine blk_put (cs := #[.int .i64 t391, .slice none 0 0]) ?_ 1 _ rfl; (with_reducible repeat (first | refine blk_drewN ?_ _ | refine blk_drew ?_ | refine blk_alloc ?_ _)); refine blk_put (cs := #[.int .i64 0, .slice none 0 0]) ?_ 0 _ rfl; (with_reducible repeat (first | refine blk_drewN ?_ _ | refine blk_drew ?_ | refine blk_alloc ?_ _)); exact BK395.out) hb); have n8_ := Aside0.mk (below_step (by repeat (first | (with_reducible first | exact HB.out | apply below_alloc | apply pw_below_drewN | apply below_drew1 | refine below_set ?_ GE374.out | refine below_set ?_ GE375.out | refine below_set ?_ GE390.out | refine below_set ?_ GE395.out) | exact HB.out)) hb); clear HO380; clear HO384; clear HO389; clear HO394; clear BK374; clear BK375; clear BK390; clear BK395; clear HB; have HO380 := n0_; have HO384 := n1_; have HO389 := n2_; have HO394 := n3_; have BK374 := n4_; have BK375 := n5_; have BK390 := n6_; have BK395 := n7_; have HB := n8_; clear n0_ n1_ n2_ n3_ n4_ n5_ n6_ n7_ n8_; (try clear hb); (try clear hb2); (try clear hk); (try clear hi)))
   (try simp only [Act.put, List.setIfInBounds_toArray, List.set_cons_zero, List.set_cons_succ])
   go_cut [51] (fun v51 wc => ∃ (kq : Nat) (x51_25 : Bool), v51 = .bool x51_25 ∧ Aside0 (laws_FnExactPairOrder.j0 kq x51_25 l0_0 a1_0 l1_1 t387 t391 t392 = some r) ∧ Aside0 (kq ≤ k) ∧ Aside0 (Kd.S (Kd.slice 2 (Kd.int .i64)) 25 wc w.heap.size (fun k_ => some k_ ≠ ((.slice Ao54 t392.length co54) : Value).ownBlock) (.slice Ao43 t387.length co43) t387) ∧ Aside0 (Kd.R (Kd.int .i64) 2 wc w.heap.size (fun _ => True) (.slice Ao54 t392.length co54) t392) ∧ Aside0 (wc.heap[gb374]? = some (.cells #[(.slice A0_0 l0_0.length c0_0)] 24 (0, 0))) ∧ Aside0 (wc.heap[gb375]? = some (.cells #[.int .i64 a1_0, (.slice A1_1 l1_1.length c1_1)] 27 (0, 0))) ∧ Aside0 (wc.heap[gb390]? = some (.cells #[(.slice Ao43 t387.length co43)] 32 (0, 0))) ∧ Aside0 (wc.heap[gb395]? = some (.cells #[.int .i64 t391, (.slice Ao54 t392.length co54)] 34 (0, 0))) ∧ Aside0 (Below w.heap.size w wc))
   case first =>
    have H := HC26.out
    clear HC26
    by_cases c57 : t396 = t385
    ·
     rw [if_pos c57] at H
     have c57b0 : (t396 == t385) = true := beq_iff_eq.mpr c57
     have c57b1 : (t396 != t385) = false := bne_eq_false_iff_eq.mpr c57
     clear c57
     (first | rw [c57b0] | (simp only [i64_w, i32_w]; rw [c57b0]) | skip)
     have H' := Aside0.mk H
     clear H
     go_wp2
     go_meet
     case rel => exact ⟨_, ((t397 != t386)), (by first | rfl | (simp; done) | (simp [*]; done)), H', ⟨by first | omega | exact Nat.le_refl _⟩, ⟨by (with_reducible repeat (first | apply Kd.S_alloc | apply Kd.S_drewN | apply Kd.S_drew)); exact Kd.S_mono HO389.out (fun _ hk => hk.2)⟩, ⟨by (with_reducible repeat (first | apply Kd.R_alloc | apply Kd.R_drewN | apply Kd.R_drew)); exact Kd.R_mono HO394.out (fun _ hk => trivial)⟩, ⟨by (with_reducible repeat (first | refine blk_drewN ?_ _ | refine blk_drew ?_ | refine blk_alloc ?_ _)); exact BK374.out⟩, ⟨by (with_reducible repeat (first | refine blk_drewN ?_ _ | refine blk_drew ?_ | refine blk_alloc ?_ _)); exact BK375.out⟩, ⟨by (with_reducible repeat (first | refine blk_drewN ?_ _ | refine blk_drew ?_ | refine blk_alloc ?_ _)); exact BK390.out⟩, ⟨by (with_reducible repeat (first | refine blk_drewN ?_ _ | refine blk_drew ?_ | refine blk_alloc ?_ _)); exact BK395.out⟩, ⟨by repeat (first | (with_reducible first | exact HB.out | apply below_alloc | apply pw_below_drewN | apply below_drew1 | refine below_set ?_ GE374.out | refine below_set ?_ GE375.out | refine below_set ?_ GE390.out | refine below_set ?_ GE395.out) | exact HB.out)⟩⟩
    ·
     rw [if_neg c57] at H
     have c57b0 : (t396 == t385) = false := beq_eq_false_iff_ne.mpr c57
     have c57b1 : (t396 != t385) = true := bne_iff_ne.mpr c57
     (first | rw [c57b0] | (simp only [i64_w, i32_w]; rw [c57b0]) | skip)
     have H' := Aside0.mk H
     clear H
     go_wp2
     go_meet
     case rel => exact ⟨_, (true), (by first | rfl | (simp; done) | (simp [*]; done)), H', ⟨by first | omega | exact Nat.le_refl _⟩, ⟨by (with_reducible repeat (first | apply Kd.S_alloc | apply Kd.S_drewN | apply Kd.S_drew)); exact Kd.S_mono HO389.out (fun _ hk => hk.2)⟩, ⟨by (with_reducible repeat (first | apply Kd.R_alloc | apply Kd.R_drewN | apply Kd.R_drew)); exact Kd.R_mono HO394.out (fun _ hk => trivial)⟩, ⟨by (with_reducible repeat (first | refine blk_drewN ?_ _ | refine blk_drew ?_ | refine blk_alloc ?_ _)); exact BK374.out⟩, ⟨by (with_reducible repeat (first | refine blk_drewN ?_ _ | refine blk_drew ?_ | refine blk_alloc ?_ _)); exact BK375.out⟩, ⟨by (with_reducible repeat (first | refine blk_drewN ?_ _ | refine blk_drew ?_ | refine blk_alloc ?_ _)); exact BK390.out⟩, ⟨by (with_reducible repeat (first | refine blk_drewN ?_ _ | refine blk_drew ?_ | refine blk_alloc ?_ _)); exact BK395.out⟩, ⟨by repeat (first | (with_reducible first | exact HB.out | apply below_alloc | apply pw_below_drewN | apply below_drew1 | refine below_set ?_ GE374.out | refine below_set ?_ GE375.out | refine below_set ?_ GE390.out | refine below_set ?_ GE395.out) | exact HB.out)⟩⟩
   case rest =>
    clear HC26
    try clear c1
    try clear c2
    try clear p2
    try clear c4
    try clear c5
    try clear c5b0
    try clear c8
    try clear c9
    try clear c10
    try clear c12
    try clear c12b0
    try clear c13
    try clear c15
    try clear c19
    try clear c20
    try clear c29
    try clear c44
    try clear c45
    try clear c50
    try clear c51
    try clear c52
    try clear c57
    try clear c57b0
    try clear c57b1
    try clear hcz16_0
    try clear hcz18_0
    try clear hcz18_1
    try clear hcz30_0
    try clear hcz32_0
    try clear hcz32_1
    try clear hcz40_0
    try clear hcz46_0
    try clear hcz47_0
    try clear hcz47_1
    try clear hcz53_0
    try clear hcz53_1
    try clear hcz55_0
    try clear hcz9_0
    try clear hfz16_0
    try clear hfz18_0
    try clear hfz18_1
    try clear hfz30_0
    try clear hfz32_0
    try clear hfz32_1
    try clear hfz40_0
    try clear hfz46_0
    try clear hfz47_0
    try clear hfz47_1
    try clear hfz53_0
    try clear hfz53_1
    try clear hfz55_0
    try clear hfz9_0
    obtain ⟨kq, x51_25, rfl, HA, HJ25, HO_391000, HO_396001, BK374, BK375, BK390, BK395, HB⟩ := hcut
    cases kq with
    | zero => exact absurd HA.out (by simp [laws_FnExactPairOrder.j0])
    | succ kj25 =>
     have H := HA.out
     clear HA
     simp only [laws_FnExactPairOrder.j0] at H
     by_cases c58 : x51_25 = true
     ·
      subst c58
      have H1 : (some false) = some r := by rw [if_pos rfl] at H; exact H
      clear H
      have H := H1
      clear H1
      obtain rfl := Option.some.inj H
      go_wp2
      go_ret
      exact ⟨by first | rfl | (simp [errW_none, errW_some] <;> rfl) | (simp [*, errW_none, errW_some] <;> rfl), by repeat (first | (with_reducible first | exact HB.out | apply below_alloc | apply pw_below_drewN | apply below_drew1 | refine below_set ?_ GE374.out | refine below_set ?_ GE375.out | refine below_set ?_ GE390.out | refine below_set ?_ GE395.out) | exact HB.out)⟩
     ·
      replace c58 := Bool.eq_false_iff.mpr c58
      subst c58
      have H1 : ((laws_toGroup.f kj25 l0_0).bind fun t398 => ((laws_eqGroup.f kj25 t387 t398).bind fun t401 => (if t401 = true then ((laws_toModule.f kj25 a1_0 l1_1).bind fun bt402 => ((laws_eqModule.f kj25 t391 t392 bt402.1 bt402.2).bind fun t406 => (if t406 = true then (some true) else (some false)))) else (some false)))) = some r := by rw [if_neg (show ¬ (false = true) by decide)] at H; exact H
      clear H
      have H := H1
      clear H1
      replace H := Option.bind_eq_some_iff.mp H
      obtain ⟨t398, A590, H⟩ := H
      replace H : ((laws_eqGroup.f kj25 t387 t398).bind fun t401 => (if t401 = true then ((laws_toModule.f kj25 a1_0 l1_1).bind fun bt402 => ((laws_eqModule.f kj25 t391 t392 bt402.1 bt402.2).bind fun t406 => (if t406 = true then (some true) else (some false)))) else (some false))) = some r := H
      have A59 := Aside0.mk A590
      clear A590
      replace H := Option.bind_eq_some_iff.mp H
      obtain ⟨t401, A600, H⟩ := H
      replace H : (if t401 = true then ((laws_toModule.f kj25 a1_0 l1_1).bind fun bt402 => ((laws_eqModule.f kj25 t391 t392 bt402.1 bt402.2).bind fun t406 => (if t406 = true then (some true) else (some false)))) else (some false)) = some r := H
      have A60 := Aside0.mk A600
      clear A600
      by_cases c61 : t401 = true
      ·
       subst c61
       have H1 : ((laws_toModule.f kj25 a1_0 l1_1).bind fun bt402 => ((laws_eqModule.f kj25 t391 t392 bt402.1 bt402.2).bind fun t406 => (if t406 = true then (some true) else (some false)))) = some r := by rw [if_pos rfl] at H; exact H
       clear H
       have H := H1
       clear H1
       replace H := Option.bind_eq_some_iff.mp H
       obtain ⟨⟨t402, t403⟩, A620, H⟩ := H
       replace H : ((laws_eqModule.f kj25 t391 t392 t402 t403).bind fun t406 => (if t406 = true then (some true) else (some false))) = some r := H
       have A62 := Aside0.mk A620
       clear A620
       replace H := Option.bind_eq_some_iff.mp H
       obtain ⟨t406, A630, H⟩ := H
       replace H : (if t406 = true then (some true) else (some false)) = some r := H
       have A63 := Aside0.mk A630
       clear A630
       by_cases c64 : t406 = true
       ·
        subst c64
        have H1 : (some true) = some r := by rw [if_pos rfl] at H; exact H
        clear H
        have H := H1
        clear H1
        obtain rfl := Option.some.inj H
        try go_wp2
        have n0_ := Aside0.mk (Kd.S_drew HO_391000.out)
        have n1_ := Aside0.mk (Kd.R_drew HO_396001.out)
        have n2_ := Aside0.mk (blk_drew BK374.out)
        have n3_ := Aside0.mk (blk_drew BK375.out)
        have n4_ := Aside0.mk (blk_drew BK390.out)
        have n5_ := Aside0.mk (blk_drew BK395.out)
        have n6_ := Aside0.mk (below_drew1 HB.out)
        clear HO_391000
        clear HO_396001
        clear BK374
        clear BK375
        clear BK390
        clear BK395
        clear HB
        have HO_391000 := n0_
        have HO_396001 := n1_
        have BK374 := n2_
        have BK375 := n3_
        have BK390 := n4_
        have BK395 := n5_
        have HB := n6_
        clear n0_ n1_ n2_ n3_ n4_ n5_ n6_
        refine start_ (n := 5) (S := fun w' => w'.cell? ⟨gb390, 0, none⟩ = some (.slice Ao43 t387.length co43) ∧ w'.cell? ⟨gb374, 0, none⟩ = some (.slice A0_0 l0_0.length c0_0)) (ds := []) #[false, false, false, false, false] (by kernel_rfl) rfl rfl ⟨(blk_cell BK390.out 0).trans rfl, (blk_cell BK374.out 0).trans rfl⟩ (fun hHeld => ?_)
        generalize wc.drew = w65 at HO_391000 HO_396001 BK374 BK375 BK390 BK395 HB hHeld ⊢
        refine take_ (i := 0) (N := some 52) (v := ?_) (a' := ?_) #[true, false, false, false, false] rfl rfl (by kernel_rfl) (fun _ _ _ h => h) (Or.inl ⟨by rfl, ?_⟩) hHeld ?_ ?_
        rotate_left
        ·
         rintro w' ⟨s0, s1⟩
         go_simp
         with_reducible rfl
        rotate_left
        ·
         simp only [Act.put, List.setIfInBounds_toArray, List.set_cons_zero, List.set_cons_succ, i64_w, i32_w]
         rfl
        refine take_ (i := 1) (N := some 53) (v := ?_) (a' := ?_) #[true, true, false, false, false] rfl rfl (by kernel_rfl) (fun _ _ _ h => h) (Or.inl ⟨by rfl, ?_⟩) hHeld ?_ ?_
        rotate_left
        ·
         rintro w' ⟨s0, s1⟩
         go_simp
         with_reducible rfl
        rotate_left
        ·
         simp only [Act.put, List.setIfInBounds_toArray, List.set_cons_zero, List.set_cons_succ, i64_w, i32_w]
         rfl
        refine one_ (i := 2) (N := some 54) #[true, true, true, false, false] rfl rfl (by kernel_rfl) (by decide) (fun K hK => ?_)
        refine goes_ Try.func12 (by kernel_rfl) rfl #[.agg #[.slice A0_0 l0_0.length c0_0]] (by rfl) rfl rfl (by (try simp only [List.map_toArray, List.map_cons, List.map_nil]); first | done | rfl | (simp only [List.length_drop, List.length_take]; rfl)) ?_
        with_reducible refine (laws_toGroup.calls kj25 _ _ l0_0 t398 _ ?side1 ?side2 A59.out).mono ?_
        (case side1 => repeat (first | exact (Kd.C_below HR0_0.out HB.out) | (with_reducible refine Kd.C_alloc ?_ _) | (with_reducible refine Kd.C_drewN ?_ _) | (with_reducible refine Kd.C_drew ?_)))
        (case side2 => exact HC0_0.out)
        rintro e w66 ⟨v399, rfl, ho0, hb⟩
        refine ⟨_, rfl, ?_⟩
        have n0_ := Aside0.mk (Kd.S_elder' (by (with_reducible repeat (first | apply Kd.S_alloc | apply Kd.S_drewN | apply Kd.S_drew)); exact HO_391000.out) (Kd.S_base ho0) hb)
        have n1_ := Aside0.mk (Kd.R_below (by (with_reducible repeat (first | apply Kd.R_alloc | apply Kd.R_drewN | apply Kd.R_drew)); exact HO_396001.out) hb)
        have n2_ := Aside0.mk (Kd.S_lower (Kd.S_new' (Kd.S_new' ho0 (Kd.S_lt (by (with_reducible repeat (first | apply Kd.S_alloc | apply Kd.S_drewN | apply Kd.S_drew)); exact HO_391000.out))) (Kd.R_lt (by (with_reducible repeat (first | apply Kd.R_alloc | apply Kd.R_drewN | apply Kd.R_drew)); exact HO_396001.out))) (below_size (by repeat (first | (with_reducible first | exact HB.out | apply below_alloc | apply pw_below_drewN | apply below_drew1 | refine below_set ?_ GE374.out | refine below_set ?_ GE375.out | refine below_set ?_ GE390.out | refine below_set ?_ GE395.out) | exact HB.out))))
        have n3_ := Aside0.mk (blk_below (g := gb374) (o := .cells #[.slice A0_0 l0_0.length c0_0] 24 (0, 0)) (by (with_reducible repeat (first | refine blk_drewN ?_ _ | refine blk_drew ?_ | refine blk_alloc ?_ _)); exact BK374.out) hb)
        have n4_ := Aside0.mk (blk_below (g := gb375) (o := .cells #[.int .i64 a1_0, .slice A1_1 l1_1.length c1_1] 27 (0, 0)) (by (with_reducible repeat (first | refine blk_drewN ?_ _ | refine blk_drew ?_ | refine blk_alloc ?_ _)); exact BK375.out) hb)
        have n5_ := Aside0.mk (blk_below (g := gb390) (o := .cells #[.slice Ao43 t387.length co43] 32 (0, 0)) (by (with_reducible repeat (first | refine blk_drewN ?_ _ | refine blk_drew ?_ | refine blk_alloc ?_ _)); exact BK390.out) hb)
        have n6_ := Aside0.mk (blk_below (g := gb395) (o := .cells #[.int .i64 t391, .slice Ao54 t392.length co54] 34 (0, 0)) (by (with_reducible repeat (first | refine blk_drewN ?_ _ | refine blk_drew ?_ | refine blk_alloc ?_ _)); exact BK395.out) hb)
        have n7_ := Aside0.mk (below_step (by repeat (first | (with_reducible first | exact HB.out | apply below_alloc | apply pw_below_drewN | apply below_drew1 | refine below_set ?_ GE374.out | refine below_set ?_ GE375.out | refine below_set ?_ GE390.out | refine below_set ?_ GE395.out) | exact HB.out)) hb)
        clear HO_391000
        clear HO_396001
        clear BK374
        clear BK375
        clear BK390
        clear BK395
        clear HB
        have HO_391000 := n0_
        have HO_396001 := n1_
        have HO400 := n2_
        have BK374 := n3_
        have BK375 := n4_
        have BK390 := n5_
        have BK395 := n6_
        have HB := n7_
        clear n0_ n1_ n2_ n3_ n4_ n5_ n6_ n7_
        (try clear hb)
        (try clear hb2)
        (try clear hk)
        (try clear hi)
        (try clear ho0)
        obtain ⟨Ao67, co67, eo67⟩ := Kd.S_slice HO400.out
        (first | subst eo67 | (injection eo67 with f1_ f2_ f3_; have f4_ := f1_.symm; have f5_ := f3_.symm; clear f1_ f2_ f3_; subst f4_; subst f5_))
        refine hK.out _ _ ⟨(blk_cell BK390.out 0).trans rfl, (blk_cell BK374.out 0).trans rfl⟩ (fun hHeld => ?_)
        clear hK K
        refine norm_ (a' := ?_) ?_ ?_
        rotate_left
        ·
         show Act.put _ (some 54) _ = _
         simp only [Act.put, List.setIfInBounds_toArray, List.set_cons_zero, List.set_cons_succ, i64_w, i32_w]
         rfl
        refine one_ (i := 3) (N := some 55) #[true, true, true, true, false] rfl rfl (by kernel_rfl) (by decide) (fun K hK => ?_)
        refine goes_ Try.func15 (by kernel_rfl) rfl #[.agg #[.slice Ao43 t387.length co43], .agg #[.slice Ao67 t398.length co67]] (by rfl) rfl rfl (by (try simp only [List.map_toArray, List.map_cons, List.map_nil]); first | done | rfl | (simp only [List.length_drop, List.length_take]; rfl)) ?_
        with_reducible refine (laws_eqGroup.calls kj25 _ _ t387 _ _ t398 true _ ?side1 ?side2 ?side3 ?side4 A60.out).mono ?_
        (case side1 => repeat (first | exact (Kd.S_reads' HO_391000.out).2.2 | (with_reducible refine Kd.C_alloc ?_ _) | (with_reducible refine Kd.C_drewN ?_ _) | (with_reducible refine Kd.C_drew ?_)))
        (case side2 => exact (Kd.S_reads' HO_391000.out).2.1)
        (case side3 => repeat (first | exact (Kd.S_reads' HO400.out).2.2 | (with_reducible refine Kd.C_alloc ?_ _) | (with_reducible refine Kd.C_drewN ?_ _) | (with_reducible refine Kd.C_drew ?_)))
        (case side4 => exact (Kd.S_reads' HO400.out).2.1)
        rintro e w68 ⟨rfl, hb⟩
        refine ⟨_, rfl, ?_⟩
        have n0_ := Aside0.mk (Kd.S_below (by (with_reducible repeat (first | apply Kd.S_alloc | apply Kd.S_drewN | apply Kd.S_drew)); exact HO_391000.out) hb)
        have n1_ := Aside0.mk (Kd.R_below (by (with_reducible repeat (first | apply Kd.R_alloc | apply Kd.R_drewN | apply Kd.R_drew)); exact HO_396001.out) hb)
        have n2_ := Aside0.mk (Kd.S_below (by (with_reducible repeat (first | apply Kd.S_alloc | apply Kd.S_drewN | apply Kd.S_drew)); exact HO400.out) hb)
        have n3_ := Aside0.mk (blk_below (g := gb374) (o := .cells #[.slice A0_0 l0_0.length c0_0] 24 (0, 0)) (by (with_reducible repeat (first | refine blk_drewN ?_ _ | refine blk_drew ?_ | refine blk_alloc ?_ _)); exact BK374.out) hb)
        have n4_ := Aside0.mk (blk_below (g := gb375) (o := .cells #[.int .i64 a1_0, .slice A1_1 l1_1.length c1_1] 27 (0, 0)) (by (with_reducible repeat (first | refine blk_drewN ?_ _ | refine blk_drew ?_ | refine blk_alloc ?_ _)); exact BK375.out) hb)
        have n5_ := Aside0.mk (blk_below (g := gb390) (o := .cells #[.slice Ao43 t387.length co43] 32 (0, 0)) (by (with_reducible repeat (first | refine blk_drewN ?_ _ | refine blk_drew ?_ | refine blk_alloc ?_ _)); exact BK390.out) hb)
        have n6_ := Aside0.mk (blk_below (g := gb395) (o := .cells #[.int .i64 t391, .slice Ao54 t392.length co54] 34 (0, 0)) (by (with_reducible repeat (first | refine blk_drewN ?_ _ | refine blk_drew ?_ | refine blk_alloc ?_ _)); exact BK395.out) hb)
        have n7_ := Aside0.mk (below_step (by repeat (first | (with_reducible first | exact HB.out | apply below_alloc | apply pw_below_drewN | apply below_drew1 | refine below_set ?_ GE374.out | refine below_set ?_ GE375.out | refine below_set ?_ GE390.out | refine below_set ?_ GE395.out) | exact HB.out)) hb)
        clear HO_391000
        clear HO_396001
        clear HO400
        clear BK374
        clear BK375
        clear BK390
        clear BK395
        clear HB
        have HO_391000 := n0_
        have HO_396001 := n1_
        have HO400 := n2_
        have BK374 := n3_
        have BK375 := n4_
        have BK390 := n5_
        have BK395 := n6_
        have HB := n7_
        clear n0_ n1_ n2_ n3_ n4_ n5_ n6_ n7_
        (try clear hb)
        (try clear hb2)
        (try clear hk)
        (try clear hi)
        refine hK.out _ _ ⟨(blk_cell BK390.out 0).trans rfl, (blk_cell BK374.out 0).trans rfl⟩ (fun hHeld => ?_)
        clear hK K
        refine norm_ (a' := ?_) ?_ ?_
        rotate_left
        ·
         show Act.put _ (some 55) _ = _
         simp only [Act.put, List.setIfInBounds_toArray, List.set_cons_zero, List.set_cons_succ, i64_w, i32_w]
         rfl
        refine pure_ (i := 4) (N := some 56) (v := ?_) (a' := ?_) #[true, true, true, true, true] rfl rfl (by kernel_rfl) (fun _ _ _ h => h) (Or.inl ⟨by rfl, ?_⟩) ?_ ?_
        rotate_left
        ·
         intro w'
         go_simp
         with_reducible rfl
        rotate_left
        ·
         simp only [Act.put, List.setIfInBounds_toArray, List.set_cons_zero, List.set_cons_succ, i64_w, i32_w]
         rfl
        refine done_ (by kernel_rfl) ?_
        try go_wp2
        have n0_ := Aside0.mk (Kd.S_drew HO_391000.out)
        have n1_ := Aside0.mk (Kd.R_drew HO_396001.out)
        have n2_ := Aside0.mk (Kd.S_drew HO400.out)
        have n3_ := Aside0.mk (blk_drew BK374.out)
        have n4_ := Aside0.mk (blk_drew BK375.out)
        have n5_ := Aside0.mk (blk_drew BK390.out)
        have n6_ := Aside0.mk (blk_drew BK395.out)
        have n7_ := Aside0.mk (below_drew1 HB.out)
        clear HO_391000
        clear HO_396001
        clear HO400
        clear BK374
        clear BK375
        clear BK390
        clear BK395
        clear HB
        have HO_391000 := n0_
        have HO_396001 := n1_
        have HO400 := n2_
        have BK374 := n3_
        have BK375 := n4_
        have BK390 := n5_
        have BK395 := n6_
        have HB := n7_
        clear n0_ n1_ n2_ n3_ n4_ n5_ n6_ n7_
        refine start_ (n := 5) (S := fun w' => w'.cell? ⟨gb395, 0, none⟩ = some (.int .i64 t391) ∧ w'.cell? ⟨gb395, 1, none⟩ = some (.slice Ao54 t392.length co54) ∧ w'.cell? ⟨gb375, 0, none⟩ = some (.int .i64 a1_0) ∧ w'.cell? ⟨gb375, 1, none⟩ = some (.slice A1_1 l1_1.length c1_1)) (ds := []) #[false, false, false, false, false] (by kernel_rfl) rfl rfl ⟨(blk_cell BK395.out 0).trans rfl, (blk_cell BK395.out 1).trans rfl, (blk_cell BK375.out 0).trans rfl, (blk_cell BK375.out 1).trans rfl⟩ (fun hHeld => ?_)
        generalize w68.drew = w69 at HO_391000 HO_396001 HO400 BK374 BK375 BK390 BK395 HB hHeld ⊢
        refine take_ (i := 0) (N := some 57) (v := ?_) (a' := ?_) #[true, false, false, false, false] rfl rfl (by kernel_rfl) (fun _ _ _ h => h) (Or.inl ⟨by rfl, ?_⟩) hHeld ?_ ?_
        rotate_left
        ·
         rintro w' ⟨s0, s1, s2, s3⟩
         go_simp
         with_reducible rfl
        rotate_left
        ·
         simp only [Act.put, List.setIfInBounds_toArray, List.set_cons_zero, List.set_cons_succ, i64_w, i32_w]
         rfl
        refine take_ (i := 1) (N := some 58) (v := ?_) (a' := ?_) #[true, true, false, false, false] rfl rfl (by kernel_rfl) (fun _ _ _ h => h) (Or.inl ⟨by rfl, ?_⟩) hHeld ?_ ?_
        rotate_left
        ·
         rintro w' ⟨s0, s1, s2, s3⟩
         go_simp
         with_reducible rfl
        rotate_left
        ·
         simp only [Act.put, List.setIfInBounds_toArray, List.set_cons_zero, List.set_cons_succ, i64_w, i32_w]
         rfl
        refine one_ (i := 2) (N := some 59) #[true, true, true, false, false] rfl rfl (by kernel_rfl) (by decide) (fun K hK => ?_)
        refine goes_ Try.func13 (by kernel_rfl) rfl #[.agg #[.int .i64 a1_0, .slice A1_1 l1_1.length c1_1]] (by rfl) rfl rfl (by (try simp only [List.map_toArray, List.map_cons, List.map_nil]); first | done | rfl | (simp only [List.length_drop, List.length_take]; rfl)) ?_
        with_reducible refine (laws_toModule.calls kj25 a1_0 _ _ l1_1 t402 t403 _ ?side1 ?side2 A62.out).mono ?_
        (case side1 => repeat (first | exact (Kd.C_below HR1_1.out HB.out) | (with_reducible refine Kd.C_alloc ?_ _) | (with_reducible refine Kd.C_drewN ?_ _) | (with_reducible refine Kd.C_drew ?_)))
        (case side2 => exact HC1_1.out)
        rintro e w70 ⟨v404, rfl, ho0, hb⟩
        refine ⟨_, rfl, ?_⟩
        have n0_ := Aside0.mk (Kd.S_elder' (by (with_reducible repeat (first | apply Kd.S_alloc | apply Kd.S_drewN | apply Kd.S_drew)); exact HO_391000.out) (Kd.R_base ho0) hb)
        have n1_ := Aside0.mk (Kd.R_elder' (by (with_reducible repeat (first | apply Kd.R_alloc | apply Kd.R_drewN | apply Kd.R_drew)); exact HO_396001.out) (Kd.R_base ho0) hb)
        have n2_ := Aside0.mk (Kd.S_elder' (by (with_reducible repeat (first | apply Kd.S_alloc | apply Kd.S_drewN | apply Kd.S_drew)); exact HO400.out) (Kd.R_base ho0) hb)
        have n3_ := Aside0.mk (Kd.R_lower (Kd.R_new' ho0 (Kd.R_lt (by (with_reducible repeat (first | apply Kd.R_alloc | apply Kd.R_drewN | apply Kd.R_drew)); exact HO_396001.out))) (below_size (by repeat (first | (with_reducible first | exact HB.out | apply below_alloc | apply pw_below_drewN | apply below_drew1 | refine below_set ?_ GE374.out | refine below_set ?_ GE375.out | refine below_set ?_ GE390.out | refine below_set ?_ GE395.out) | exact HB.out))))
        have n4_ := Aside0.mk (blk_below (g := gb374) (o := .cells #[.slice A0_0 l0_0.length c0_0] 24 (0, 0)) (by (with_reducible repeat (first | refine blk_drewN ?_ _ | refine blk_drew ?_ | refine blk_alloc ?_ _)); exact BK374.out) hb)
        have n5_ := Aside0.mk (blk_below (g := gb375) (o := .cells #[.int .i64 a1_0, .slice A1_1 l1_1.length c1_1] 27 (0, 0)) (by (with_reducible repeat (first | refine blk_drewN ?_ _ | refine blk_drew ?_ | refine blk_alloc ?_ _)); exact BK375.out) hb)
        have n6_ := Aside0.mk (blk_below (g := gb390) (o := .cells #[.slice Ao43 t387.length co43] 32 (0, 0)) (by (with_reducible repeat (first | refine blk_drewN ?_ _ | refine blk_drew ?_ | refine blk_alloc ?_ _)); exact BK390.out) hb)
        have n7_ := Aside0.mk (blk_below (g := gb395) (o := .cells #[.int .i64 t391, .slice Ao54 t392.length co54] 34 (0, 0)) (by (with_reducible repeat (first | refine blk_drewN ?_ _ | refine blk_drew ?_ | refine blk_alloc ?_ _)); exact BK395.out) hb)
        have n8_ := Aside0.mk (below_step (by repeat (first | (with_reducible first | exact HB.out | apply below_alloc | apply pw_below_drewN | apply below_drew1 | refine below_set ?_ GE374.out | refine below_set ?_ GE375.out | refine below_set ?_ GE390.out | refine below_set ?_ GE395.out) | exact HB.out)) hb)
        clear HO_391000
        clear HO_396001
        clear HO400
        clear BK374
        clear BK375
        clear BK390
        clear BK395
        clear HB
        have HO_391000 := n0_
        have HO_396001 := n1_
        have HO400 := n2_
        have HO405 := n3_
        have BK374 := n4_
        have BK375 := n5_
        have BK390 := n6_
        have BK395 := n7_
        have HB := n8_
        clear n0_ n1_ n2_ n3_ n4_ n5_ n6_ n7_ n8_
        (try clear hb)
        (try clear hb2)
        (try clear hk)
        (try clear hi)
        (try clear ho0)
        obtain ⟨Ao71, co71, eo71⟩ := Kd.R_slice HO405.out
        (first | subst eo71 | (injection eo71 with f1_ f2_ f3_; have f4_ := f1_.symm; have f5_ := f3_.symm; clear f1_ f2_ f3_; subst f4_; subst f5_))
        refine hK.out _ _ ⟨(blk_cell BK395.out 0).trans rfl, (blk_cell BK395.out 1).trans rfl, (blk_cell BK375.out 0).trans rfl, (blk_cell BK375.out 1).trans rfl⟩ (fun hHeld => ?_)
        clear hK K
        refine norm_ (a' := ?_) ?_ ?_
        rotate_left
        ·
         show Act.put _ (some 59) _ = _
         simp only [Act.put, List.setIfInBounds_toArray, List.set_cons_zero, List.set_cons_succ, i64_w, i32_w]
         rfl
        refine one_ (i := 3) (N := some 60) #[true, true, true, true, false] rfl rfl (by kernel_rfl) (by decide) (fun K hK => ?_)
        refine goes_ Try.func16 (by kernel_rfl) rfl #[.agg #[.int .i64 t391, .slice Ao54 t392.length co54], .agg #[.int .i64 t402, .slice Ao71 t403.length co71]] (by rfl) rfl rfl (by (try simp only [List.map_toArray, List.map_cons, List.map_nil]); first | done | rfl | (simp only [List.length_drop, List.length_take]; rfl)) ?_
        with_reducible refine (laws_eqModule.calls kj25 t391 _ _ t392 t402 _ _ t403 true _ ?side1 ?side2 ?side3 ?side4 A63.out).mono ?_
        (case side1 => repeat (first | exact (Kd.R_reads' HO_396001.out).2.2 | (with_reducible refine Kd.C_alloc ?_ _) | (with_reducible refine Kd.C_drewN ?_ _) | (with_reducible refine Kd.C_drew ?_)))
        (case side2 => exact (Kd.R_reads' HO_396001.out).2.1)
        (case side3 => repeat (first | exact (Kd.R_reads' HO405.out).2.2 | (with_reducible refine Kd.C_alloc ?_ _) | (with_reducible refine Kd.C_drewN ?_ _) | (with_reducible refine Kd.C_drew ?_)))
        (case side4 => exact (Kd.R_reads' HO405.out).2.1)
        rintro e w72 ⟨rfl, hb⟩
        refine ⟨_, rfl, ?_⟩
        have n0_ := Aside0.mk (Kd.S_below (by (with_reducible repeat (first | apply Kd.S_alloc | apply Kd.S_drewN | apply Kd.S_drew)); exact HO_391000.out) hb)
        have n1_ := Aside0.mk (Kd.R_below (by (with_reducible repeat (first | apply Kd.R_alloc | apply Kd.R_drewN | apply Kd.R_drew)); exact HO_396001.out) hb)
        have n2_ := Aside0.mk (Kd.S_below (by (with_reducible repeat (first | apply Kd.S_alloc | apply Kd.S_drewN | apply Kd.S_drew)); exact HO400.out) hb)
        have n3_ := Aside0.mk (Kd.R_below (by (with_reducible repeat (first | apply Kd.R_alloc | apply Kd.R_drewN | apply Kd.R_drew)); exact HO405.out) hb)
        have n4_ := Aside0.mk (blk_below (g := gb374) (o := .cells #[.slice A0_0 l0_0.length c0_0] 24 (0, 0)) (by (with_reducible repeat (first | refine blk_drewN ?_ _ | refine blk_drew ?_ | refine blk_alloc ?_ _)); exact BK374.out) hb)
        have n5_ := Aside0.mk (blk_below (g := gb375) (o := .cells #[.int .i64 a1_0, .slice A1_1 l1_1.length c1_1] 27 (0, 0)) (by (with_reducible repeat (first | refine blk_drewN ?_ _ | refine blk_drew ?_ | refine blk_alloc ?_ _)); exact BK375.out) hb)
        have n6_ := Aside0.mk (blk_below (g := gb390) (o := .cells #[.slice Ao43 t387.length co43] 32 (0, 0)) (by (with_reducible repeat (first | refine blk_drewN ?_ _ | refine blk_drew ?_ | refine blk_alloc ?_ _)); exact BK390.out) hb)
        have n7_ := Aside0.mk (blk_below (g := gb395) (o := .cells #[.int .i64 t391, .slice Ao54 t392.length co54] 34 (0, 0)) (by (with_reducible repeat (first | refine blk_drewN ?_ _ | refine blk_drew ?_ | refine blk_alloc ?_ _)); exact BK395.out) hb)
        have n8_ := Aside0.mk (below_step (by repeat (first | (with_reducible first | exact HB.out | apply below_alloc | apply pw_below_drewN | apply below_drew1 | refine below_set ?_ GE374.out | refine below_set ?_ GE375.out | refine below_set ?_ GE390.out | refine below_set ?_ GE395.out) | exact HB.out)) hb)
        clear HO_391000
        clear HO_396001
        clear HO400
        clear HO405
        clear BK374
        clear BK375
        clear BK390
        clear BK395
        clear HB
        have HO_391000 := n0_
        have HO_396001 := n1_
        have HO400 := n2_
        have HO405 := n3_
        have BK374 := n4_
        have BK375 := n5_
        have BK390 := n6_
        have BK395 := n7_
        have HB := n8_
        clear n0_ n1_ n2_ n3_ n4_ n5_ n6_ n7_ n8_
        (try clear hb)
        (try clear hb2)
        (try clear hk)
        (try clear hi)
        refine hK.out _ _ ⟨(blk_cell BK395.out 0).trans rfl, (blk_cell BK395.out 1).trans rfl, (blk_cell BK375.out 0).trans rfl, (blk_cell BK375.out 1).trans rfl⟩ (fun hHeld => ?_)
        clear hK K
        refine norm_ (a' := ?_) ?_ ?_
        rotate_left
        ·
         show Act.put _ (some 60) _ = _
         simp only [Act.put, List.setIfInBounds_toArray, List.set_cons_zero, List.set_cons_succ, i64_w, i32_w]
         rfl
        refine pure_ (i := 4) (N := some 61) (v := ?_) (a' := ?_) #[true, true, true, true, true] rfl rfl (by kernel_rfl) (fun _ _ _ h => h) (Or.inl ⟨by rfl, ?_⟩) ?_ ?_
        rotate_left
        ·
         intro w'
         go_simp
         with_reducible rfl
        rotate_left
        ·
         simp only [Act.put, List.setIfInBounds_toArray, List.set_cons_zero, List.set_cons_succ, i64_w, i32_w]
         rfl
        refine done_ (by kernel_rfl) ?_
        try go_wp2
        go_ret
        exact ⟨by first | rfl | (simp [errW_none, errW_some] <;> rfl) | (simp [*, errW_none, errW_some] <;> rfl), by repeat (first | (with_reducible first | exact HB.out | apply below_alloc | apply pw_below_drewN | apply below_drew1 | refine below_set ?_ GE374.out | refine below_set ?_ GE375.out | refine below_set ?_ GE390.out | refine below_set ?_ GE395.out) | exact HB.out)⟩
       ·
        replace c64 := Bool.eq_false_iff.mpr c64
        subst c64
        have H1 : (some false) = some r := by rw [if_neg (show ¬ (false = true) by decide)] at H; exact H
        clear H
        have H := H1
        clear H1
        obtain rfl := Option.some.inj H
        try go_wp2
        have n0_ := Aside0.mk (Kd.S_drew HO_391000.out)
        have n1_ := Aside0.mk (Kd.R_drew HO_396001.out)
        have n2_ := Aside0.mk (blk_drew BK374.out)
        have n3_ := Aside0.mk (blk_drew BK375.out)
        have n4_ := Aside0.mk (blk_drew BK390.out)
        have n5_ := Aside0.mk (blk_drew BK395.out)
        have n6_ := Aside0.mk (below_drew1 HB.out)
        clear HO_391000
        clear HO_396001
        clear BK374
        clear BK375
        clear BK390
        clear BK395
        clear HB
        have HO_391000 := n0_
        have HO_396001 := n1_
        have BK374 := n2_
        have BK375 := n3_
        have BK390 := n4_
        have BK395 := n5_
        have HB := n6_
        clear n0_ n1_ n2_ n3_ n4_ n5_ n6_
        refine start_ (n := 5) (S := fun w' => w'.cell? ⟨gb390, 0, none⟩ = some (.slice Ao43 t387.length co43) ∧ w'.cell? ⟨gb374, 0, none⟩ = some (.slice A0_0 l0_0.length c0_0)) (ds := []) #[false, false, false, false, false] (by kernel_rfl) rfl rfl ⟨(blk_cell BK390.out 0).trans rfl, (blk_cell BK374.out 0).trans rfl⟩ (fun hHeld => ?_)
        generalize wc.drew = w73 at HO_391000 HO_396001 BK374 BK375 BK390 BK395 HB hHeld ⊢
        refine take_ (i := 0) (N := some 52) (v := ?_) (a' := ?_) #[true, false, false, false, false] rfl rfl (by kernel_rfl) (fun _ _ _ h => h) (Or.inl ⟨by rfl, ?_⟩) hHeld ?_ ?_
        rotate_left
        ·
         rintro w' ⟨s0, s1⟩
         go_simp
         with_reducible rfl
        rotate_left
        ·
         simp only [Act.put, List.setIfInBounds_toArray, List.set_cons_zero, List.set_cons_succ, i64_w, i32_w]
         rfl
        refine take_ (i := 1) (N := some 53) (v := ?_) (a' := ?_) #[true, true, false, false, false] rfl rfl (by kernel_rfl) (fun _ _ _ h => h) (Or.inl ⟨by rfl, ?_⟩) hHeld ?_ ?_
        rotate_left
        ·
         rintro w' ⟨s0, s1⟩
         go_simp
         with_reducible rfl
        rotate_left
        ·
         simp only [Act.put, List.setIfInBounds_toArray, List.set_cons_zero, List.set_cons_succ, i64_w, i32_w]
         rfl
        refine one_ (i := 2) (N := some 54) #[true, true, true, false, false] rfl rfl (by kernel_rfl) (by decide) (fun K hK => ?_)
        refine goes_ Try.func12 (by kernel_rfl) rfl #[.agg #[.slice A0_0 l0_0.length c0_0]] (by rfl) rfl rfl (by (try simp only [List.map_toArray, List.map_cons, List.map_nil]); first | done | rfl | (simp only [List.length_drop, List.length_take]; rfl)) ?_
        with_reducible refine (laws_toGroup.calls kj25 _ _ l0_0 t398 _ ?side1 ?side2 A59.out).mono ?_
        (case side1 => repeat (first | exact (Kd.C_below HR0_0.out HB.out) | (with_reducible refine Kd.C_alloc ?_ _) | (with_reducible refine Kd.C_drewN ?_ _) | (with_reducible refine Kd.C_drew ?_)))
        (case side2 => exact HC0_0.out)
        rintro e w74 ⟨v399, rfl, ho0, hb⟩
        refine ⟨_, rfl, ?_⟩
        have n0_ := Aside0.mk (Kd.S_elder' (by (with_reducible repeat (first | apply Kd.S_alloc | apply Kd.S_drewN | apply Kd.S_drew)); exact HO_391000.out) (Kd.S_base ho0) hb)
        have n1_ := Aside0.mk (Kd.R_below (by (with_reducible repeat (first | apply Kd.R_alloc | apply Kd.R_drewN | apply Kd.R_drew)); exact HO_396001.out) hb)
        have n2_ := Aside0.mk (Kd.S_lower (Kd.S_new' (Kd.S_new' ho0 (Kd.S_lt (by (with_reducible repeat (first | apply Kd.S_alloc | apply Kd.S_drewN | apply Kd.S_drew)); exact HO_391000.out))) (Kd.R_lt (by (with_reducible repeat (first | apply Kd.R_alloc | apply Kd.R_drewN | apply Kd.R_drew)); exact HO_396001.out))) (below_size (by repeat (first | (with_reducible first | exact HB.out | apply below_alloc | apply pw_below_drewN | apply below_drew1 | refine below_set ?_ GE374.out | refine below_set ?_ GE375.out | refine below_set ?_ GE390.out | refine below_set ?_ GE395.out) | exact HB.out))))
        have n3_ := Aside0.mk (blk_below (g := gb374) (o := .cells #[.slice A0_0 l0_0.length c0_0] 24 (0, 0)) (by (with_reducible repeat (first | refine blk_drewN ?_ _ | refine blk_drew ?_ | refine blk_alloc ?_ _)); exact BK374.out) hb)
        have n4_ := Aside0.mk (blk_below (g := gb375) (o := .cells #[.int .i64 a1_0, .slice A1_1 l1_1.length c1_1] 27 (0, 0)) (by (with_reducible repeat (first | refine blk_drewN ?_ _ | refine blk_drew ?_ | refine blk_alloc ?_ _)); exact BK375.out) hb)
        have n5_ := Aside0.mk (blk_below (g := gb390) (o := .cells #[.slice Ao43 t387.length co43] 32 (0, 0)) (by (with_reducible repeat (first | refine blk_drewN ?_ _ | refine blk_drew ?_ | refine blk_alloc ?_ _)); exact BK390.out) hb)
        have n6_ := Aside0.mk (blk_below (g := gb395) (o := .cells #[.int .i64 t391, .slice Ao54 t392.length co54] 34 (0, 0)) (by (with_reducible repeat (first | refine blk_drewN ?_ _ | refine blk_drew ?_ | refine blk_alloc ?_ _)); exact BK395.out) hb)
        have n7_ := Aside0.mk (below_step (by repeat (first | (with_reducible first | exact HB.out | apply below_alloc | apply pw_below_drewN | apply below_drew1 | refine below_set ?_ GE374.out | refine below_set ?_ GE375.out | refine below_set ?_ GE390.out | refine below_set ?_ GE395.out) | exact HB.out)) hb)
        clear HO_391000
        clear HO_396001
        clear BK374
        clear BK375
        clear BK390
        clear BK395
        clear HB
        have HO_391000 := n0_
        have HO_396001 := n1_
        have HO400 := n2_
        have BK374 := n3_
        have BK375 := n4_
        have BK390 := n5_
        have BK395 := n6_
        have HB := n7_
        clear n0_ n1_ n2_ n3_ n4_ n5_ n6_ n7_
        (try clear hb)
        (try clear hb2)
        (try clear hk)
        (try clear hi)
        (try clear ho0)
        obtain ⟨Ao75, co75, eo75⟩ := Kd.S_slice HO400.out
        (first | subst eo75 | (injection eo75 with f1_ f2_ f3_; have f4_ := f1_.symm; have f5_ := f3_.symm; clear f1_ f2_ f3_; subst f4_; subst f5_))
        refine hK.out _ _ ⟨(blk_cell BK390.out 0).trans rfl, (blk_cell BK374.out 0).trans rfl⟩ (fun hHeld => ?_)
        clear hK K
        refine norm_ (a' := ?_) ?_ ?_
        rotate_left
        ·
         show Act.put _ (some 54) _ = _
         simp only [Act.put, List.setIfInBounds_toArray, List.set_cons_zero, List.set_cons_succ, i64_w, i32_w]
         rfl
        refine one_ (i := 3) (N := some 55) #[true, true, true, true, false] rfl rfl (by kernel_rfl) (by decide) (fun K hK => ?_)
        refine goes_ Try.func15 (by kernel_rfl) rfl #[.agg #[.slice Ao43 t387.length co43], .agg #[.slice Ao75 t398.length co75]] (by rfl) rfl rfl (by (try simp only [List.map_toArray, List.map_cons, List.map_nil]); first | done | rfl | (simp only [List.length_drop, List.length_take]; rfl)) ?_
        with_reducible refine (laws_eqGroup.calls kj25 _ _ t387 _ _ t398 true _ ?side1 ?side2 ?side3 ?side4 A60.out).mono ?_
        (case side1 => repeat (first | exact (Kd.S_reads' HO_391000.out).2.2 | (with_reducible refine Kd.C_alloc ?_ _) | (with_reducible refine Kd.C_drewN ?_ _) | (with_reducible refine Kd.C_drew ?_)))
        (case side2 => exact (Kd.S_reads' HO_391000.out).2.1)
        (case side3 => repeat (first | exact (Kd.S_reads' HO400.out).2.2 | (with_reducible refine Kd.C_alloc ?_ _) | (with_reducible refine Kd.C_drewN ?_ _) | (with_reducible refine Kd.C_drew ?_)))
        (case side4 => exact (Kd.S_reads' HO400.out).2.1)
        rintro e w76 ⟨rfl, hb⟩
        refine ⟨_, rfl, ?_⟩
        have n0_ := Aside0.mk (Kd.S_below (by (with_reducible repeat (first | apply Kd.S_alloc | apply Kd.S_drewN | apply Kd.S_drew)); exact HO_391000.out) hb)
        have n1_ := Aside0.mk (Kd.R_below (by (with_reducible repeat (first | apply Kd.R_alloc | apply Kd.R_drewN | apply Kd.R_drew)); exact HO_396001.out) hb)
        have n2_ := Aside0.mk (Kd.S_below (by (with_reducible repeat (first | apply Kd.S_alloc | apply Kd.S_drewN | apply Kd.S_drew)); exact HO400.out) hb)
        have n3_ := Aside0.mk (blk_below (g := gb374) (o := .cells #[.slice A0_0 l0_0.length c0_0] 24 (0, 0)) (by (with_reducible repeat (first | refine blk_drewN ?_ _ | refine blk_drew ?_ | refine blk_alloc ?_ _)); exact BK374.out) hb)
        have n4_ := Aside0.mk (blk_below (g := gb375) (o := .cells #[.int .i64 a1_0, .slice A1_1 l1_1.length c1_1] 27 (0, 0)) (by (with_reducible repeat (first | refine blk_drewN ?_ _ | refine blk_drew ?_ | refine blk_alloc ?_ _)); exact BK375.out) hb)
        have n5_ := Aside0.mk (blk_below (g := gb390) (o := .cells #[.slice Ao43 t387.length co43] 32 (0, 0)) (by (with_reducible repeat (first | refine blk_drewN ?_ _ | refine blk_drew ?_ | refine blk_alloc ?_ _)); exact BK390.out) hb)
        have n6_ := Aside0.mk (blk_below (g := gb395) (o := .cells #[.int .i64 t391, .slice Ao54 t392.length co54] 34 (0, 0)) (by (with_reducible repeat (first | refine blk_drewN ?_ _ | refine blk_drew ?_ | refine blk_alloc ?_ _)); exact BK395.out) hb)
        have n7_ := Aside0.mk (below_step (by repeat (first | (with_reducible first | exact HB.out | apply below_alloc | apply pw_below_drewN | apply below_drew1 | refine below_set ?_ GE374.out | refine below_set ?_ GE375.out | refine below_set ?_ GE390.out | refine below_set ?_ GE395.out) | exact HB.out)) hb)
        clear HO_391000
        clear HO_396001
        clear HO400
        clear BK374
        clear BK375
        clear BK390
        clear BK395
        clear HB
        have HO_391000 := n0_
        have HO_396001 := n1_
        have HO400 := n2_
        have BK374 := n3_
        have BK375 := n4_
        have BK390 := n5_
        have BK395 := n6_
        have HB := n7_
        clear n0_ n1_ n2_ n3_ n4_ n5_ n6_ n7_
        (try clear hb)
        (try clear hb2)
        (try clear hk)
        (try clear hi)
        refine hK.out _ _ ⟨(blk_cell BK390.out 0).trans rfl, (blk_cell BK374.out 0).trans rfl⟩ (fun hHeld => ?_)
        clear hK K
        refine norm_ (a' := ?_) ?_ ?_
        rotate_left
        ·
         show Act.put _ (some 55) _ = _
         simp only [Act.put, List.setIfInBounds_toArray, List.set_cons_zero, List.set_cons_succ, i64_w, i32_w]
         rfl
        refine pure_ (i := 4) (N := some 56) (v := ?_) (a' := ?_) #[true, true, true, true, true] rfl rfl (by kernel_rfl) (fun _ _ _ h => h) (Or.inl ⟨by rfl, ?_⟩) ?_ ?_
        rotate_left
        ·
         intro w'
         go_simp
         with_reducible rfl
        rotate_left
        ·
         simp only [Act.put, List.setIfInBounds_toArray, List.set_cons_zero, List.set_cons_succ, i64_w, i32_w]
         rfl
        refine done_ (by kernel_rfl) ?_
        try go_wp2
        have n0_ := Aside0.mk (Kd.S_drew HO_391000.out)
        have n1_ := Aside0.mk (Kd.R_drew HO_396001.out)
        have n2_ := Aside0.mk (Kd.S_drew HO400.out)
        have n3_ := Aside0.mk (blk_drew BK374.out)
        have n4_ := Aside0.mk (blk_drew BK375.out)
        have n5_ := Aside0.mk (blk_drew BK390.out)
        have n6_ := Aside0.mk (blk_drew BK395.out)
        have n7_ := Aside0.mk (below_drew1 HB.out)
        clear HO_391000
        clear HO_396001
        clear HO400
        clear BK374
        clear BK375
        clear BK390
        clear BK395
        clear HB
        have HO_391000 := n0_
        have HO_396001 := n1_
        have HO400 := n2_
        have BK374 := n3_
        have BK375 := n4_
        have BK390 := n5_
        have BK395 := n6_
        have HB := n7_
        clear n0_ n1_ n2_ n3_ n4_ n5_ n6_ n7_
        refine start_ (n := 5) (S := fun w' => w'.cell? ⟨gb395, 0, none⟩ = some (.int .i64 t391) ∧ w'.cell? ⟨gb395, 1, none⟩ = some (.slice Ao54 t392.length co54) ∧ w'.cell? ⟨gb375, 0, none⟩ = some (.int .i64 a1_0) ∧ w'.cell? ⟨gb375, 1, none⟩ = some (.slice A1_1 l1_1.length c1_1)) (ds := []) #[false, false, false, false, false] (by kernel_rfl) rfl rfl ⟨(blk_cell BK395.out 0).trans rfl, (blk_cell BK395.out 1).trans rfl, (blk_cell BK375.out 0).trans rfl, (blk_cell BK375.out 1).trans rfl⟩ (fun hHeld => ?_)
        generalize w76.drew = w77 at HO_391000 HO_396001 HO400 BK374 BK375 BK390 BK395 HB hHeld ⊢
        refine take_ (i := 0) (N := some 57) (v := ?_) (a' := ?_) #[true, false, false, false, false] rfl rfl (by kernel_rfl) (fun _ _ _ h => h) (Or.inl ⟨by rfl, ?_⟩) hHeld ?_ ?_
        rotate_left
        ·
         rintro w' ⟨s0, s1, s2, s3⟩
         go_simp
         with_reducible rfl
        rotate_left
        ·
         simp only [Act.put, List.setIfInBounds_toArray, List.set_cons_zero, List.set_cons_succ, i64_w, i32_w]
         rfl
        refine take_ (i := 1) (N := some 58) (v := ?_) (a' := ?_) #[true, true, false, false, false] rfl rfl (by kernel_rfl) (fun _ _ _ h => h) (Or.inl ⟨by rfl, ?_⟩) hHeld ?_ ?_
        rotate_left
        ·
         rintro w' ⟨s0, s1, s2, s3⟩
         go_simp
         with_reducible rfl
        rotate_left
        ·
         simp only [Act.put, List.setIfInBounds_toArray, List.set_cons_zero, List.set_cons_succ, i64_w, i32_w]
         rfl
        refine one_ (i := 2) (N := some 59) #[true, true, true, false, false] rfl rfl (by kernel_rfl) (by decide) (fun K hK => ?_)
        refine goes_ Try.func13 (by kernel_rfl) rfl #[.agg #[.int .i64 a1_0, .slice A1_1 l1_1.length c1_1]] (by rfl) rfl rfl (by (try simp only [List.map_toArray, List.map_cons, List.map_nil]); first | done | rfl | (simp only [List.length_drop, List.length_take]; rfl)) ?_
        with_reducible refine (laws_toModule.calls kj25 a1_0 _ _ l1_1 t402 t403 _ ?side1 ?side2 A62.out).mono ?_
        (case side1 => repeat (first | exact (Kd.C_below HR1_1.out HB.out) | (with_reducible refine Kd.C_alloc ?_ _) | (with_reducible refine Kd.C_drewN ?_ _) | (with_reducible refine Kd.C_drew ?_)))
        (case side2 => exact HC1_1.out)
        rintro e w78 ⟨v404, rfl, ho0, hb⟩
        refine ⟨_, rfl, ?_⟩
        have n0_ := Aside0.mk (Kd.S_elder' (by (with_reducible repeat (first | apply Kd.S_alloc | apply Kd.S_drewN | apply Kd.S_drew)); exact HO_391000.out) (Kd.R_base ho0) hb)
        have n1_ := Aside0.mk (Kd.R_elder' (by (with_reducible repeat (first | apply Kd.R_alloc | apply Kd.R_drewN | apply Kd.R_drew)); exact HO_396001.out) (Kd.R_base ho0) hb)
        have n2_ := Aside0.mk (Kd.S_elder' (by (with_reducible repeat (first | apply Kd.S_alloc | apply Kd.S_drewN | apply Kd.S_drew)); exact HO400.out) (Kd.R_base ho0) hb)
        have n3_ := Aside0.mk (Kd.R_lower (Kd.R_new' ho0 (Kd.R_lt (by (with_reducible repeat (first | apply Kd.R_alloc | apply Kd.R_drewN | apply Kd.R_drew)); exact HO_396001.out))) (below_size (by repeat (first | (with_reducible first | exact HB.out | apply below_alloc | apply pw_below_drewN | apply below_drew1 | refine below_set ?_ GE374.out | refine below_set ?_ GE375.out | refine below_set ?_ GE390.out | refine below_set ?_ GE395.out) | exact HB.out))))
        have n4_ := Aside0.mk (blk_below (g := gb374) (o := .cells #[.slice A0_0 l0_0.length c0_0] 24 (0, 0)) (by (with_reducible repeat (first | refine blk_drewN ?_ _ | refine blk_drew ?_ | refine blk_alloc ?_ _)); exact BK374.out) hb)
        have n5_ := Aside0.mk (blk_below (g := gb375) (o := .cells #[.int .i64 a1_0, .slice A1_1 l1_1.length c1_1] 27 (0, 0)) (by (with_reducible repeat (first | refine blk_drewN ?_ _ | refine blk_drew ?_ | refine blk_alloc ?_ _)); exact BK375.out) hb)
        have n6_ := Aside0.mk (blk_below (g := gb390) (o := .cells #[.slice Ao43 t387.length co43] 32 (0, 0)) (by (with_reducible repeat (first | refine blk_drewN ?_ _ | refine blk_drew ?_ | refine blk_alloc ?_ _)); exact BK390.out) hb)
        have n7_ := Aside0.mk (blk_below (g := gb395) (o := .cells #[.int .i64 t391, .slice Ao54 t392.length co54] 34 (0, 0)) (by (with_reducible repeat (first | refine blk_drewN ?_ _ | refine blk_drew ?_ | refine blk_alloc ?_ _)); exact BK395.out) hb)
        have n8_ := Aside0.mk (below_step (by repeat (first | (with_reducible first | exact HB.out | apply below_alloc | apply pw_below_drewN | apply below_drew1 | refine below_set ?_ GE374.out | refine below_set ?_ GE375.out | refine below_set ?_ GE390.out | refine below_set ?_ GE395.out) | exact HB.out)) hb)
        clear HO_391000
        clear HO_396001
        clear HO400
        clear BK374
        clear BK375
        clear BK390
        clear BK395
        clear HB
        have HO_391000 := n0_
        have HO_396001 := n1_
        have HO400 := n2_
        have HO405 := n3_
        have BK374 := n4_
        have BK375 := n5_
        have BK390 := n6_
        have BK395 := n7_
        have HB := n8_
        clear n0_ n1_ n2_ n3_ n4_ n5_ n6_ n7_ n8_
        (try clear hb)
        (try clear hb2)
        (try clear hk)
        (try clear hi)
        (try clear ho0)
        obtain ⟨Ao79, co79, eo79⟩ := Kd.R_slice HO405.out
        (first | subst eo79 | (injection eo79 with f1_ f2_ f3_; have f4_ := f1_.symm; have f5_ := f3_.symm; clear f1_ f2_ f3_; subst f4_; subst f5_))
        refine hK.out _ _ ⟨(blk_cell BK395.out 0).trans rfl, (blk_cell BK395.out 1).trans rfl, (blk_cell BK375.out 0).trans rfl, (blk_cell BK375.out 1).trans rfl⟩ (fun hHeld => ?_)
        clear hK K
        refine norm_ (a' := ?_) ?_ ?_
        rotate_left
        ·
         show Act.put _ (some 59) _ = _
         simp only [Act.put, List.setIfInBounds_toArray, List.set_cons_zero, List.set_cons_succ, i64_w, i32_w]
         rfl
        refine one_ (i := 3) (N := some 60) #[true, true, true, true, false] rfl rfl (by kernel_rfl) (by decide) (fun K hK => ?_)
        refine goes_ Try.func16 (by kernel_rfl) rfl #[.agg #[.int .i64 t391, .slice Ao54 t392.length co54], .agg #[.int .i64 t402, .slice Ao79 t403.length co79]] (by rfl) rfl rfl (by (try simp only [List.map_toArray, List.map_cons, List.map_nil]); first | done | rfl | (simp only [List.length_drop, List.length_take]; rfl)) ?_
        with_reducible refine (laws_eqModule.calls kj25 t391 _ _ t392 t402 _ _ t403 false _ ?side1 ?side2 ?side3 ?side4 A63.out).mono ?_
        (case side1 => repeat (first | exact (Kd.R_reads' HO_396001.out).2.2 | (with_reducible refine Kd.C_alloc ?_ _) | (with_reducible refine Kd.C_drewN ?_ _) | (with_reducible refine Kd.C_drew ?_)))
        (case side2 => exact (Kd.R_reads' HO_396001.out).2.1)
        (case side3 => repeat (first | exact (Kd.R_reads' HO405.out).2.2 | (with_reducible refine Kd.C_alloc ?_ _) | (with_reducible refine Kd.C_drewN ?_ _) | (with_reducible refine Kd.C_drew ?_)))
        (case side4 => exact (Kd.R_reads' HO405.out).2.1)
        rintro e w80 ⟨rfl, hb⟩
        refine ⟨_, rfl, ?_⟩
        have n0_ := Aside0.mk (Kd.S_below (by (with_reducible repeat (first | apply Kd.S_alloc | apply Kd.S_drewN | apply Kd.S_drew)); exact HO_391000.out) hb)
        have n1_ := Aside0.mk (Kd.R_below (by (with_reducible repeat (first | apply Kd.R_alloc | apply Kd.R_drewN | apply Kd.R_drew)); exact HO_396001.out) hb)
        have n2_ := Aside0.mk (Kd.S_below (by (with_reducible repeat (first | apply Kd.S_alloc | apply Kd.S_drewN | apply Kd.S_drew)); exact HO400.out) hb)
        have n3_ := Aside0.mk (Kd.R_below (by (with_reducible repeat (first | apply Kd.R_alloc | apply Kd.R_drewN | apply Kd.R_drew)); exact HO405.out) hb)
        have n4_ := Aside0.mk (blk_below (g := gb374) (o := .cells #[.slice A0_0 l0_0.length c0_0] 24 (0, 0)) (by (with_reducible repeat (first | refine blk_drewN ?_ _ | refine blk_drew ?_ | refine blk_alloc ?_ _)); exact BK374.out) hb)
        have n5_ := Aside0.mk (blk_below (g := gb375) (o := .cells #[.int .i64 a1_0, .slice A1_1 l1_1.length c1_1] 27 (0, 0)) (by (with_reducible repeat (first | refine blk_drewN ?_ _ | refine blk_drew ?_ | refine blk_alloc ?_ _)); exact BK375.out) hb)
        have n6_ := Aside0.mk (blk_below (g := gb390) (o := .cells #[.slice Ao43 t387.length co43] 32 (0, 0)) (by (with_reducible repeat (first | refine blk_drewN ?_ _ | refine blk_drew ?_ | refine blk_alloc ?_ _)); exact BK390.out) hb)
        have n7_ := Aside0.mk (blk_below (g := gb395) (o := .cells #[.int .i64 t391, .slice Ao54 t392.length co54] 34 (0, 0)) (by (with_reducible repeat (first | refine blk_drewN ?_ _ | refine blk_drew ?_ | refine blk_alloc ?_ _)); exact BK395.out) hb)
        have n8_ := Aside0.mk (below_step (by repeat (first | (with_reducible first | exact HB.out | apply below_alloc | apply pw_below_drewN | apply below_drew1 | refine below_set ?_ GE374.out | refine below_set ?_ GE375.out | refine below_set ?_ GE390.out | refine below_set ?_ GE395.out) | exact HB.out)) hb)
        clear HO_391000
        clear HO_396001
        clear HO400
        clear HO405
        clear BK374
        clear BK375
        clear BK390
        clear BK395
        clear HB
        have HO_391000 := n0_
        have HO_396001 := n1_
        have HO400 := n2_
        have HO405 := n3_
        have BK374 := n4_
        have BK375 := n5_
        have BK390 := n6_
        have BK395 := n7_
        have HB := n8_
        clear n0_ n1_ n2_ n3_ n4_ n5_ n6_ n7_ n8_
        (try clear hb)
        (try clear hb2)
        (try clear hk)
        (try clear hi)
        refine hK.out _ _ ⟨(blk_cell BK395.out 0).trans rfl, (blk_cell BK395.out 1).trans rfl, (blk_cell BK375.out 0).trans rfl, (blk_cell BK375.out 1).trans rfl⟩ (fun hHeld => ?_)
        clear hK K
        refine norm_ (a' := ?_) ?_ ?_
        rotate_left
        ·
         show Act.put _ (some 60) _ = _
         simp only [Act.put, List.setIfInBounds_toArray, List.set_cons_zero, List.set_cons_succ, i64_w, i32_w]
         rfl
        refine pure_ (i := 4) (N := some 61) (v := ?_) (a' := ?_) #[true, true, true, true, true] rfl rfl (by kernel_rfl) (fun _ _ _ h => h) (Or.inl ⟨by rfl, ?_⟩) ?_ ?_
        rotate_left
        ·
         intro w'
         go_simp
         with_reducible rfl
        rotate_left
        ·
         simp only [Act.put, List.setIfInBounds_toArray, List.set_cons_zero, List.set_cons_succ, i64_w, i32_w]
         rfl
        refine done_ (by kernel_rfl) ?_
        try go_wp2
        go_ret
        exact ⟨by first | rfl | (simp [errW_none, errW_some] <;> rfl) | (simp [*, errW_none, errW_some] <;> rfl), by repeat (first | (with_reducible first | exact HB.out | apply below_alloc | apply pw_below_drewN | apply below_drew1 | refine below_set ?_ GE374.out | refine below_set ?_ GE375.out | refine below_set ?_ GE390.out | refine below_set ?_ GE395.out) | exact HB.out)⟩
      ·
       replace c61 := Bool.eq_false_iff.mpr c61
       subst c61
       have H1 : (some false) = some r := by rw [if_neg (show ¬ (false = true) by decide)] at H; exact H
       clear H
       have H := H1
       clear H1
       obtain rfl := Option.some.inj H
       try go_wp2
       have n0_ := Aside0.mk (Kd.S_drew HO_391000.out)
       have n1_ := Aside0.mk (Kd.R_drew HO_396001.out)
       have n2_ := Aside0.mk (blk_drew BK374.out)
       have n3_ := Aside0.mk (blk_drew BK375.out)
       have n4_ := Aside0.mk (blk_drew BK390.out)
       have n5_ := Aside0.mk (blk_drew BK395.out)
       have n6_ := Aside0.mk (below_drew1 HB.out)
       clear HO_391000
       clear HO_396001
       clear BK374
       clear BK375
       clear BK390
       clear BK395
       clear HB
       have HO_391000 := n0_
       have HO_396001 := n1_
       have BK374 := n2_
       have BK375 := n3_
       have BK390 := n4_
       have BK395 := n5_
       have HB := n6_
       clear n0_ n1_ n2_ n3_ n4_ n5_ n6_
       refine start_ (n := 5) (S := fun w' => w'.cell? ⟨gb390, 0, none⟩ = some (.slice Ao43 t387.length co43) ∧ w'.cell? ⟨gb374, 0, none⟩ = some (.slice A0_0 l0_0.length c0_0)) (ds := []) #[false, false, false, false, false] (by kernel_rfl) rfl rfl ⟨(blk_cell BK390.out 0).trans rfl, (blk_cell BK374.out 0).trans rfl⟩ (fun hHeld => ?_)
       generalize wc.drew = w81 at HO_391000 HO_396001 BK374 BK375 BK390 BK395 HB hHeld ⊢
       refine take_ (i := 0) (N := some 52) (v := ?_) (a' := ?_) #[true, false, false, false, false] rfl rfl (by kernel_rfl) (fun _ _ _ h => h) (Or.inl ⟨by rfl, ?_⟩) hHeld ?_ ?_
       rotate_left
       ·
        rintro w' ⟨s0, s1⟩
        go_simp
        with_reducible rfl
       rotate_left
       ·
        simp only [Act.put, List.setIfInBounds_toArray, List.set_cons_zero, List.set_cons_succ, i64_w, i32_w]
        rfl
       refine take_ (i := 1) (N := some 53) (v := ?_) (a' := ?_) #[true, true, false, false, false] rfl rfl (by kernel_rfl) (fun _ _ _ h => h) (Or.inl ⟨by rfl, ?_⟩) hHeld ?_ ?_
       rotate_left
       ·
        rintro w' ⟨s0, s1⟩
        go_simp
        with_reducible rfl
       rotate_left
       ·
        simp only [Act.put, List.setIfInBounds_toArray, List.set_cons_zero, List.set_cons_succ, i64_w, i32_w]
        rfl
       refine one_ (i := 2) (N := some 54) #[true, true, true, false, false] rfl rfl (by kernel_rfl) (by decide) (fun K hK => ?_)
       refine goes_ Try.func12 (by kernel_rfl) rfl #[.agg #[.slice A0_0 l0_0.length c0_0]] (by rfl) rfl rfl (by (try simp only [List.map_toArray, List.map_cons, List.map_nil]); first | done | rfl | (simp only [List.length_drop, List.length_take]; rfl)) ?_
       with_reducible refine (laws_toGroup.calls kj25 _ _ l0_0 t398 _ ?side1 ?side2 A59.out).mono ?_
       (case side1 => repeat (first | exact (Kd.C_below HR0_0.out HB.out) | (with_reducible refine Kd.C_alloc ?_ _) | (with_reducible refine Kd.C_drewN ?_ _) | (with_reducible refine Kd.C_drew ?_)))
       (case side2 => exact HC0_0.out)
       rintro e w82 ⟨v399, rfl, ho0, hb⟩
       refine ⟨_, rfl, ?_⟩
       have n0_ := Aside0.mk (Kd.S_elder' (by (with_reducible repeat (first | apply Kd.S_alloc | apply Kd.S_drewN | apply Kd.S_drew)); exact HO_391000.out) (Kd.S_base ho0) hb)
       have n1_ := Aside0.mk (Kd.R_below (by (with_reducible repeat (first | apply Kd.R_alloc | apply Kd.R_drewN | apply Kd.R_drew)); exact HO_396001.out) hb)
       have n2_ := Aside0.mk (Kd.S_lower (Kd.S_new' (Kd.S_new' ho0 (Kd.S_lt (by (with_reducible repeat (first | apply Kd.S_alloc | apply Kd.S_drewN | apply Kd.S_drew)); exact HO_391000.out))) (Kd.R_lt (by (with_reducible repeat (first | apply Kd.R_alloc | apply Kd.R_drewN | apply Kd.R_drew)); exact HO_396001.out))) (below_size (by repeat (first | (with_reducible first | exact HB.out | apply below_alloc | apply pw_below_drewN | apply below_drew1 | refine below_set ?_ GE374.out | refine below_set ?_ GE375.out | refine below_set ?_ GE390.out | refine below_set ?_ GE395.out) | exact HB.out))))
       have n3_ := Aside0.mk (blk_below (g := gb374) (o := .cells #[.slice A0_0 l0_0.length c0_0] 24 (0, 0)) (by (with_reducible repeat (first | refine blk_drewN ?_ _ | refine blk_drew ?_ | refine blk_alloc ?_ _)); exact BK374.out) hb)
       have n4_ := Aside0.mk (blk_below (g := gb375) (o := .cells #[.int .i64 a1_0, .slice A1_1 l1_1.length c1_1] 27 (0, 0)) (by (with_reducible repeat (first | refine blk_drewN ?_ _ | refine blk_drew ?_ | refine blk_alloc ?_ _)); exact BK375.out) hb)
       have n5_ := Aside0.mk (blk_below (g := gb390) (o := .cells #[.slice Ao43 t387.length co43] 32 (0, 0)) (by (with_reducible repeat (first | refine blk_drewN ?_ _ | refine blk_drew ?_ | refine blk_alloc ?_ _)); exact BK390.out) hb)
       have n6_ := Aside0.mk (blk_below (g := gb395) (o := .cells #[.int .i64 t391, .slice Ao54 t392.length co54] 34 (0, 0)) (by (with_reducible repeat (first | refine blk_drewN ?_ _ | refine blk_drew ?_ | refine blk_alloc ?_ _)); exact BK395.out) hb)
       have n7_ := Aside0.mk (below_step (by repeat (first | (with_reducible first | exact HB.out | apply below_alloc | apply pw_below_drewN | apply below_drew1 | refine below_set ?_ GE374.out | refine below_set ?_ GE375.out | refine below_set ?_ GE390.out | refine below_set ?_ GE395.out) | exact HB.out)) hb)
       clear HO_391000
       clear HO_396001
       clear BK374
       clear BK375
       clear BK390
       clear BK395
       clear HB
       have HO_391000 := n0_
       have HO_396001 := n1_
       have HO400 := n2_
       have BK374 := n3_
       have BK375 := n4_
       have BK390 := n5_
       have BK395 := n6_
       have HB := n7_
       clear n0_ n1_ n2_ n3_ n4_ n5_ n6_ n7_
       (try clear hb)
       (try clear hb2)
       (try clear hk)
       (try clear hi)
       (try clear ho0)
       obtain ⟨Ao83, co83, eo83⟩ := Kd.S_slice HO400.out
       (first | subst eo83 | (injection eo83 with f1_ f2_ f3_; have f4_ := f1_.symm; have f5_ := f3_.symm; clear f1_ f2_ f3_; subst f4_; subst f5_))
       refine hK.out _ _ ⟨(blk_cell BK390.out 0).trans rfl, (blk_cell BK374.out 0).trans rfl⟩ (fun hHeld => ?_)
       clear hK K
       refine norm_ (a' := ?_) ?_ ?_
       rotate_left
       ·
        show Act.put _ (some 54) _ = _
        simp only [Act.put, List.setIfInBounds_toArray, List.set_cons_zero, List.set_cons_succ, i64_w, i32_w]
        rfl
       refine one_ (i := 3) (N := some 55) #[true, true, true, true, false] rfl rfl (by kernel_rfl) (by decide) (fun K hK => ?_)
       refine goes_ Try.func15 (by kernel_rfl) rfl #[.agg #[.slice Ao43 t387.length co43], .agg #[.slice Ao83 t398.length co83]] (by rfl) rfl rfl (by (try simp only [List.map_toArray, List.map_cons, List.map_nil]); first | done | rfl | (simp only [List.length_drop, List.length_take]; rfl)) ?_
       with_reducible refine (laws_eqGroup.calls kj25 _ _ t387 _ _ t398 false _ ?side1 ?side2 ?side3 ?side4 A60.out).mono ?_
       (case side1 => repeat (first | exact (Kd.S_reads' HO_391000.out).2.2 | (with_reducible refine Kd.C_alloc ?_ _) | (with_reducible refine Kd.C_drewN ?_ _) | (with_reducible refine Kd.C_drew ?_)))
       (case side2 => exact (Kd.S_reads' HO_391000.out).2.1)
       (case side3 => repeat (first | exact (Kd.S_reads' HO400.out).2.2 | (with_reducible refine Kd.C_alloc ?_ _) | (with_reducible refine Kd.C_drewN ?_ _) | (with_reducible refine Kd.C_drew ?_)))
       (case side4 => exact (Kd.S_reads' HO400.out).2.1)
       rintro e w84 ⟨rfl, hb⟩
       refine ⟨_, rfl, ?_⟩
       have n0_ := Aside0.mk (Kd.S_below (by (with_reducible repeat (first | apply Kd.S_alloc | apply Kd.S_drewN | apply Kd.S_drew)); exact HO_391000.out) hb)
       have n1_ := Aside0.mk (Kd.R_below (by (with_reducible repeat (first | apply Kd.R_alloc | apply Kd.R_drewN | apply Kd.R_drew)); exact HO_396001.out) hb)
       have n2_ := Aside0.mk (Kd.S_below (by (with_reducible repeat (first | apply Kd.S_alloc | apply Kd.S_drewN | apply Kd.S_drew)); exact HO400.out) hb)
       have n3_ := Aside0.mk (blk_below (g := gb374) (o := .cells #[.slice A0_0 l0_0.length c0_0] 24 (0, 0)) (by (with_reducible repeat (first | refine blk_drewN ?_ _ | refine blk_drew ?_ | refine blk_alloc ?_ _)); exact BK374.out) hb)
       have n4_ := Aside0.mk (blk_below (g := gb375) (o := .cells #[.int .i64 a1_0, .slice A1_1 l1_1.length c1_1] 27 (0, 0)) (by (with_reducible repeat (first | refine blk_drewN ?_ _ | refine blk_drew ?_ | refine blk_alloc ?_ _)); exact BK375.out) hb)
       have n5_ := Aside0.mk (blk_below (g := gb390) (o := .cells #[.slice Ao43 t387.length co43] 32 (0, 0)) (by (with_reducible repeat (first | refine blk_drewN ?_ _ | refine blk_drew ?_ | refine blk_alloc ?_ _)); exact BK390.out) hb)
       have n6_ := Aside0.mk (blk_below (g := gb395) (o := .cells #[.int .i64 t391, .slice Ao54 t392.length co54] 34 (0, 0)) (by (with_reducible repeat (first | refine blk_drewN ?_ _ | refine blk_drew ?_ | refine blk_alloc ?_ _)); exact BK395.out) hb)
       have n7_ := Aside0.mk (below_step (by repeat (first | (with_reducible first | exact HB.out | apply below_alloc | apply pw_below_drewN | apply below_drew1 | refine below_set ?_ GE374.out | refine below_set ?_ GE375.out | refine below_set ?_ GE390.out | refine below_set ?_ GE395.out) | exact HB.out)) hb)
       clear HO_391000
       clear HO_396001
       clear HO400
       clear BK374
       clear BK375
       clear BK390
       clear BK395
       clear HB
       have HO_391000 := n0_
       have HO_396001 := n1_
       have HO400 := n2_
       have BK374 := n3_
       have BK375 := n4_
       have BK390 := n5_
       have BK395 := n6_
       have HB := n7_
       clear n0_ n1_ n2_ n3_ n4_ n5_ n6_ n7_
       (try clear hb)
       (try clear hb2)
       (try clear hk)
       (try clear hi)
       refine hK.out _ _ ⟨(blk_cell BK390.out 0).trans rfl, (blk_cell BK374.out 0).trans rfl⟩ (fun hHeld => ?_)
       clear hK K
       refine norm_ (a' := ?_) ?_ ?_
       rotate_left
       ·
        show Act.put _ (some 55) _ = _
        simp only [Act.put, List.setIfInBounds_toArray, List.set_cons_zero, List.set_cons_succ, i64_w, i32_w]
        rfl
       refine pure_ (i := 4) (N := some 56) (v := ?_) (a' := ?_) #[true, true, true, true, true] rfl rfl (by kernel_rfl) (fun _ _ _ h => h) (Or.inl ⟨by rfl, ?_⟩) ?_ ?_
       rotate_left
       ·
        intro w'
        go_simp
        with_reducible rfl
       rotate_left
       ·
        simp only [Act.put, List.setIfInBounds_toArray, List.set_cons_zero, List.set_cons_succ, i64_w, i32_w]
        rfl
       refine done_ (by kernel_rfl) ?_
       try go_wp2
       go_ret
       exact ⟨by first | rfl | (simp [errW_none, errW_some] <;> rfl) | (simp [*, errW_none, errW_some] <;> rfl), by repeat (first | (with_reducible first | exact HB.out | apply below_alloc | apply pw_below_drewN | apply below_drew1 | refine below_set ?_ GE374.out | refine below_set ?_ GE375.out | refine below_set ?_ GE390.out | refine below_set ?_ GE395.out) | exact HB.out)⟩
end Go.Proofs.Ytfablaokggnioaa.Pa
set_option linter.unusedVariables false
namespace Go.Proofs.Ytfablaokggnioaa.U
open Go.RowKit Go.Proofs.YtfablaokggnioaaW.PrintWords Go.Proofs.YtfablaokggnioaaW.PrintLast Go.Proofs.YtfablaokggnioaaW.PrintMore
theorem w64 {x : Int} (h0 : -9223372036854775808 ≤ x) (h1 : x ≤ 9223372036854775807) : wrap64 x = x := by unfold wrap64; omega
theorem w64s {i n : Int} (h0 : 0 ≤ i) (h : i < n) (hn : n ≤ 9223372036854775807) : wrap64 (i + 1) = i + 1 := w64 (by omega) (by omega)
theorem ev_now {α : Type} {g : Nat → Option α} {r : α} (h : ∀ k, g k = some r) : Ev g r := ⟨0, fun k _ => h k⟩
theorem ev_step_now {α : Type} {g : Nat → Option α} {r : α} (h : ∀ k, g (k + 1) = some r) : Ev g r := Ev.step (f := fun _ => some r) h (ev_now fun _ => rfl)
theorem ev_step_bind {α β : Type} {g : Nat → Option β} {c : Nat → Option α} {f : Nat → α → Option β} {a : α} {r : β} (h : ∀ k, g (k + 1) = (c k).bind (f k)) (hc : Ev c a) (k : Ev (fun n => f n a) r) : Ev g r := Ev.step h (Ev.bind hc k)
theorem ev_bind {α β : Type} {g : Nat → Option β} {c : Nat → Option α} {f : Nat → α → Option β} {a : α} {r : β} (h : ∀ k, g k = (c k).bind (f k)) (hc : Ev c a) (k : Ev (fun n => f n a) r) : Ev g r := Ev.congr h (Ev.bind hc k)
theorem scan {R : Type} (n : Nat) (L : Int → Nat → Option R) (P : Int → Prop) (bad : R)
    (hs : ∀ i : Int, 0 ≤ i → i < n → (∀ j : Int, 0 ≤ j → j < i → P j) → (P i ∧ ∀ r, Ev (L (i + 1)) r → Ev (L i) r) ∨ (¬ P i ∧ Ev (L i) bad)) :
    ((∀ j : Int, 0 ≤ j → j < n → P j) ∧ ∀ r, Ev (L n) r → Ev (L 0) r) ∨ ((∃ j : Int, 0 ≤ j ∧ j < n ∧ ¬ P j) ∧ Ev (L 0) bad) := by
  suffices H : ∀ d m : Nat, m + d = n → (∀ j : Int, 0 ≤ j → j < m → P j) →
      ((∀ j : Int, 0 ≤ j → j < n → P j) ∧ ∀ r, Ev (L n) r → Ev (L m) r) ∨ ((∃ j : Int, 0 ≤ j ∧ j < n ∧ ¬ P j) ∧ Ev (L m) bad) by
    simpa using H n 0 (by omega) (fun j h0 h1 => by omega)
  intro d
  induction d with
  | zero =>
    intro m hm hp
    have : (m : Int) = n := by omega
    rw [this] at hp ⊢
    exact .inl ⟨hp, fun r h => h⟩
  | succ d ih =>
    intro m hm hp
    rcases hs m (by omega) (by omega) hp with ⟨h1, h2⟩ | ⟨h1, h2⟩
    · have hp' : ∀ j : Int, 0 ≤ j → j < ((m + 1 : Nat) : Int) → P j := fun j h0 hj => by
        by_cases e : j = m
        · rw [e]; exact h1
        · exact hp j h0 (by omega)
      rcases ih (m + 1) (by omega) hp' with ⟨h3, h4⟩ | ⟨h3, h4⟩
      · exact .inl ⟨h3, fun r h => h2 r (by have := h4 r h; rwa [Int.natCast_add, Int.natCast_one] at this)⟩
      · exact .inr ⟨h3, h2 _ (by rwa [Int.natCast_add, Int.natCast_one] at h4)⟩
    · exact .inr ⟨⟨m, by omega, by omega, h1⟩, h2⟩
theorem fold {R σ : Type} (n : Nat) (L : Int → σ → Nat → Option R) (F : Nat → σ)
    (hs : ∀ i : Nat, i < n → ∀ r, Ev (L ((i + 1 : Nat) : Int) (F (i + 1))) r → Ev (L (i : Int) (F i)) r) : ∀ r, Ev (L n (F n)) r → Ev (L 0 (F 0)) r := by
  suffices H : ∀ d m : Nat, m + d = n → ∀ r, Ev (L n (F n)) r → Ev (L m (F m)) r by
    intro r h
    exact H n 0 (by omega) r h
  intro d
  induction d with
  | zero =>
    intro m hm r h
    have : m = n := by omega
    rwa [this]
  | succ d ih => exact fun m hm r h => hs m (by omega) r (ih (m + 1) (by omega) r h)
noncomputable def B (p : Prop) : Bool := @decide p (Classical.propDecidable p)
theorem B_pos {p : Prop} (h : p) : B p = true := by unfold B; simp [h]
theorem B_neg {p : Prop} (h : ¬ p) : B p = false := by unfold B; simp [h]
theorem B_congr {p q : Prop} (h : p ↔ q) : B p = B q := by rw [show p = q from propext h]
theorem B_decide (p : Prop) [Decidable p] : decide p = B p := by by_cases h : p <;> simp [h, B]
theorem B_true : B True = true := B_pos trivial
theorem scanB (n : Nat) (L : Int → Nat → Option Bool) (P : Int → Prop) (Q : Prop)
    (hs : ∀ i : Int, 0 ≤ i → i < n → (∀ j : Int, 0 ≤ j → j < i → P j) → (P i ∧ ∀ r, Ev (L (i + 1)) r → Ev (L i) r) ∨ (¬ P i ∧ Ev (L i) false))
    (he : (∀ j : Int, 0 ≤ j → j < n → P j) → Ev (L n) (B Q)) : Ev (L 0) (B ((∀ j : Int, 0 ≤ j → j < n → P j) ∧ Q)) := by
  rcases scan n L P false hs with ⟨h1, h2⟩ | ⟨⟨j, h0, h1, h2⟩, h3⟩
  · rw [B_congr (show ((∀ j : Int, 0 ≤ j → j < n → P j) ∧ Q) ↔ Q from ⟨fun h => h.2, fun h => ⟨h1, h⟩⟩)]
    exact h2 _ (he h1)
  · rw [B_neg fun h => h2 (h.1 j h0 h1)]
    exact h3
theorem scanT (n : Nat) (L : Int → Nat → Option Bool) (P : Int → Prop)
    (hs : ∀ i : Int, 0 ≤ i → i < n → (∀ j : Int, 0 ≤ j → j < i → P j) → (P i ∧ ∀ r, Ev (L (i + 1)) r → Ev (L i) r) ∨ (¬ P i ∧ Ev (L i) false))
    (he : (∀ j : Int, 0 ≤ j → j < n → P j) → Ev (L n) true) : Ev (L 0) (B (∀ j : Int, 0 ≤ j → j < n → P j)) := by
  have := scanB n L P True hs (fun h => by rw [B_true]; exact he h)
  rwa [B_congr (show ((∀ j : Int, 0 ≤ j → j < n → P j) ∧ True) ↔ _ from ⟨fun h => h.1, fun h => ⟨h, trivial⟩⟩)] at this
theorem ext_rd {xs ys : List Int} (hl : xs.length = ys.length) (h : ∀ i : Int, 0 ≤ i → i < xs.length → rd xs i = rd ys i) : xs = ys := by
  apply List.ext_getElem hl
  intro i h1 h2
  have := h i (by omega) (by omega)
  simpa [rd, List.getD_eq_getElem?_getD, List.getElem?_eq_getElem h1, List.getElem?_eq_getElem h2] using this
end Go.Proofs.Ytfablaokggnioaa.U
set_option linter.unusedVariables false
set_option linter.unusedSimpArgs false
namespace Go.Proofs.Ytfablaokggnioaa.U
open Go.RowKit Go.Proofs.YtfablaokggnioaaW.PrintWords Go.Proofs.YtfablaokggnioaaW.PrintLast Go.Proofs.YtfablaokggnioaaW.PrintMore Go.Proofs.Ytfablaokggnioaa.Pa
theorem maxLen_le : maxLen ≤ 9223372036854775807 := by unfold maxLen; omega
def AllIn (n : Int) (xs : List Int) : Prop := ∀ i : Int, 0 ≤ i → i < xs.length → 0 ≤ rd xs i ∧ rd xs i < n
theorem ev_areIn (n : Int) (xs : List Int) (hl : xs.length ≤ maxLen) : Ev (fun k => impl_areIn.f k n xs) (B (AllIn n xs)) := by
  have hm := maxLen_le
  unfold impl_areIn.f
  refine scanT xs.length (fun i k => impl_areIn.l0 k n xs (xs.length : Int) i) (fun i => 0 ≤ rd xs i ∧ rd xs i < n) (fun i h0 h1 _ => ?_) (fun _ => ?_)
  · have hw : wrap64 (i + 1) = i + 1 := w64s h0 h1 (by omega)
    by_cases h2 : rd xs i < 0
    · exact .inr ⟨by omega, ev_step_now fun k => by simp only [impl_areIn.l0, h0, h1, h2, ↓reduceIte]⟩
    · by_cases h3 : rd xs i ≥ n
      · exact .inr ⟨by omega, ev_step_now fun k => by simp only [impl_areIn.l0, h0, h1, h2, h3, ↓reduceIte]⟩
      · exact .inl ⟨by omega, fun r h => Ev.step (fun k => by simp only [impl_areIn.l0, h0, h1, h2, h3, hw, ↓reduceIte]) h⟩
  · exact ev_step_now fun k => by simp only [impl_areIn.l0, Int.lt_irrefl, ↓reduceIte]
theorem ev_index (xs : List Int) (x : Int) (hl : xs.length ≤ maxLen) :
    ((∀ i : Int, 0 ≤ i → i < xs.length → rd xs i ≠ x) ∧ Ev (fun k => slices_Index_int64_int64.f k xs x) (-1)) ∨
    ∃ i : Int, 0 ≤ i ∧ i < xs.length ∧ rd xs i = x ∧ (∀ j : Int, 0 ≤ j → j < i → rd xs j ≠ x) ∧ Ev (fun k => slices_Index_int64_int64.f k xs x) i := by
  have hm := maxLen_le
  unfold slices_Index_int64_int64.f
  suffices H : ∀ d m : Nat, m + d = xs.length → (∀ j : Int, 0 ≤ j → j < m → rd xs j ≠ x) →
      ((∀ i : Int, 0 ≤ i → i < xs.length → rd xs i ≠ x) ∧ Ev (fun k => slices_Index_int64_int64.l0 k xs x (xs.length : Int) m) (-1)) ∨
      ∃ i : Int, 0 ≤ i ∧ i < xs.length ∧ rd xs i = x ∧ (∀ j : Int, 0 ≤ j → j < i → rd xs j ≠ x) ∧ Ev (fun k => slices_Index_int64_int64.l0 k xs x (xs.length : Int) m) i from
    H xs.length 0 (by omega) (fun j h0 h1 => by omega)
  intro d
  induction d with
  | zero =>
    intro m hd hp
    obtain rfl : m = xs.length := by omega
    exact .inl ⟨hp, ev_step_now fun k => by simp only [slices_Index_int64_int64.l0, Int.lt_irrefl, ↓reduceIte]⟩
  | succ d ih =>
    intro m hd hp
    have h1 : (m : Int) < xs.length := by omega
    have h0 : (0 : Int) ≤ m := by omega
    have hw : wrap64 ((m : Int) + 1) = ((m + 1 : Nat) : Int) := by rw [w64s h0 h1 (by omega)]; omega
    by_cases h2 : x = rd xs m
    · exact .inr ⟨m, h0, h1, h2.symm, hp, ev_step_now fun k => by simp only [slices_Index_int64_int64.l0, h1, h0, ← h2, ↓reduceIte]⟩
    · have st : ∀ r, Ev (fun k => slices_Index_int64_int64.l0 k xs x (xs.length : Int) ((m + 1 : Nat) : Int)) r → Ev (fun k => slices_Index_int64_int64.l0 k xs x (xs.length : Int) m) r := fun r h =>
        Ev.step (fun k => by simp only [slices_Index_int64_int64.l0, h1, h0, h2, hw, ↓reduceIte]) h
      have hp' : ∀ j : Int, 0 ≤ j → j < ((m + 1 : Nat) : Int) → rd xs j ≠ x := fun j k0 k1 => by
        by_cases e : j = m
        · rw [e]; exact fun h => h2 h.symm
        · exact hp j k0 (by omega)
      rcases ih (m + 1) (by omega) hp' with ⟨a, b⟩ | ⟨i, a1, a2, a3, a4, b⟩
      · exact .inl ⟨a, st _ b⟩
      · exact .inr ⟨i, a1, a2, a3, a4, st _ b⟩
theorem ev_contains (xs : List Int) (x : Int) (hl : xs.length ≤ maxLen) : Ev (fun k => slices_Contains_int64_int64.f k xs x) (B (∃ i : Int, 0 ≤ i ∧ i < xs.length ∧ rd xs i = x)) := by
  unfold slices_Contains_int64_int64.f
  rcases ev_index xs x hl with ⟨h, e⟩ | ⟨i, h0, h1, h2, _, e⟩
  · rw [B_neg fun ⟨i, h0, h1, h2⟩ => h i h0 h1 h2]
    exact Ev.bind e (ev_now fun k => by simp)
  · rw [B_pos ⟨i, h0, h1, h2⟩]
    exact Ev.bind e (ev_now fun k => by simp [h0])
def T (g : List (List Int)) (a b : Int) : Int := rd (rd_Li64 g a) b
structure Grp (g : List (List Int)) : Prop where
  n1 : 1 ≤ g.length
  n8 : g.length ≤ 8
  row : ∀ a : Int, 0 ≤ a → a < g.length → (rd_Li64 g a).length = g.length
  ent : ∀ a b : Int, 0 ≤ a → a < g.length → 0 ≤ b → b < g.length → 0 ≤ T g a b ∧ T g a b < g.length
  one : ∀ a : Int, 0 ≤ a → a < g.length → T g 0 a = a
  one' : ∀ a : Int, 0 ≤ a → a < g.length → T g a 0 = a
  assoc : ∀ a b c : Int, 0 ≤ a → a < g.length → 0 ≤ b → b < g.length → 0 ≤ c → c < g.length → T g (T g a b) c = T g a (T g b c)
  inv : ∀ a : Int, 0 ≤ a → a < g.length → ∃ b : Int, 0 ≤ b ∧ b < g.length ∧ T g a b = 0
theorem Grp.inv2 {g : List (List Int)} (h : Grp g) {a : Int} (h0 : 0 ≤ a) (h1 : a < g.length) : ∃ b : Int, 0 ≤ b ∧ b < g.length ∧ T g a b = 0 ∧ T g b a = 0 := by
  obtain ⟨b, b0, b1, hb⟩ := h.inv a h0 h1
  obtain ⟨c, c0, c1, hc⟩ := h.inv b b0 b1
  refine ⟨b, b0, b1, hb, ?_⟩
  have hac : c = a := by
    have e1 := h.assoc a b c h0 h1 b0 b1 c0 c1
    rw [hb, hc, h.one c c0 c1, h.one' a h0 h1] at e1
    exact e1
  rw [← hac]; exact hc
theorem rows_len {g : List (List Int)} (hr : ∀ r ∈ g, r.length ≤ maxLen) {a : Int} (h0 : 0 ≤ a) (h1 : a < g.length) : (rd_Li64 g a).length ≤ maxLen := by
  have h : a.toNat < g.length := by omega
  have : rd_Li64 g a ∈ g := by
    unfold rd_Li64
    rw [List.getD_eq_getElem?_getD, List.getElem?_eq_getElem h]
    exact List.getElem_mem h
  exact hr _ this
def Tab (g : List (List Int)) : Prop := ∀ a : Int, 0 ≤ a → a < g.length → (rd_Li64 g a).length = g.length ∧ AllIn g.length (rd_Li64 g a)
def Law (g : List (List Int)) (a : Int) : Prop := T g 0 a = a ∧ T g a 0 = a ∧ (∃ b : Int, 0 ≤ b ∧ b < g.length ∧ T g a b = 0) ∧ ∀ b : Int, 0 ≤ b → b < g.length → ∀ c : Int, 0 ≤ c → c < g.length → T g (T g a b) c = T g a (T g b c)
theorem grp_iff (g : List (List Int)) : Grp g ↔ (1 ≤ g.length ∧ g.length ≤ 8) ∧ Tab g ∧ ∀ a : Int, 0 ≤ a → a < g.length → Law g a := by
  constructor
  · intro h
    refine ⟨⟨h.n1, h.n8⟩, fun a h0 h1 => ⟨h.row a h0 h1, fun i i0 i1 => ?_⟩, fun a h0 h1 => ⟨h.one a h0 h1, h.one' a h0 h1, h.inv a h0 h1, fun b b0 b1 c c0 c1 => h.assoc a b c h0 h1 b0 b1 c0 c1⟩⟩
    have := h.row a h0 h1
    exact h.ent a i h0 h1 i0 (by omega)
  · rintro ⟨⟨h1, h8⟩, ht, hl⟩
    refine ⟨h1, h8, fun a a0 a1 => (ht a a0 a1).1, fun a b a0 a1 b0 b1 => ?_, fun a a0 a1 => (hl a a0 a1).1, fun a a0 a1 => (hl a a0 a1).2.1, fun a b c a0 a1 b0 b1 c0 c1 => (hl a a0 a1).2.2.2 b b0 b1 c c0 c1, fun a a0 a1 => (hl a a0 a1).2.2.1⟩
    have := (ht a a0 a1).1
    exact (ht a a0 a1).2 b b0 (by omega)
theorem ev_IsGroup (g : List (List Int)) (hl : g.length ≤ maxLen) (hr : ∀ r ∈ g, r.length ≤ maxLen) : Ev (fun k => impl_IsGroup.f k g) (B (Grp g)) := by
  have hm := maxLen_le
  rw [B_congr (grp_iff g)]
  unfold impl_IsGroup.f impl_order.f
  simp only [Option.bind_some]
  by_cases c1 : (g.length : Int) < 1
  · rw [B_neg fun h => by omega]
    simp only [c1, ↓reduceIte]
    exact ev_step_now fun k => by simp only [impl_IsGroup.j0, ↓reduceIte]
  simp only [c1, ↓reduceIte]
  by_cases c2 : (g.length : Int) > 8
  · rw [B_neg fun h => by omega]
    refine ev_step_now fun k => by simp only [impl_IsGroup.j0, c2, decide_true, ↓reduceIte]
  rw [B_congr (show ((1 ≤ g.length ∧ g.length ≤ 8) ∧ Tab g ∧ ∀ a : Int, 0 ≤ a → a < g.length → Law g a) ↔ (Tab g ∧ ∀ a : Int, 0 ≤ a → a < g.length → Law g a) from ⟨fun h => h.2, fun h => ⟨by omega, h⟩⟩)]
  have hpos : (0 : Int) < g.length := by omega
  refine Ev.step (f := fun k => impl_IsGroup.l0 k (g.length : Int) g (g.length : Int) 0 g) (fun k => by simp [impl_IsGroup.j0, c2]) ?_
  refine scanB g.length (fun i k => impl_IsGroup.l0 k (g.length : Int) g (g.length : Int) i g) (fun a => (rd_Li64 g a).length = g.length ∧ AllIn g.length (rd_Li64 g a)) (∀ a : Int, 0 ≤ a → a < g.length → Law g a) (fun i h0 h1 _ => ?_) (fun ht => ?_)
  · have hw : wrap64 (i + 1) = i + 1 := w64s h0 h1 (by omega)
    by_cases h2 : ((rd_Li64 g i).length : Int) = g.length
    · have ha := ev_areIn g.length (rd_Li64 g i) (rows_len hr h0 h1)
      by_cases h3 : AllIn g.length (rd_Li64 g i)
      · rw [B_pos h3] at ha
        refine .inl ⟨⟨by omega, h3⟩, fun r h => ev_step_bind (fun k => by simp only [impl_IsGroup.l0, h0, h1, h2, ↓reduceIte]; rfl) ha ?_⟩
        simp only [hw, ↓reduceIte]; exact h
      · rw [B_neg h3] at ha
        refine .inr ⟨fun h => h3 h.2, ev_step_bind (fun k => by simp only [impl_IsGroup.l0, h0, h1, h2, ↓reduceIte]; rfl) ha ?_⟩
        exact ev_now fun k => by simp
    · exact .inr ⟨fun h => h2 (by omega), ev_step_now fun k => by simp only [impl_IsGroup.l0, h0, h1, h2, ↓reduceIte]⟩
  · refine Ev.step (f := fun k => impl_IsGroup.l1 k (g.length : Int) (g.length : Int) 0 g) (fun k => by simp only [impl_IsGroup.l0, Int.lt_irrefl, ↓reduceIte]) ?_
    refine scanT g.length (fun i k => impl_IsGroup.l1 k (g.length : Int) (g.length : Int) i g) (Law g) (fun a a0 a1 _ => ?_) (fun _ => ev_step_now fun k => by simp only [impl_IsGroup.l1, Int.lt_irrefl, ↓reduceIte])
    have hlen : ∀ x : Int, 0 ≤ x → x < g.length → ((rd_Li64 g x).length : Int) = g.length := fun x x0 x1 => by rw [(ht x x0 x1).1]
    have hent : ∀ x y : Int, 0 ≤ x → x < g.length → 0 ≤ y → y < g.length → 0 ≤ rd (rd_Li64 g x) y ∧ rd (rd_Li64 g x) y < g.length := fun x y x0 x1 y0 y1 => (ht x x0 x1).2 y y0 (by rw [hlen x x0 x1]; exact y1)
    have l0 := hlen 0 (by omega) hpos
    have la := hlen a a0 a1
    have hwa : wrap64 (a + 1) = a + 1 := w64s a0 a1 (by omega)
    have bad : Ev (fun k => impl_IsGroup.j3 k (g.length : Int) a (g.length : Int) a true g) false := ev_step_now fun k => by simp only [impl_IsGroup.j3, ↓reduceIte]
    by_cases h2 : rd (rd_Li64 g 0) a = a
    · by_cases h3 : rd (rd_Li64 g a) 0 = a
      · have hc := ev_contains (rd_Li64 g a) 0 (rows_len hr a0 a1)
        rw [B_congr (show (∃ i : Int, 0 ≤ i ∧ i < (rd_Li64 g a).length ∧ rd (rd_Li64 g a) i = 0) ↔ ∃ b : Int, 0 ≤ b ∧ b < g.length ∧ T g a b = 0 by rw [la]; rfl)] at hc
        have go : ∀ r b, B (∃ b : Int, 0 ≤ b ∧ b < g.length ∧ T g a b = 0) = b → Ev (fun k => impl_IsGroup.j3 k (g.length : Int) a (g.length : Int) a (!b) g) r → Ev (fun k => impl_IsGroup.l1 k (g.length : Int) (g.length : Int) a g) r := fun r b hb h => by
          rw [hb] at hc
          refine ev_step_bind (fun k => by simp only [impl_IsGroup.l1, a0, a1, hpos, l0, la, h2, h3, ↓reduceIte]; rfl) hc ?_
          exact h
        by_cases h4 : ∃ b : Int, 0 ≤ b ∧ b < g.length ∧ T g a b = 0
        · have inner := scan g.length (fun b k => impl_IsGroup.l2 k (g.length : Int) a (g.length : Int) a (g.length : Int) b g) (fun b => ∀ c : Int, 0 ≤ c → c < g.length → T g (T g a b) c = T g a (T g b c)) false (fun b b0 b1 _ => by
            have hwb : wrap64 (b + 1) = b + 1 := w64s b0 b1 (by omega)
            obtain ⟨e0, e1⟩ := hent a b a0 a1 b0 b1
            have le := hlen _ e0 e1
            have lb := hlen b b0 b1
            have inner3 := scan g.length (fun c k => impl_IsGroup.l3 k (g.length : Int) a b (g.length : Int) a (g.length : Int) b (g.length : Int) c g) (fun c => T g (T g a b) c = T g a (T g b c)) false (fun c c0 c1 _ => by
              have hwc : wrap64 (c + 1) = c + 1 := w64s c0 c1 (by omega)
              obtain ⟨f0, f1⟩ := hent b c b0 b1 c0 c1
              by_cases h5 : rd (rd_Li64 g (rd (rd_Li64 g a) b)) c = rd (rd_Li64 g a) (rd (rd_Li64 g b) c)
              · exact .inl ⟨h5, fun r h => Ev.step (fun k => by simp only [impl_IsGroup.l3, a0, a1, b0, b1, c0, c1, e0, e1, f0, f1, la, lb, le, h5, hwc, ↓reduceIte]) h⟩
              · exact .inr ⟨h5, ev_step_now fun k => by simp only [impl_IsGroup.l3, a0, a1, b0, b1, c0, c1, e0, e1, f0, f1, la, lb, le, h5, ↓reduceIte]⟩)
            rcases inner3 with ⟨h5, h6⟩ | ⟨⟨c, c0, c1, h5⟩, h6⟩
            · exact .inl ⟨h5, fun r h => Ev.step (fun k => by simp only [impl_IsGroup.l2, b1, ↓reduceIte]) (h6 r (Ev.step (fun k => by simp only [impl_IsGroup.l3, Int.lt_irrefl, hwb, ↓reduceIte]) h))⟩
            · exact .inr ⟨fun h => h5 (h c c0 c1), Ev.step (fun k => by simp only [impl_IsGroup.l2, b1, ↓reduceIte]) h6⟩)
          have st : ∀ r, Ev (fun k => impl_IsGroup.l2 k (g.length : Int) a (g.length : Int) a (g.length : Int) 0 g) r → Ev (fun k => impl_IsGroup.l1 k (g.length : Int) (g.length : Int) a g) r := fun r h =>
            go r true (B_pos h4) (Ev.step (fun k => by simp only [impl_IsGroup.j3, Bool.not_true, Bool.false_eq_true, ↓reduceIte]) h)
          rcases inner with ⟨h5, h6⟩ | ⟨⟨b, b0, b1, h5⟩, h6⟩
          · exact .inl ⟨⟨h2, h3, h4, h5⟩, fun r h => st r (h6 r (Ev.step (fun k => by simp only [impl_IsGroup.l2, Int.lt_irrefl, hwa, ↓reduceIte]) h))⟩
          · exact .inr ⟨fun h => h5 (h.2.2.2 b b0 b1), st _ h6⟩
        · exact .inr ⟨fun h => h4 h.2.2.1, go _ false (B_neg h4) bad⟩
      · exact .inr ⟨fun h => h3 h.2.1, Ev.step (fun k => by simp only [impl_IsGroup.l1, a0, a1, hpos, l0, la, h2, h3, ↓reduceIte]) bad⟩
    · exact .inr ⟨fun h => h2 h.1, Ev.step (fun k => by simp only [impl_IsGroup.l1, a0, a1, hpos, l0, h2, ↓reduceIte]) bad⟩
end Go.Proofs.Ytfablaokggnioaa.U
set_option linter.unusedVariables false
set_option linter.unusedSimpArgs false
namespace Go.Proofs.Ytfablaokggnioaa.U
open Go.RowKit Go.Proofs.YtfablaokggnioaaW.PrintWords Go.Proofs.YtfablaokggnioaaW.PrintLast Go.Proofs.YtfablaokggnioaaW.PrintMore Go.Proofs.Ytfablaokggnioaa.Pa
theorem ev_In (x lo hi : Int) : Ev (fun _ => spec_l01In.f x lo hi) (B (lo ≤ x ∧ x ≤ hi)) := by
  refine ev_now fun k => ?_
  unfold spec_l01In.f
  by_cases h : x ≥ lo
  · rw [if_pos h, B_decide, B_congr (show x ≤ hi ↔ (lo ≤ x ∧ x ≤ hi) from ⟨fun h' => ⟨h, h'⟩, fun h' => h'.2⟩)]
  · rw [if_neg h, B_neg (fun h' => h h'.1)]
def LawS (g : List (List Int)) (a : Int) : Prop := T g 0 a = a ∧ T g a 0 = a ∧ (∀ b : Int, 0 ≤ b → b < g.length → ∀ c : Int, 0 ≤ c → c < g.length → T g (T g a b) c = T g a (T g b c)) ∧ ∃ b : Int, 0 ≤ b ∧ b < g.length ∧ T g a b = 0 ∧ T g b a = 0
theorem grp_iffS (g : List (List Int)) : Grp g ↔ (1 ≤ g.length ∧ g.length ≤ 8) ∧ Tab g ∧ ∀ a : Int, 0 ≤ a → a < g.length → LawS g a := by
  rw [grp_iff]
  constructor
  · intro h
    have hg := (grp_iff g).2 h
    refine ⟨h.1, h.2.1, fun a a0 a1 => ?_⟩
    obtain ⟨h1, h2, _, h4⟩ := h.2.2 a a0 a1
    exact ⟨h1, h2, h4, hg.inv2 a0 a1⟩
  · rintro ⟨h1, h2, h3⟩
    refine ⟨h1, h2, fun a a0 a1 => ?_⟩
    obtain ⟨k1, k2, k3, b, b0, b1, hb, _⟩ := h3 a a0 a1
    exact ⟨k1, k2, ⟨b, b0, b1, hb⟩, k3⟩
theorem ev_Is (g : List (List Int)) (hl : g.length ≤ maxLen) : Ev (fun k => spec_l01Is.f k g) (B (Grp g)) := by
  have hm := maxLen_le
  rw [B_congr (grp_iffS g)]
  unfold spec_l01Is.f
  refine ev_bind (fun k => rfl) (ev_In _ _ _) ?_
  by_cases c1 : 1 ≤ (g.length : Int) ∧ (g.length : Int) ≤ 8
  rotate_left
  · rw [B_neg c1, B_neg fun h => c1 (by omega)]
    exact ev_now fun k => by simp
  rw [B_pos c1]
  simp only [↓reduceIte]
  rw [B_congr (show ((1 ≤ g.length ∧ g.length ≤ 8) ∧ Tab g ∧ ∀ a : Int, 0 ≤ a → a < g.length → LawS g a) ↔ (Tab g ∧ ∀ a : Int, 0 ≤ a → a < g.length → LawS g a) from ⟨fun h => h.2, fun h => ⟨by omega, h⟩⟩)]
  have hpos : (0 : Int) < g.length := by omega
  refine scanB g.length (fun i k => spec_l01Is.l0 k (g.length : Int) i g) (fun a => (rd_Li64 g a).length = g.length ∧ AllIn g.length (rd_Li64 g a)) (∀ a : Int, 0 ≤ a → a < g.length → LawS g a) (fun a a0 a1 _ => ?_) (fun ht => ?_)
  · have hwa : wrap64 (a + 1) = a + 1 := w64s a0 a1 (by omega)
    by_cases h2 : ((rd_Li64 g a).length : Int) = g.length
    · have inner := scan g.length (fun b k => spec_l01Is.l1 k (g.length : Int) a b g) (fun b => 0 ≤ rd (rd_Li64 g a) b ∧ rd (rd_Li64 g a) b < g.length) false (fun b b0 b1 _ => by
        have hwb : wrap64 (b + 1) = b + 1 := w64s b0 b1 (by omega)
        have hw1 : wrap64 ((g.length : Int) - 1) = g.length - 1 := w64 (by omega) (by omega)
        have hin := ev_In (rd (rd_Li64 g a) b) 0 (wrap64 ((g.length : Int) - 1))
        rw [B_congr (show (0 ≤ rd (rd_Li64 g a) b ∧ rd (rd_Li64 g a) b ≤ wrap64 ((g.length : Int) - 1)) ↔ (0 ≤ rd (rd_Li64 g a) b ∧ rd (rd_Li64 g a) b < g.length) by rw [hw1]; omega)] at hin
        by_cases h3 : 0 ≤ rd (rd_Li64 g a) b ∧ rd (rd_Li64 g a) b < g.length
        · rw [B_pos h3] at hin
          refine .inl ⟨h3, fun r h => ev_step_bind (fun k => by simp only [spec_l01Is.l1, a0, a1, b0, b1, h2, ↓reduceIte]; rfl) hin ?_⟩
          simp only [hwb, ↓reduceIte]; exact h
        · rw [B_neg h3] at hin
          refine .inr ⟨h3, ev_step_bind (fun k => by simp only [spec_l01Is.l1, a0, a1, b0, b1, h2, ↓reduceIte]; rfl) hin ?_⟩
          exact ev_now fun k => by simp)
      rcases inner with ⟨h5, h6⟩ | ⟨⟨b, b0, b1, h5⟩, h6⟩
      · exact .inl ⟨⟨by omega, fun i i0 i1 => h5 i i0 (by omega)⟩, fun r h => Ev.step (fun k => by simp only [spec_l01Is.l0, a0, a1, h2, ↓reduceIte]) (h6 r (Ev.step (fun k => by simp only [spec_l01Is.l1, Int.lt_irrefl, hwa, ↓reduceIte]) h))⟩
      · exact .inr ⟨fun h => h5 (h.2 b b0 (by omega)), Ev.step (fun k => by simp only [spec_l01Is.l0, a0, a1, h2, ↓reduceIte]) h6⟩
    · exact .inr ⟨fun h => h2 (by omega), ev_step_now fun k => by simp only [spec_l01Is.l0, a0, a1, h2, ↓reduceIte]⟩
  · refine Ev.step (f := fun k => spec_l01Is.l2 k (g.length : Int) 0 g) (fun k => by simp only [spec_l01Is.l0, Int.lt_irrefl, ↓reduceIte]) ?_
    refine scanT g.length (fun i k => spec_l01Is.l2 k (g.length : Int) i g) (LawS g) (fun a a0 a1 _ => ?_) (fun _ => ev_step_now fun k => by simp only [spec_l01Is.l2, Int.lt_irrefl, ↓reduceIte])
    have hlen : ∀ x : Int, 0 ≤ x → x < g.length → ((rd_Li64 g x).length : Int) = g.length := fun x x0 x1 => by rw [(ht x x0 x1).1]
    have hent : ∀ x y : Int, 0 ≤ x → x < g.length → 0 ≤ y → y < g.length → 0 ≤ rd (rd_Li64 g x) y ∧ rd (rd_Li64 g x) y < g.length := fun x y x0 x1 y0 y1 => (ht x x0 x1).2 y y0 (by rw [hlen x x0 x1]; exact y1)
    have l0 := hlen 0 (by omega) hpos
    have la := hlen a a0 a1
    have hwa : wrap64 (a + 1) = a + 1 := w64s a0 a1 (by omega)
    have bad : Ev (fun k => spec_l01Is.j3 k (g.length : Int) a true g) false := ev_step_now fun k => by simp only [spec_l01Is.j3, ↓reduceIte]
    by_cases h2 : rd (rd_Li64 g 0) a = a
    rotate_left
    · exact .inr ⟨fun h => h2 h.1, Ev.step (fun k => by simp only [spec_l01Is.l2, a0, a1, hpos, l0, h2, ↓reduceIte]) bad⟩
    by_cases h3 : rd (rd_Li64 g a) 0 = a
    rotate_left
    · have h3' : (rd (rd_Li64 g a) 0 != a) = true := by simpa using h3
      exact .inr ⟨fun h => h3 h.2.1, Ev.step (fun k => by simp only [spec_l01Is.l2, a0, a1, hpos, l0, la, h2, h3', ↓reduceIte]) bad⟩
    have h3' : (rd (rd_Li64 g a) 0 != a) = false := by simpa using h3
    let Fd : Int → Prop := fun b => ∃ j : Int, 0 ≤ j ∧ j < b ∧ T g a j = 0 ∧ T g j a = 0
    have st : ∀ r, Ev (fun k => spec_l01Is.l3 k (g.length : Int) a (B (Fd 0)) 0 g) r → Ev (fun k => spec_l01Is.l2 k (g.length : Int) a g) r := fun r h => by
      rw [B_neg (show ¬ Fd 0 from fun ⟨j, j0, j1, _⟩ => by omega)] at h
      refine Ev.step (fun k => by simp only [spec_l01Is.l2, a0, a1, hpos, l0, la, h2, h3', ↓reduceIte]; rfl) ?_
      exact Ev.step (fun k => by simp only [spec_l01Is.j3, Bool.false_eq_true, ↓reduceIte]) h
    have inner := scan g.length (fun b k => spec_l01Is.l3 k (g.length : Int) a (B (Fd b)) b g) (fun b => ∀ c : Int, 0 ≤ c → c < g.length → T g (T g a b) c = T g a (T g b c)) false (fun b b0 b1 _ => by
      have hwb : wrap64 (b + 1) = b + 1 := w64s b0 b1 (by omega)
      obtain ⟨e0, e1⟩ := hent a b a0 a1 b0 b1
      have le := hlen _ e0 e1
      have lb := hlen b b0 b1
      have toj : ∀ r, Ev (fun k => spec_l01Is.j5 k (g.length : Int) a (B (Fd (b + 1))) b g) r → Ev (fun k => spec_l01Is.l3 k (g.length : Int) a (B (Fd b)) b g) r := fun r h => by
        by_cases k1 : Fd b
        · rw [B_pos k1]
          rw [B_pos (show Fd (b + 1) from by obtain ⟨j, j0, j1, h⟩ := k1; exact ⟨j, j0, by omega, h⟩)] at h
          exact Ev.step (fun k => by simp only [spec_l01Is.l3, b1, ↓reduceIte]) h
        · rw [B_neg k1]
          by_cases k2 : rd (rd_Li64 g a) b = 0
          · have e : B (Fd (b + 1)) = (rd (rd_Li64 g b) a == 0) := by
              by_cases k3 : rd (rd_Li64 g b) a = 0
              · rw [B_pos ⟨b, b0, by omega, k2, k3⟩]; simp [k3]
              · rw [B_neg]
                · simp [k3]
                · rintro ⟨j, j0, j1, ja, jb⟩
                  by_cases ej : j = b
                  · subst ej; exact k3 jb
                  · exact k1 ⟨j, j0, by omega, ja, jb⟩
            rw [e] at h
            exact Ev.step (fun k => by simp only [spec_l01Is.l3, a0, a1, b0, b1, la, lb, k2, Bool.false_eq_true, ↓reduceIte]) h
          · rw [B_neg (show ¬ Fd (b + 1) from by
              rintro ⟨j, j0, j1, ja, jb⟩
              by_cases ej : j = b
              · subst ej; exact k2 ja
              · exact k1 ⟨j, j0, by omega, ja, jb⟩)] at h
            exact Ev.step (fun k => by simp only [spec_l01Is.l3, a0, a1, b0, b1, la, k2, Bool.false_eq_true, ↓reduceIte]) h
      have inner4 := scan g.length (fun c k => spec_l01Is.l4 k (g.length : Int) a (B (Fd (b + 1))) b c g) (fun c => T g (T g a b) c = T g a (T g b c)) false (fun c c0 c1 _ => by
        have hwc : wrap64 (c + 1) = c + 1 := w64s c0 c1 (by omega)
        obtain ⟨f0, f1⟩ := hent b c b0 b1 c0 c1
        by_cases h5 : rd (rd_Li64 g (rd (rd_Li64 g a) b)) c = rd (rd_Li64 g a) (rd (rd_Li64 g b) c)
        · exact .inl ⟨h5, fun r h => Ev.step (fun k => by simp only [spec_l01Is.l4, a0, a1, b0, b1, c0, c1, e0, e1, f0, f1, la, lb, le, h5, hwc, ↓reduceIte]) h⟩
        · exact .inr ⟨h5, ev_step_now fun k => by simp only [spec_l01Is.l4, a0, a1, b0, b1, c0, c1, e0, e1, f0, f1, la, lb, le, h5, ↓reduceIte]⟩)
      rcases inner4 with ⟨h5, h6⟩ | ⟨⟨c, c0, c1, h5⟩, h6⟩
      · exact .inl ⟨h5, fun r h => toj r (Ev.step (fun k => by simp only [spec_l01Is.j5]) (h6 r (Ev.step (fun k => by simp only [spec_l01Is.l4, Int.lt_irrefl, hwb, ↓reduceIte]) h)))⟩
      · exact .inr ⟨fun h => h5 (h c c0 c1), toj _ (Ev.step (fun k => by simp only [spec_l01Is.j5]) h6)⟩)
    rcases inner with ⟨h5, h6⟩ | ⟨⟨b, b0, b1, h5⟩, h6⟩
    · by_cases h7 : Fd g.length
      · rw [B_pos h7] at h6
        exact .inl ⟨⟨h2, h3, h5, h7⟩, fun r h => st r (h6 r (Ev.step (fun k => by simp only [spec_l01Is.l3, Int.lt_irrefl, hwa, ↓reduceIte]) h))⟩
      · rw [B_neg h7] at h6
        exact .inr ⟨fun h => h7 h.2.2.2, st _ (h6 _ (ev_step_now fun k => by simp only [spec_l01Is.l3, Int.lt_irrefl, Bool.false_eq_true, ↓reduceIte]))⟩
    · exact .inr ⟨fun h => h5 (h.2.2.1 b b0 b1), st _ h6⟩
end Go.Proofs.Ytfablaokggnioaa.U
