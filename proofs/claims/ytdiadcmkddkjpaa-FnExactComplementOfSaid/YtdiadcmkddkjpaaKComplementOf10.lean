/- What the proof of the law ComplementOf stands on, part 10: words, each Go function's Lean function, and that the Go code comes to its answers; no condition. (Packed by wip/myprint/pack.py out of what the kit's printer wrote, its words among it, partly by our patches of it, and out of texts of this session.) -/
import Derived.Test.YtdiadcmkddkjpaaKComplementOf0
import Derived.Test.YtdiadcmkddkjpaaKComplementOf1
import Derived.Test.YtdiadcmkddkjpaaKComplementOf4
import Derived.Test.YtdiadcmkddkjpaaKComplementOf5
import Derived.Test.YtdiadcmkddkjpaaKComplementOf6
import Derived.Test.YtdiadcmkddkjpaaKComplementOf9
namespace Go.Proofs.Ytdiadcmkddkjpaa.Pa
open Go.RowKit Go.Proofs.YtdiadcmkddkjpaaW.PrintWords Go.Proofs.YtdiadcmkddkjpaaW.PrintLast Go.Proofs.YtdiadcmkddkjpaaW.PrintMore
attribute [local go_sem] max2_int min2_int max_two min_two max_three min_three max_four min_four
set_option linter.unusedVariables false
set_option linter.unusedSimpArgs false
def laws_FnExactComplementOf.f (k : Nat) (l0_0 : List (List Int)) (a1_0 : Int) (l1_1 : List Int) (l2 : List Int) : Option Bool := if (l2.length : Int) > 1048576 then some true else ((laws_szGroup.f k l0_0 1048576).bind fun t103 => if t103 < 0 then some true else ((laws_szModule.f a1_0 l1_1 t103).bind fun t105 => if t105 < 0 then some true else ((laws_toGroup.f k l0_0).bind fun t108 => (laws_toModule.f k a1_0 l1_1).bind fun bt111 => (laws_toInt64S.f k l2).bind fun t115 => (spec_ComplementOf.f k t108 bt111.1 bt111.2 t115).bind fun bt118 => (laws_toGroup.f k l0_0).bind fun t122 => (laws_toModule.f k a1_0 l1_1).bind fun bt127 => (laws_toInt64S.f k l2).bind fun t133 => (impl_ComplementOf.f k t122 bt127.1 bt127.2 t133).bind fun bt136 => (laws_eqInt64S.f k bt136.1 bt118.1).bind fun t140 => if t140 = true then (if bt136.2 = bt118.2 then ((laws_toGroup.f k l0_0).bind fun t143 => (laws_eqGroup.f k t122 t143).bind fun t146 => if t146 = true then ((laws_toModule.f k a1_0 l1_1).bind fun bt149 => (laws_eqModule.f k bt127.1 bt127.2 bt149.1 bt149.2).bind fun t153 => if t153 = true then ((laws_toInt64S.f k l2).bind fun t155 => (laws_eqInt64S.f k t133 t155).bind fun t158 => if t158 = true then ((laws_markGroup.f k t122 1).bind fun bt160 => (laws_markModule.f k bt127.1 bt127.2 bt160.1).bind fun bt164 => (laws_markInt64S.f k t133 bt164.1).bind fun bt168 => (laws_eqInt64S.f k bt136.1 bt118.1).bind fun t172 => if bt168.1 < 0 then none else (if t172 = true then (if bt136.2 = bt136.2 then ((laws_markInt64S.f k bt136.1 1).bind fun bt174 => (laws_heldInt64S.f k bt174.2 1).bind fun t178 => if t178 < 0 then none else (if t178 = bt174.1 then ((laws_toGroup.f k l0_0).bind fun t181 => (laws_toModule.f k a1_0 l1_1).bind fun bt184 => (laws_toInt64S.f k l2).bind fun t188 => (impl_ComplementOf.f k t181 bt184.1 bt184.2 t188).bind fun bt191 => (laws_eqInt64S.f k bt191.1 bt118.1).bind fun t195 => if t195 = true then (if bt191.2 = bt136.2 then ((laws_heldInt64S.f k bt174.2 1).bind fun t197 => if t197 < 0 then none else (if t197 = t178 then (some true) else none)) else none) else none) else none)) else none) else none)) else none) else none) else none) else none) else none)))
def laws_FnExactComplementOf.T10 : Bool × List (List Nat × List Nat) := (true, [([], []), ([0], [0]), ([], []), ([2, 1], [2]), ([], []), ([4, 3], [4]), ([1, 3, 5, 5], [1, 3, 5]), ([6], [6]), ([7], [7]), ([7], [7]), ([8, 6, 0, 1, 2, 3, 4, 5, 6, 7, 8], [8]), ([9, 10, 0, 1, 2, 3, 4, 5, 6, 7, 8, 9, 10], [9])])
def laws_FnExactComplementOf.B10 : List Nat := [0, 1, 0, 7, 0, 31, 63, 127, 255, 255, 511, 2047]
theorem laws_FnExactComplementOf.tab10 : rtab .any (opsOf Try.f3 10) = laws_FnExactComplementOf.T10 := by kernel_rfl
theorem laws_FnExactComplementOf.bits10 : waitsOk laws_FnExactComplementOf.T10.2 laws_FnExactComplementOf.B10 = true := by kernel_rfl
def laws_FnExactComplementOf.T17 : Bool × List (List Nat × List Nat) := (true, [([], []), ([], []), ([1], [1]), ([0, 2, 2], [0, 2]), ([3], [3])])
def laws_FnExactComplementOf.B17 : List Nat := [0, 0, 2, 7, 15]
theorem laws_FnExactComplementOf.tab17 : rtab .any (opsOf Try.f3 17) = laws_FnExactComplementOf.T17 := by kernel_rfl
theorem laws_FnExactComplementOf.bits17 : waitsOk laws_FnExactComplementOf.T17.2 laws_FnExactComplementOf.B17 = true := by kernel_rfl
def laws_FnExactComplementOf.T19 : Bool × List (List Nat × List Nat) := (true, [([], []), ([], []), ([1], [1]), ([0, 2, 2], [0, 2]), ([3], [3])])
def laws_FnExactComplementOf.B19 : List Nat := [0, 0, 2, 7, 15]
theorem laws_FnExactComplementOf.tab19 : rtab .any (opsOf Try.f3 19) = laws_FnExactComplementOf.T19 := by kernel_rfl
theorem laws_FnExactComplementOf.bits19 : waitsOk laws_FnExactComplementOf.T19.2 laws_FnExactComplementOf.B19 = true := by kernel_rfl
def laws_FnExactComplementOf.T37 : Bool × List (List Nat × List Nat) := (true, [([], []), ([0], [0]), ([], []), ([2, 1], [2]), ([], []), ([4, 3], [4]), ([1, 3, 5, 5], [1, 3, 5]), ([6], [6]), ([7], [7]), ([7], [7]), ([8, 6, 0, 1, 2, 3, 4, 5, 6, 7, 8], [8]), ([9, 10, 0, 1, 2, 3, 4, 5, 6, 7, 8, 9, 10], [9])])
def laws_FnExactComplementOf.B37 : List Nat := [0, 1, 0, 7, 0, 31, 63, 127, 255, 255, 511, 2047]
theorem laws_FnExactComplementOf.tab37 : rtab .any (opsOf Try.f3 37) = laws_FnExactComplementOf.T37 := by kernel_rfl
theorem laws_FnExactComplementOf.bits37 : waitsOk laws_FnExactComplementOf.T37.2 laws_FnExactComplementOf.B37 = true := by kernel_rfl
set_option maxHeartbeats 16000000 in
set_option maxRecDepth 100000 in
theorem laws_FnExactComplementOf.calls (k : Nat) (A0_0 : Option Addr) (c0_0 : Nat) (l0_0 : List (List Int)) (a1_0 : Int) (A1_1 : Option Addr) (c1_1 : Nat) (l1_1 : List Int) (A2 : Option Addr) (c2 : Nat) (l2 : List Int) (r : Bool) (w : World) (hr0_0 : Kd.C (Kd.slice 2 (Kd.int .i64)) w A0_0 l0_0.length l0_0) (hc0_0 : l0_0.length ≤ c0_0) (hr1_1 : Kd.C (Kd.int .i64) w A1_1 l1_1.length l1_1) (hc1_1 : l1_1.length ≤ c1_1) (hr2 : Kd.C (Kd.int .i64) w A2 l2.length l2) (hc2 : l2.length ≤ c2) (h : laws_FnExactComplementOf.f k l0_0 a1_0 l1_1 l2 = some r) :
  Calls Try.prog 3 #[.agg #[.slice A0_0 l0_0.length c0_0], .agg #[.int .i64 a1_0, .slice A1_1 l1_1.length c1_1], .slice A2 l2.length c2] w fun e w' => e = .returned (.bool r) ∧ Below w.heap.size w w' := by
 have hu24 := Try.underlying24
 have hu27 := Try.underlying27
 have hu32 := Try.underlying32
 have hu34 := Try.underlying34
 have HR0_0 := Aside0.mk hr0_0
 have HC0_0 := Aside0.mk hc0_0
 clear hr0_0 hc0_0
 have HR1_1 := Aside0.mk hr1_1
 have HC1_1 := Aside0.mk hc1_1
 clear hr1_1 hc1_1
 have HR2 := Aside0.mk hr2
 have HC2 := Aside0.mk hc2
 clear hr2 hc2
 have HB := Aside0.mk (Below.refl w.heap.size w)
 have HN := Aside0.mk (Nat.le_refl w.heap.size)
 have H := h
 clear h
 unfold laws_FnExactComplementOf.f at H
 by_cases c1 : (l2.length : Int) > 1048576
 ·
  rw [if_pos c1] at H
  have c1b0 : decide (1048576 < (l2.length : Int)) = true := decide_eq_true c1
  have c1b1 : decide (1048576 < l2.length) = true := decide_eq_true (by omega)
  clear c1
  obtain rfl := Option.some.inj H
  go_enter Try.func3, Try.ntmps3
  go_wp2_with (first | ((with_reducible refine gate_dst (N := 3) rfl ?_); refine box_event ?hg (N := 3) ?hd (cs := #[.slice A0_0 l0_0.length c0_0]) (t := 24) ?hr ?_; (case hd => rfl); (case hg => rfl); (case hr => first | (go_simp; done) | (go_simp; rfl)); intro gb3 hg w101 hbox hb; replace BK3 := Aside0.mk (hbox); replace CB3 := Aside0.mk ((⟨by rw [hg]; exact HN.out, Nat.le_succ _⟩ : w.heap.size ≤ gb3 ∧ gb3 ≤ gb3 + 1)); replace GE3 := Aside0.mk ((by rw [hg]; exact below_size HB.out : w.heap.size ≤ gb3)); replace HB := Aside0.mk (below_step HB.out hb); replace HN := Aside0.mk ((blk_lt hbox : gb3 + 1 ≤ w101.heap.size)); clear hb hbox hg; have hczgb3_0 : w101.cell? ⟨gb3, 0, none⟩ = some (.slice A0_0 l0_0.length c0_0) := (blk_cell BK3.out 0).trans rfl; have hfzgb3_0 := blk_frozen BK3.out 0) | ((with_reducible refine gate_dst (N := 4) rfl ?_); refine box_event ?hg (N := 4) ?hd (cs := #[.int .i64 a1_0, .slice A1_1 l1_1.length c1_1]) (t := 27) ?hr ?_; (case hd => rfl); (case hg => rfl); (case hr => first | (go_simp; done) | (go_simp; rfl)); intro gb4 hg w102 hbox hb; replace BK3 := Aside0.mk (blk_below BK3.out hb); replace BK4 := Aside0.mk (hbox); replace CB4 := Aside0.mk ((⟨by rw [hg]; exact HN.out, Nat.le_succ _⟩ : gb3 + 1 ≤ gb4 ∧ gb4 ≤ gb4 + 1)); replace GE4 := Aside0.mk ((by rw [hg]; exact below_size HB.out : w.heap.size ≤ gb4)); replace HB := Aside0.mk (below_step HB.out hb); replace HN := Aside0.mk ((blk_lt hbox : gb4 + 1 ≤ w102.heap.size)); clear hb hbox hg; clear hczgb3_0; have hczgb3_0 : w102.cell? ⟨gb3, 0, none⟩ = some (.slice A0_0 l0_0.length c0_0) := (blk_cell BK3.out 0).trans rfl; clear hfzgb3_0; have hfzgb3_0 := blk_frozen BK3.out 0; have hczgb4_0 : w102.cell? ⟨gb4, 0, none⟩ = some (.int .i64 a1_0) := (blk_cell BK4.out 0).trans rfl; have hfzgb4_0 := blk_frozen BK4.out 0; have hczgb4_1 : w102.cell? ⟨gb4, 1, none⟩ = some (.slice A1_1 l1_1.length c1_1) := (blk_cell BK4.out 1).trans rfl; have hfzgb4_1 := blk_frozen BK4.out 1))
  go_ret
  exact ⟨by first | rfl | (simp; done) | (simp [*]; done), HB.out⟩
 ·
  rw [if_neg c1] at H
  have c1b0 : decide (1048576 < (l2.length : Int)) = false := decide_eq_false c1
  have c1b1 : decide (1048576 < l2.length) = false := decide_eq_false (by omega)
  clear c1
  replace H := Option.bind_eq_some_iff.mp H
  obtain ⟨t103, hA_, H⟩ := H
  have H0A := Aside0.mk hA_
  clear hA_
  (try dsimp only at H)
  by_cases c3 : t103 < 0
  ·
   rw [if_pos c3] at H
   have c3b0 : decide (t103 < 0) = true := decide_eq_true c3
   clear c3
   obtain rfl := Option.some.inj H
   go_enter Try.func3, Try.ntmps3
   go_wp2_with (first | ((with_reducible refine gate_dst (N := 3) rfl ?_); refine box_event ?hg (N := 3) ?hd (cs := #[.slice A0_0 l0_0.length c0_0]) (t := 24) ?hr ?_; (case hd => rfl); (case hg => rfl); (case hr => first | (go_simp; done) | (go_simp; rfl)); intro gb3 hg w101 hbox hb; replace BK3 := Aside0.mk (hbox); replace CB3 := Aside0.mk ((⟨by rw [hg]; exact HN.out, Nat.le_succ _⟩ : w.heap.size ≤ gb3 ∧ gb3 ≤ gb3 + 1)); replace GE3 := Aside0.mk ((by rw [hg]; exact below_size HB.out : w.heap.size ≤ gb3)); replace HB := Aside0.mk (below_step HB.out hb); replace HN := Aside0.mk ((blk_lt hbox : gb3 + 1 ≤ w101.heap.size)); clear hb hbox hg; have hczgb3_0 : w101.cell? ⟨gb3, 0, none⟩ = some (.slice A0_0 l0_0.length c0_0) := (blk_cell BK3.out 0).trans rfl; have hfzgb3_0 := blk_frozen BK3.out 0) | ((with_reducible refine gate_dst (N := 4) rfl ?_); refine box_event ?hg (N := 4) ?hd (cs := #[.int .i64 a1_0, .slice A1_1 l1_1.length c1_1]) (t := 27) ?hr ?_; (case hd => rfl); (case hg => rfl); (case hr => first | (go_simp; done) | (go_simp; rfl)); intro gb4 hg w102 hbox hb; replace BK3 := Aside0.mk (blk_below BK3.out hb); replace BK4 := Aside0.mk (hbox); replace CB4 := Aside0.mk ((⟨by rw [hg]; exact HN.out, Nat.le_succ _⟩ : gb3 + 1 ≤ gb4 ∧ gb4 ≤ gb4 + 1)); replace GE4 := Aside0.mk ((by rw [hg]; exact below_size HB.out : w.heap.size ≤ gb4)); replace HB := Aside0.mk (below_step HB.out hb); replace HN := Aside0.mk ((blk_lt hbox : gb4 + 1 ≤ w102.heap.size)); clear hb hbox hg; clear hczgb3_0; have hczgb3_0 : w102.cell? ⟨gb3, 0, none⟩ = some (.slice A0_0 l0_0.length c0_0) := (blk_cell BK3.out 0).trans rfl; clear hfzgb3_0; have hfzgb3_0 := blk_frozen BK3.out 0; have hczgb4_0 : w102.cell? ⟨gb4, 0, none⟩ = some (.int .i64 a1_0) := (blk_cell BK4.out 0).trans rfl; have hfzgb4_0 := blk_frozen BK4.out 0; have hczgb4_1 : w102.cell? ⟨gb4, 1, none⟩ = some (.slice A1_1 l1_1.length c1_1) := (blk_cell BK4.out 1).trans rfl; have hfzgb4_1 := blk_frozen BK4.out 1) | ((with_reducible refine gate_callee (f := 13) rfl ?_); refine goesL_ (some 25) rfl rfl Try.func13 (by kernel_rfl) rfl #[.agg #[.slice A0_0 l0_0.length c0_0], .int .i64 1048576] rfl (by (try simp only [List.map_toArray, List.map_cons, List.map_nil]); first | done | rfl | (simp only [List.length_drop, List.length_take]; rfl)) ?_; (with_reducible refine (laws_szGroup.calls k _ _ l0_0 1048576 t103 _ ?side1 ?side2 H0A.out).mono ?_); (case side1 => exact Kd.C_below HR0_0.out HB.out); (case side2 => exact HC0_0.out); rintro e w104 ⟨rfl, hb⟩; refine ⟨_, rfl, ?_⟩; replace BK3 := Aside0.mk (blk_below BK3.out hb); replace HB := Aside0.mk (below_step HB.out hb); replace HN := Aside0.mk (Nat.le_trans HN.out hb.size); (try clear BK4); (try clear hczgb4_0); (try clear hczgb4_1); (try clear hfzgb4_0); (try clear hfzgb4_1); clear hb; clear hczgb3_0; have hczgb3_0 : w104.cell? ⟨gb3, 0, none⟩ = some (.slice A0_0 l0_0.length c0_0) := (blk_cell BK3.out 0).trans rfl; clear hfzgb3_0; have hfzgb3_0 := blk_frozen BK3.out 0))
   go_ret
   exact ⟨by first | rfl | (simp; done) | (simp [*]; done), HB.out⟩
  ·
   rw [if_neg c3] at H
   have c3b0 : decide (t103 < 0) = false := decide_eq_false c3
   clear c3
   replace H := Option.bind_eq_some_iff.mp H
   obtain ⟨t105, hA_, H⟩ := H
   have H1A := Aside0.mk hA_
   clear hA_
   (try dsimp only at H)
   by_cases c5 : t105 < 0
   ·
    rw [if_pos c5] at H
    have c5b0 : decide (t105 < 0) = true := decide_eq_true c5
    clear c5
    obtain rfl := Option.some.inj H
    go_enter Try.func3, Try.ntmps3
    go_wp2_with (first | ((with_reducible refine gate_dst (N := 3) rfl ?_); refine box_event ?hg (N := 3) ?hd (cs := #[.slice A0_0 l0_0.length c0_0]) (t := 24) ?hr ?_; (case hd => rfl); (case hg => rfl); (case hr => first | (go_simp; done) | (go_simp; rfl)); intro gb3 hg w101 hbox hb; replace BK3 := Aside0.mk (hbox); replace CB3 := Aside0.mk ((⟨by rw [hg]; exact HN.out, Nat.le_succ _⟩ : w.heap.size ≤ gb3 ∧ gb3 ≤ gb3 + 1)); replace GE3 := Aside0.mk ((by rw [hg]; exact below_size HB.out : w.heap.size ≤ gb3)); replace HB := Aside0.mk (below_step HB.out hb); replace HN := Aside0.mk ((blk_lt hbox : gb3 + 1 ≤ w101.heap.size)); clear hb hbox hg; have hczgb3_0 : w101.cell? ⟨gb3, 0, none⟩ = some (.slice A0_0 l0_0.length c0_0) := (blk_cell BK3.out 0).trans rfl; have hfzgb3_0 := blk_frozen BK3.out 0) | ((with_reducible refine gate_dst (N := 4) rfl ?_); refine box_event ?hg (N := 4) ?hd (cs := #[.int .i64 a1_0, .slice A1_1 l1_1.length c1_1]) (t := 27) ?hr ?_; (case hd => rfl); (case hg => rfl); (case hr => first | (go_simp; done) | (go_simp; rfl)); intro gb4 hg w102 hbox hb; replace BK3 := Aside0.mk (blk_below BK3.out hb); replace BK4 := Aside0.mk (hbox); replace CB4 := Aside0.mk ((⟨by rw [hg]; exact HN.out, Nat.le_succ _⟩ : gb3 + 1 ≤ gb4 ∧ gb4 ≤ gb4 + 1)); replace GE4 := Aside0.mk ((by rw [hg]; exact below_size HB.out : w.heap.size ≤ gb4)); replace HB := Aside0.mk (below_step HB.out hb); replace HN := Aside0.mk ((blk_lt hbox : gb4 + 1 ≤ w102.heap.size)); clear hb hbox hg; clear hczgb3_0; have hczgb3_0 : w102.cell? ⟨gb3, 0, none⟩ = some (.slice A0_0 l0_0.length c0_0) := (blk_cell BK3.out 0).trans rfl; clear hfzgb3_0; have hfzgb3_0 := blk_frozen BK3.out 0; have hczgb4_0 : w102.cell? ⟨gb4, 0, none⟩ = some (.int .i64 a1_0) := (blk_cell BK4.out 0).trans rfl; have hfzgb4_0 := blk_frozen BK4.out 0; have hczgb4_1 : w102.cell? ⟨gb4, 1, none⟩ = some (.slice A1_1 l1_1.length c1_1) := (blk_cell BK4.out 1).trans rfl; have hfzgb4_1 := blk_frozen BK4.out 1) | ((with_reducible refine gate_callee (f := 13) rfl ?_); refine goesL_ (some 25) rfl rfl Try.func13 (by kernel_rfl) rfl #[.agg #[.slice A0_0 l0_0.length c0_0], .int .i64 1048576] rfl (by (try simp only [List.map_toArray, List.map_cons, List.map_nil]); first | done | rfl | (simp only [List.length_drop, List.length_take]; rfl)) ?_; (with_reducible refine (laws_szGroup.calls k _ _ l0_0 1048576 t103 _ ?side1 ?side2 H0A.out).mono ?_); (case side1 => exact Kd.C_below HR0_0.out HB.out); (case side2 => exact HC0_0.out); rintro e w104 ⟨rfl, hb⟩; refine ⟨_, rfl, ?_⟩; replace BK3 := Aside0.mk (blk_below BK3.out hb); replace BK4 := Aside0.mk (blk_below BK4.out hb); replace HB := Aside0.mk (below_step HB.out hb); replace HN := Aside0.mk (Nat.le_trans HN.out hb.size); clear hb; clear hczgb3_0; have hczgb3_0 : w104.cell? ⟨gb3, 0, none⟩ = some (.slice A0_0 l0_0.length c0_0) := (blk_cell BK3.out 0).trans rfl; clear hfzgb3_0; have hfzgb3_0 := blk_frozen BK3.out 0; clear hczgb4_0; have hczgb4_0 : w104.cell? ⟨gb4, 0, none⟩ = some (.int .i64 a1_0) := (blk_cell BK4.out 0).trans rfl; clear hfzgb4_0; have hfzgb4_0 := blk_frozen BK4.out 0; clear hczgb4_1; have hczgb4_1 : w104.cell? ⟨gb4, 1, none⟩ = some (.slice A1_1 l1_1.length c1_1) := (blk_cell BK4.out 1).trans rfl; clear hfzgb4_1; have hfzgb4_1 := blk_frozen BK4.out 1) | ((with_reducible refine gate_callee (f := 14) rfl ?_); refine goesL_ (some 30) rfl rfl Try.func14 (by kernel_rfl) rfl #[.agg #[.int .i64 a1_0, .slice A1_1 l1_1.length c1_1], .int .i64 t103] rfl (by (try simp only [List.map_toArray, List.map_cons, List.map_nil]); first | done | rfl | (simp only [List.length_drop, List.length_take]; rfl)) ?_; (with_reducible refine (laws_szModule.calls a1_0 _ _ l1_1 t103 t105 _ ?side1 ?side2 H1A.out).mono ?_); (case side1 => exact Kd.C_below HR1_1.out HB.out); (case side2 => exact HC1_1.out); rintro e w106 ⟨rfl, hb⟩; refine ⟨_, rfl, ?_⟩; replace BK4 := Aside0.mk (blk_below BK4.out hb); replace HB := Aside0.mk (below_step HB.out hb); replace HN := Aside0.mk (Nat.le_trans HN.out hb.size); (try clear BK3); (try clear hczgb3_0); (try clear hfzgb3_0); clear hb; clear hczgb4_0; have hczgb4_0 : w106.cell? ⟨gb4, 0, none⟩ = some (.int .i64 a1_0) := (blk_cell BK4.out 0).trans rfl; clear hfzgb4_0; have hfzgb4_0 := blk_frozen BK4.out 0; clear hczgb4_1; have hczgb4_1 : w106.cell? ⟨gb4, 1, none⟩ = some (.slice A1_1 l1_1.length c1_1) := (blk_cell BK4.out 1).trans rfl; clear hfzgb4_1; have hfzgb4_1 := blk_frozen BK4.out 1))
    go_ret
    exact ⟨by first | rfl | (simp; done) | (simp [*]; done), HB.out⟩
   ·
    rw [if_neg c5] at H
    have c5b0 : decide (t105 < 0) = false := decide_eq_false c5
    clear c5
    replace H := Option.bind_eq_some_iff.mp H
    obtain ⟨t108, hA_, H⟩ := H
    have H2A := Aside0.mk hA_
    clear hA_
    (try dsimp only at H)
    replace H := Option.bind_eq_some_iff.mp H
    obtain ⟨⟨t111, t112⟩, hA_, H⟩ := H
    have H3A := Aside0.mk hA_
    clear hA_
    (try dsimp only at H)
    replace H := Option.bind_eq_some_iff.mp H
    obtain ⟨t115, hA_, H⟩ := H
    have H4A := Aside0.mk hA_
    clear hA_
    (try dsimp only at H)
    replace H := Option.bind_eq_some_iff.mp H
    obtain ⟨⟨t118, t119⟩, hA_, H⟩ := H
    have H5A := Aside0.mk hA_
    clear hA_
    (try dsimp only at H)
    replace H := Option.bind_eq_some_iff.mp H
    obtain ⟨t122, hA_, H⟩ := H
    have H6A := Aside0.mk hA_
    clear hA_
    (try dsimp only at H)
    replace H := Option.bind_eq_some_iff.mp H
    obtain ⟨⟨t127, t128⟩, hA_, H⟩ := H
    have H7A := Aside0.mk hA_
    clear hA_
    (try dsimp only at H)
    replace H := Option.bind_eq_some_iff.mp H
    obtain ⟨t133, hA_, H⟩ := H
    have H8A := Aside0.mk hA_
    clear hA_
    (try dsimp only at H)
    replace H := Option.bind_eq_some_iff.mp H
    obtain ⟨⟨t136, t137⟩, hA_, H⟩ := H
    have H9A := Aside0.mk hA_
    clear hA_
    (try dsimp only at H)
    replace H := Option.bind_eq_some_iff.mp H
    obtain ⟨t140, hA_, H⟩ := H
    have H10A := Aside0.mk hA_
    clear hA_
    (try dsimp only at H)
    by_cases c15 : t140 = true
    rotate_left
    ·
     rw [if_neg c15] at H; exact absurd H (by simp)
    rw [if_pos c15] at H
    subst c15
    by_cases c16 : t137 = t119
    rotate_left
    ·
     rw [if_neg c16] at H; exact absurd H (by simp)
    rw [if_pos c16] at H
    subst c16
    replace H := Option.bind_eq_some_iff.mp H
    obtain ⟨t143, hA_, H⟩ := H
    have H11A := Aside0.mk hA_
    clear hA_
    (try dsimp only at H)
    replace H := Option.bind_eq_some_iff.mp H
    obtain ⟨t146, hA_, H⟩ := H
    have H12A := Aside0.mk hA_
    clear hA_
    (try dsimp only at H)
    by_cases c19 : t146 = true
    rotate_left
    ·
     rw [if_neg c19] at H; exact absurd H (by simp)
    rw [if_pos c19] at H
    subst c19
    replace H := Option.bind_eq_some_iff.mp H
    obtain ⟨⟨t149, t150⟩, hA_, H⟩ := H
    have H13A := Aside0.mk hA_
    clear hA_
    (try dsimp only at H)
    replace H := Option.bind_eq_some_iff.mp H
    obtain ⟨t153, hA_, H⟩ := H
    have H14A := Aside0.mk hA_
    clear hA_
    (try dsimp only at H)
    by_cases c22 : t153 = true
    rotate_left
    ·
     rw [if_neg c22] at H; exact absurd H (by simp)
    rw [if_pos c22] at H
    subst c22
    replace H := Option.bind_eq_some_iff.mp H
    obtain ⟨t155, hA_, H⟩ := H
    have H15A := Aside0.mk hA_
    clear hA_
    (try dsimp only at H)
    replace H := Option.bind_eq_some_iff.mp H
    obtain ⟨t158, hA_, H⟩ := H
    have H16A := Aside0.mk hA_
    clear hA_
    (try dsimp only at H)
    by_cases c25 : t158 = true
    rotate_left
    ·
     rw [if_neg c25] at H; exact absurd H (by simp)
    rw [if_pos c25] at H
    subst c25
    replace H := Option.bind_eq_some_iff.mp H
    obtain ⟨⟨t160, t161⟩, hA_, H⟩ := H
    have H17A := Aside0.mk hA_
    clear hA_
    (try dsimp only at H)
    replace H := Option.bind_eq_some_iff.mp H
    obtain ⟨⟨t164, t165⟩, hA_, H⟩ := H
    have H18A := Aside0.mk hA_
    clear hA_
    (try dsimp only at H)
    replace H := Option.bind_eq_some_iff.mp H
    obtain ⟨⟨t168, t169⟩, hA_, H⟩ := H
    have H19A := Aside0.mk hA_
    clear hA_
    (try dsimp only at H)
    replace H := Option.bind_eq_some_iff.mp H
    obtain ⟨t172, hA_, H⟩ := H
    have H20A := Aside0.mk hA_
    clear hA_
    (try dsimp only at H)
    by_cases c30 : t168 < 0
    ·
     rw [if_pos c30] at H; exact absurd H (by simp)
    rw [if_neg c30] at H
    have c30b0 : decide (t168 < 0) = false := decide_eq_false c30
    clear c30
    by_cases c31 : t172 = true
    rotate_left
    ·
     rw [if_neg c31] at H; exact absurd H (by simp)
    rw [if_pos c31] at H
    subst c31
    rw [if_pos rfl] at H
    replace H := Option.bind_eq_some_iff.mp H
    obtain ⟨⟨t174, t175⟩, hA_, H⟩ := H
    have H21A := Aside0.mk hA_
    clear hA_
    (try dsimp only at H)
    replace H := Option.bind_eq_some_iff.mp H
    obtain ⟨t178, hA_, H⟩ := H
    have H22A := Aside0.mk hA_
    clear hA_
    (try dsimp only at H)
    by_cases c35 : t178 < 0
    ·
     rw [if_pos c35] at H; exact absurd H (by simp)
    rw [if_neg c35] at H
    have c35b0 : decide (t178 < 0) = false := decide_eq_false c35
    clear c35
    by_cases c36 : t178 = t174
    rotate_left
    ·
     rw [if_neg c36] at H; exact absurd H (by simp)
    rw [if_pos c36] at H
    subst c36
    replace H := Option.bind_eq_some_iff.mp H
    obtain ⟨t181, hA_, H⟩ := H
    have H23A := Aside0.mk hA_
    clear hA_
    (try dsimp only at H)
    replace H := Option.bind_eq_some_iff.mp H
    obtain ⟨⟨t184, t185⟩, hA_, H⟩ := H
    have H24A := Aside0.mk hA_
    clear hA_
    (try dsimp only at H)
    replace H := Option.bind_eq_some_iff.mp H
    obtain ⟨t188, hA_, H⟩ := H
    have H25A := Aside0.mk hA_
    clear hA_
    (try dsimp only at H)
    replace H := Option.bind_eq_some_iff.mp H
    obtain ⟨⟨t191, t192⟩, hA_, H⟩ := H
    have H26A := Aside0.mk hA_
    clear hA_
    (try dsimp only at H)
    replace H := Option.bind_eq_some_iff.mp H
    obtain ⟨t195, hA_, H⟩ := H
    have H27A := Aside0.mk hA_
    clear hA_
    (try dsimp only at H)
    by_cases c42 : t195 = true
    rotate_left
    ·
     rw [if_neg c42] at H; exact absurd H (by simp)
    rw [if_pos c42] at H
    subst c42
    by_cases c43 : t192 = t137
    rotate_left
    ·
     rw [if_neg c43] at H; exact absurd H (by simp)
    rw [if_pos c43] at H
    subst c43
    replace H := Option.bind_eq_some_iff.mp H
    obtain ⟨t197, hA_, H⟩ := H
    have H28A := Aside0.mk hA_
    clear hA_
    (try dsimp only at H)
    by_cases c45 : t197 < 0
    ·
     rw [if_pos c45] at H; exact absurd H (by simp)
    rw [if_neg c45] at H
    have c45b0 : decide (t197 < 0) = false := decide_eq_false c45
    clear c45
    by_cases c46 : t197 = t178
    rotate_left
    ·
     rw [if_neg c46] at H; exact absurd H (by simp)
    rw [if_pos c46] at H
    subst c46
    obtain rfl := Option.some.inj H
    go_enter Try.func3, Try.ntmps3
    try go_wp2_with (first | ((with_reducible refine gate_dst (N := 3) rfl ?_); refine box_event ?hg (N := 3) ?hd (cs := #[.slice A0_0 l0_0.length c0_0]) (t := 24) ?hr ?_; (case hd => rfl); (case hg => rfl); (case hr => first | (go_simp; done) | (go_simp; rfl)); intro gb3 hg w101 hbox hb; replace BK3 := Aside0.mk (hbox); replace CB3 := Aside0.mk ((⟨by rw [hg]; exact HN.out, Nat.le_succ _⟩ : w.heap.size ≤ gb3 ∧ gb3 ≤ gb3 + 1)); replace GE3 := Aside0.mk ((by rw [hg]; exact below_size HB.out : w.heap.size ≤ gb3)); replace HB := Aside0.mk (below_step HB.out hb); replace HN := Aside0.mk ((blk_lt hbox : gb3 + 1 ≤ w101.heap.size)); clear hb hbox hg; have hczgb3_0 : w101.cell? ⟨gb3, 0, none⟩ = some (.slice A0_0 l0_0.length c0_0) := (blk_cell BK3.out 0).trans rfl; have hfzgb3_0 := blk_frozen BK3.out 0) | ((with_reducible refine gate_dst (N := 4) rfl ?_); refine box_event ?hg (N := 4) ?hd (cs := #[.int .i64 a1_0, .slice A1_1 l1_1.length c1_1]) (t := 27) ?hr ?_; (case hd => rfl); (case hg => rfl); (case hr => first | (go_simp; done) | (go_simp; rfl)); intro gb4 hg w102 hbox hb; replace BK3 := Aside0.mk (blk_below BK3.out hb); replace BK4 := Aside0.mk (hbox); replace CB4 := Aside0.mk ((⟨by rw [hg]; exact HN.out, Nat.le_succ _⟩ : gb3 + 1 ≤ gb4 ∧ gb4 ≤ gb4 + 1)); replace GE4 := Aside0.mk ((by rw [hg]; exact below_size HB.out : w.heap.size ≤ gb4)); replace HB := Aside0.mk (below_step HB.out hb); replace HN := Aside0.mk ((blk_lt hbox : gb4 + 1 ≤ w102.heap.size)); clear hb hbox hg; clear hczgb3_0; have hczgb3_0 : w102.cell? ⟨gb3, 0, none⟩ = some (.slice A0_0 l0_0.length c0_0) := (blk_cell BK3.out 0).trans rfl; clear hfzgb3_0; have hfzgb3_0 := blk_frozen BK3.out 0; have hczgb4_0 : w102.cell? ⟨gb4, 0, none⟩ = some (.int .i64 a1_0) := (blk_cell BK4.out 0).trans rfl; have hfzgb4_0 := blk_frozen BK4.out 0; have hczgb4_1 : w102.cell? ⟨gb4, 1, none⟩ = some (.slice A1_1 l1_1.length c1_1) := (blk_cell BK4.out 1).trans rfl; have hfzgb4_1 := blk_frozen BK4.out 1) | ((with_reducible refine gate_callee (f := 13) rfl ?_); refine goesL_ (some 25) rfl rfl Try.func13 (by kernel_rfl) rfl #[.agg #[.slice A0_0 l0_0.length c0_0], .int .i64 1048576] rfl (by (try simp only [List.map_toArray, List.map_cons, List.map_nil]); first | done | rfl | (simp only [List.length_drop, List.length_take]; rfl)) ?_; (with_reducible refine (laws_szGroup.calls k _ _ l0_0 1048576 t103 _ ?side1 ?side2 H0A.out).mono ?_); (case side1 => exact Kd.C_below HR0_0.out HB.out); (case side2 => exact HC0_0.out); rintro e w104 ⟨rfl, hb⟩; refine ⟨_, rfl, ?_⟩; replace BK3 := Aside0.mk (blk_below BK3.out hb); replace BK4 := Aside0.mk (blk_below BK4.out hb); replace HB := Aside0.mk (below_step HB.out hb); replace HN := Aside0.mk (Nat.le_trans HN.out hb.size); clear hb; clear hczgb3_0; have hczgb3_0 : w104.cell? ⟨gb3, 0, none⟩ = some (.slice A0_0 l0_0.length c0_0) := (blk_cell BK3.out 0).trans rfl; clear hfzgb3_0; have hfzgb3_0 := blk_frozen BK3.out 0; clear hczgb4_0; have hczgb4_0 : w104.cell? ⟨gb4, 0, none⟩ = some (.int .i64 a1_0) := (blk_cell BK4.out 0).trans rfl; clear hfzgb4_0; have hfzgb4_0 := blk_frozen BK4.out 0; clear hczgb4_1; have hczgb4_1 : w104.cell? ⟨gb4, 1, none⟩ = some (.slice A1_1 l1_1.length c1_1) := (blk_cell BK4.out 1).trans rfl; clear hfzgb4_1; have hfzgb4_1 := blk_frozen BK4.out 1) | ((with_reducible refine gate_callee (f := 14) rfl ?_); refine goesL_ (some 30) rfl rfl Try.func14 (by kernel_rfl) rfl #[.agg #[.int .i64 a1_0, .slice A1_1 l1_1.length c1_1], .int .i64 t103] rfl (by (try simp only [List.map_toArray, List.map_cons, List.map_nil]); first | done | rfl | (simp only [List.length_drop, List.length_take]; rfl)) ?_; (with_reducible refine (laws_szModule.calls a1_0 _ _ l1_1 t103 t105 _ ?side1 ?side2 H1A.out).mono ?_); (case side1 => exact Kd.C_below HR1_1.out HB.out); (case side2 => exact HC1_1.out); rintro e w106 ⟨rfl, hb⟩; refine ⟨_, rfl, ?_⟩; replace BK3 := Aside0.mk (blk_below BK3.out hb); replace BK4 := Aside0.mk (blk_below BK4.out hb); replace HB := Aside0.mk (below_step HB.out hb); replace HN := Aside0.mk (Nat.le_trans HN.out hb.size); clear hb; clear hczgb3_0; have hczgb3_0 : w106.cell? ⟨gb3, 0, none⟩ = some (.slice A0_0 l0_0.length c0_0) := (blk_cell BK3.out 0).trans rfl; clear hfzgb3_0; have hfzgb3_0 := blk_frozen BK3.out 0; clear hczgb4_0; have hczgb4_0 : w106.cell? ⟨gb4, 0, none⟩ = some (.int .i64 a1_0) := (blk_cell BK4.out 0).trans rfl; clear hfzgb4_0; have hfzgb4_0 := blk_frozen BK4.out 0; clear hczgb4_1; have hczgb4_1 : w106.cell? ⟨gb4, 1, none⟩ = some (.slice A1_1 l1_1.length c1_1) := (blk_cell BK4.out 1).trans rfl; clear hfzgb4_1; have hfzgb4_1 := blk_frozen BK4.out 1))
    replace BK3 := Aside0.mk (blk_drew BK3.out)
    replace BK4 := Aside0.mk (blk_drew BK4.out)
    replace HB := Aside0.mk (below_drew1 HB.out)
    replace HN := Aside0.mk (sz_drew HN.out)
    refine start_ (n := 12) (S := fun w' => w'.cell? ⟨gb3, 0, none⟩ = some (.slice A0_0 l0_0.length c0_0) ∧ w'.cell? ⟨gb4, 0, none⟩ = some (.int .i64 a1_0) ∧ w'.cell? ⟨gb4, 1, none⟩ = some (.slice A1_1 l1_1.length c1_1)) (ds := []) #[false, false, false, false, false, false, false, false, false, false, false, false] (by kernel_rfl) rfl rfl ⟨(blk_cell BK3.out 0).trans rfl, (blk_cell BK4.out 0).trans rfl, (blk_cell BK4.out 1).trans rfl⟩ (fun hHeld => ?_)
    refine with_tabW laws_FnExactComplementOf.tab10 laws_FnExactComplementOf.bits10 (fun HT_ HW_ => ?_)
    generalize w106.drew = w107 at BK3 BK4 HB HN hHeld ⊢
    refine take_ (i := 0) (N := some 34) (v := ?_) (a' := ?_) #[true, false, false, false, false, false, false, false, false, false, false, false] rfl rfl (take_ofW HT_.out HW_.out (by kernel_rfl)) (fun _ _ _ h => h) (Or.inl ⟨by rfl, ?_⟩) hHeld ?_ ?_
    rotate_left
    ·
     rintro w' ⟨s0, s1, s2⟩
     go_simp
     with_reducible rfl
    rotate_left
    ·
     simp only [Act.put, List.setIfInBounds_toArray, List.set_cons_zero, List.set_cons_succ, i64_w, i32_w]
     rfl
    refine take_ (i := 2) (N := some 36) (v := ?_) (a' := ?_) #[true, false, true, false, false, false, false, false, false, false, false, false] rfl rfl (take_ofW HT_.out HW_.out (by kernel_rfl)) (fun _ _ _ h => h) (Or.inl ⟨by rfl, ?_⟩) hHeld ?_ ?_
    rotate_left
    ·
     rintro w' ⟨s0, s1, s2⟩
     go_simp
     with_reducible rfl
    rotate_left
    ·
     simp only [Act.put, List.setIfInBounds_toArray, List.set_cons_zero, List.set_cons_succ, i64_w, i32_w]
     rfl
    refine pure_ (i := 4) (N := some 38) (v := ?_) (a' := ?_) #[true, false, true, false, true, false, false, false, false, false, false, false] rfl rfl (any_of HT_.out (by kernel_rfl)) (fun _ _ _ h => h) (Or.inl ⟨by rfl, ?_⟩) ?_ ?_
    rotate_left
    ·
     intro w'
     go_simp
     with_reducible rfl
    rotate_left
    ·
     simp only [Act.put, List.setIfInBounds_toArray, List.set_cons_zero, List.set_cons_succ, i64_w, i32_w]
     rfl
    refine one_ (i := 1) (N := some 35) #[true, true, true, false, true, false, false, false, false, false, false, false] rfl rfl (one_of HT_.out (by kernel_rfl)) (by decide) (fun K hK => ?_)
    refine goes_ Try.func16 (by kernel_rfl) rfl #[.agg #[.slice A0_0 l0_0.length c0_0]] (by rfl) rfl rfl (by (try simp only [List.map_toArray, List.map_cons, List.map_nil]); first | done | rfl | (simp only [List.length_drop, List.length_take]; rfl)) ?_
    (with_reducible refine (laws_toGroup.calls k _ _ l0_0 t108 _ ?side1 ?side2 H2A.out).mono ?_)
    (case side1 => exact Kd.C_below HR0_0.out HB.out)
    (case side2 => exact HC0_0.out)
    rintro e w110 ⟨vv110_v0_, rfl, ho0, hb⟩
    obtain ⟨Ao109, co109, eo_⟩ := Kd.S_slice ho0
    subst eo_
    refine ⟨_, rfl, ?_⟩
    obtain ⟨lo109, hi109, hc_, hn_, hbo_⟩ := bornS HN.out (below_size HB.out) ho0 hb
    replace BK3 := Aside0.mk (blk_below BK3.out hb)
    replace BK4 := Aside0.mk (blk_below BK4.out hb)
    replace HO109 := Aside0.mk (hbo_)
    replace C109 := Aside0.mk (hc_)
    replace HB := Aside0.mk (below_step HB.out hb)
    replace HN := Aside0.mk (hn_)
    clear hb
    (try clear ho0)
    refine hK.out _ _ ⟨(blk_cell BK3.out 0).trans rfl, (blk_cell BK4.out 0).trans rfl, (blk_cell BK4.out 1).trans rfl⟩ (fun hHeld => ?_)
    clear hK K
    refine norm_ (a' := ?_) ?_ ?_
    rotate_left
    ·
     show Act.put _ (some 35) _ = _
     simp only [Act.put, List.setIfInBounds_toArray, List.set_cons_zero, List.set_cons_succ, i64_w, i32_w]
     rfl
    refine one_ (i := 3) (N := some 37) #[true, true, true, true, true, false, false, false, false, false, false, false] rfl rfl (one_of HT_.out (by kernel_rfl)) (by decide) (fun K hK => ?_)
    refine goes_ Try.func17 (by kernel_rfl) rfl #[.agg #[.int .i64 a1_0, .slice A1_1 l1_1.length c1_1]] (by rfl) rfl rfl (by (try simp only [List.map_toArray, List.map_cons, List.map_nil]); first | done | rfl | (simp only [List.length_drop, List.length_take]; rfl)) ?_
    (with_reducible refine (laws_toModule.calls k a1_0 _ _ l1_1 t111 t112 _ ?side1 ?side2 H3A.out).mono ?_)
    (case side1 => exact Kd.C_below HR1_1.out HB.out)
    (case side2 => exact HC1_1.out)
    rintro e w114 ⟨vv114_v1_, rfl, ho0, hb⟩
    obtain ⟨Ao113, co113, eo_⟩ := Kd.R_slice ho0
    subst eo_
    refine ⟨_, rfl, ?_⟩
    obtain ⟨lo113, hi113, hc_, hn_, hbo_⟩ := bornR HN.out (below_size HB.out) ho0 hb
    replace HO109 := Aside0.mk (Kd.S_below HO109.out hb)
    replace BK3 := Aside0.mk (blk_below BK3.out hb)
    replace BK4 := Aside0.mk (blk_below BK4.out hb)
    replace HO113 := Aside0.mk (hbo_)
    replace C113 := Aside0.mk (hc_)
    replace HB := Aside0.mk (below_step HB.out hb)
    replace HN := Aside0.mk (hn_)
    clear hb
    (try clear ho0)
    refine hK.out _ _ ⟨(blk_cell BK3.out 0).trans rfl, (blk_cell BK4.out 0).trans rfl, (blk_cell BK4.out 1).trans rfl⟩ (fun hHeld => ?_)
    clear hK K
    refine norm_ (a' := ?_) ?_ ?_
    rotate_left
    ·
     show Act.put _ (some 37) _ = _
     simp only [Act.put, List.setIfInBounds_toArray, List.set_cons_zero, List.set_cons_succ, i64_w, i32_w]
     rfl
    refine one_ (i := 5) (N := some 39) #[true, true, true, true, true, true, false, false, false, false, false, false] rfl rfl (one_of HT_.out (by kernel_rfl)) (by decide) (fun K hK => ?_)
    refine goes_ Try.func18 (by kernel_rfl) rfl #[.slice A2 l2.length c2] (by rfl) rfl rfl (by (try simp only [List.map_toArray, List.map_cons, List.map_nil]); first | done | rfl | (simp only [List.length_drop, List.length_take]; rfl)) ?_
    (with_reducible refine (laws_toInt64S.calls k _ _ l2 t115 _ ?side1 ?side2 H4A.out).mono ?_)
    (case side1 => exact Kd.C_below HR2.out HB.out)
    (case side2 => exact HC2.out)
    rintro e w117 ⟨vv117_v0_, rfl, ho0, hb⟩
    obtain ⟨Ao116, co116, eo_⟩ := Kd.R_slice ho0
    subst eo_
    refine ⟨_, rfl, ?_⟩
    obtain ⟨lo116, hi116, hc_, hn_, hbo_⟩ := bornR HN.out (below_size HB.out) ho0 hb
    replace HO109 := Aside0.mk (Kd.S_below HO109.out hb)
    replace HO113 := Aside0.mk (Kd.R_below HO113.out hb)
    replace BK3 := Aside0.mk (blk_below BK3.out hb)
    replace BK4 := Aside0.mk (blk_below BK4.out hb)
    replace HO116 := Aside0.mk (hbo_)
    replace C116 := Aside0.mk (hc_)
    replace HB := Aside0.mk (below_step HB.out hb)
    replace HN := Aside0.mk (hn_)
    clear hb
    (try clear ho0)
    refine hK.out _ _ ⟨(blk_cell BK3.out 0).trans rfl, (blk_cell BK4.out 0).trans rfl, (blk_cell BK4.out 1).trans rfl⟩ (fun hHeld => ?_)
    clear hK K
    refine norm_ (a' := ?_) ?_ ?_
    rotate_left
    ·
     show Act.put _ (some 39) _ = _
     simp only [Act.put, List.setIfInBounds_toArray, List.set_cons_zero, List.set_cons_succ, i64_w, i32_w]
     rfl
    refine one_ (i := 6) (N := some 40) #[true, true, true, true, true, true, true, false, false, false, false, false] rfl rfl (one_of HT_.out (by kernel_rfl)) (by decide) (fun K hK => ?_)
    refine goes_ Try.func15 (by kernel_rfl) rfl #[.agg #[.slice Ao109 t108.length co109], .agg #[.int .i64 t111, .slice Ao113 t112.length co113], .slice Ao116 t115.length co116] (by rfl) rfl rfl (by (try simp only [List.map_toArray, List.map_cons, List.map_nil]); first | done | rfl | (simp only [List.length_drop, List.length_take]; rfl)) ?_
    (with_reducible refine (spec_ComplementOf.calls k _ _ t108 t111 _ _ t112 _ _ t115 t118 t192 _ ?side1 ?side2 ?side3 ?side4 ?side5 ?side6 H5A.out).mono ?_)
    (case side1 => exact (Kd.S_reads' HO109.out).2.2)
    (case side2 => exact capS HO109.out)
    (case side3 => exact (Kd.R_reads' HO113.out).2.2)
    (case side4 => exact capR HO113.out)
    (case side5 => exact (Kd.R_reads' HO116.out).2.2)
    (case side6 => exact capR HO116.out)
    rintro e w121 ⟨vv121_v0_, rfl, ho0, hb⟩
    obtain ⟨Ao120, co120, eo_⟩ := Kd.R_slice ho0
    subst eo_
    refine ⟨_, rfl, ?_⟩
    obtain ⟨lo120, hi120, hc_, hn_, hbo_⟩ := bornR HN.out (below_size HB.out) ho0 hb
    replace HO109 := Aside0.mk (Kd.S_below HO109.out hb)
    replace HO113 := Aside0.mk (Kd.R_below HO113.out hb)
    replace HO116 := Aside0.mk (Kd.R_below HO116.out hb)
    replace BK3 := Aside0.mk (blk_below BK3.out hb)
    replace BK4 := Aside0.mk (blk_below BK4.out hb)
    replace HO120 := Aside0.mk (hbo_)
    replace C120 := Aside0.mk (hc_)
    replace HB := Aside0.mk (below_step HB.out hb)
    replace HN := Aside0.mk (hn_)
    clear hb
    (try clear ho0)
    refine hK.out _ _ ⟨(blk_cell BK3.out 0).trans rfl, (blk_cell BK4.out 0).trans rfl, (blk_cell BK4.out 1).trans rfl⟩ (fun hHeld => ?_)
    clear hK K
    refine norm_ (a' := ?_) ?_ ?_
    rotate_left
    ·
     show Act.put _ (some 40) _ = _
     simp only [Act.put, List.setIfInBounds_toArray, List.set_cons_zero, List.set_cons_succ, i64_w, i32_w]
     rfl
    refine pure_ (i := 7) (N := some 33) (v := ?_) (a' := ?_) #[true, true, true, true, true, true, true, true, false, false, false, false] rfl rfl (any_of HT_.out (by kernel_rfl)) (fun _ _ _ h => h) (Or.inl ⟨by rfl, ?_⟩) ?_ ?_
    rotate_left
    ·
     intro w'
     go_simp
     with_reducible rfl
    rotate_left
    ·
     simp only [Act.put, List.setIfInBounds_toArray, List.set_cons_zero, List.set_cons_succ, i64_w, i32_w]
     rfl
    refine pure_ (i := 8) (N := some 41) (v := ?_) (a' := ?_) #[true, true, true, true, true, true, true, true, true, false, false, false] rfl rfl (any_of HT_.out (by kernel_rfl)) (fun _ _ _ h => h) (Or.inl ⟨by rfl, ?_⟩) ?_ ?_
    rotate_left
    ·
     intro w'
     go_simp
     with_reducible rfl
    rotate_left
    ·
     simp only [Act.put, List.setIfInBounds_toArray, List.set_cons_zero, List.set_cons_succ, i64_w, i32_w]
     rfl
    refine pure_ (i := 9) (N := some 42) (v := ?_) (a' := ?_) #[true, true, true, true, true, true, true, true, true, true, false, false] rfl rfl (any_of HT_.out (by kernel_rfl)) (fun _ _ _ h => h) (Or.inl ⟨by rfl, ?_⟩) ?_ ?_
    rotate_left
    ·
     intro w'
     go_simp
     with_reducible rfl
    rotate_left
    ·
     simp only [Act.put, List.setIfInBounds_toArray, List.set_cons_zero, List.set_cons_succ, i64_w, i32_w]
     rfl
    refine pure_ (i := 10) (N := some 8) (v := ?_) (a' := ?_) #[true, true, true, true, true, true, true, true, true, true, true, false] rfl rfl (any_of HT_.out (by kernel_rfl)) (fun _ _ _ h => h) (Or.inl ⟨by rfl, ?_⟩) ?_ ?_
    rotate_left
    ·
     intro w'
     go_simp
     with_reducible rfl
    rotate_left
    ·
     simp only [Act.put, List.setIfInBounds_toArray, List.set_cons_zero, List.set_cons_succ, i64_w, i32_w]
     rfl
    refine pure_ (i := 11) (N := some 9) (v := ?_) (a' := ?_) #[true, true, true, true, true, true, true, true, true, true, true, true] rfl rfl (any_of HT_.out (by kernel_rfl)) (fun _ _ _ h => h) (Or.inl ⟨by rfl, ?_⟩) ?_ ?_
    rotate_left
    ·
     intro w'
     go_simp
     with_reducible rfl
    rotate_left
    ·
     simp only [Act.put, List.setIfInBounds_toArray, List.set_cons_zero, List.set_cons_succ, i64_w, i32_w]
     rfl
    refine done_ (done_of HT_.out (by kernel_rfl)) ?_
    clear hczgb3_0
    have hczgb3_0 : w121.cell? ⟨gb3, 0, none⟩ = some (.slice A0_0 l0_0.length c0_0) := (blk_cell BK3.out 0).trans rfl
    clear hfzgb3_0
    have hfzgb3_0 := blk_frozen BK3.out 0
    clear hczgb4_0
    have hczgb4_0 : w121.cell? ⟨gb4, 0, none⟩ = some (.int .i64 a1_0) := (blk_cell BK4.out 0).trans rfl
    clear hfzgb4_0
    have hfzgb4_0 := blk_frozen BK4.out 0
    clear hczgb4_1
    have hczgb4_1 : w121.cell? ⟨gb4, 1, none⟩ = some (.slice A1_1 l1_1.length c1_1) := (blk_cell BK4.out 1).trans rfl
    clear hfzgb4_1
    have hfzgb4_1 := blk_frozen BK4.out 1
    try go_wp2_with (first | ((with_reducible refine gate_callee (f := 16) rfl ?_); refine goesL_ (some 44) rfl rfl Try.func16 (by kernel_rfl) rfl #[.agg #[.slice A0_0 l0_0.length c0_0]] rfl (by (try simp only [List.map_toArray, List.map_cons, List.map_nil]); first | done | rfl | (simp only [List.length_drop, List.length_take]; rfl)) ?_; (with_reducible refine (laws_toGroup.calls k _ _ l0_0 t122 _ ?side1 ?side2 H6A.out).mono ?_); (case side1 => exact Kd.C_below HR0_0.out HB.out); (case side2 => exact HC0_0.out); rintro e w124 ⟨vv124_v0_, rfl, ho0, hb⟩; obtain ⟨Ao123, co123, eo_⟩ := Kd.S_slice ho0; subst eo_; refine ⟨_, rfl, ?_⟩; obtain ⟨lo123, hi123, hc_, hn_, hbo_⟩ := bornS HN.out (below_size HB.out) ho0 hb; replace HO120 := Aside0.mk (Kd.R_below HO120.out hb); replace BK3 := Aside0.mk (blk_below BK3.out hb); replace BK4 := Aside0.mk (blk_below BK4.out hb); replace HO123 := Aside0.mk (hbo_); replace C123 := Aside0.mk (hc_); replace HB := Aside0.mk (below_step HB.out hb); replace HN := Aside0.mk (hn_); (try clear HO109); (try clear HO113); (try clear HO116); clear hb; (try clear ho0); clear hczgb3_0; have hczgb3_0 : w124.cell? ⟨gb3, 0, none⟩ = some (.slice A0_0 l0_0.length c0_0) := (blk_cell BK3.out 0).trans rfl; clear hfzgb3_0; have hfzgb3_0 := blk_frozen BK3.out 0; clear hczgb4_0; have hczgb4_0 : w124.cell? ⟨gb4, 0, none⟩ = some (.int .i64 a1_0) := (blk_cell BK4.out 0).trans rfl; clear hfzgb4_0; have hfzgb4_0 := blk_frozen BK4.out 0; clear hczgb4_1; have hczgb4_1 : w124.cell? ⟨gb4, 1, none⟩ = some (.slice A1_1 l1_1.length c1_1) := (blk_cell BK4.out 1).trans rfl; clear hfzgb4_1; have hfzgb4_1 := blk_frozen BK4.out 1) | ((with_reducible refine gate_dst (N := 10) rfl ?_); refine box_event ?hg (N := 10) ?hd (cs := #[.slice none 0 0]) (t := 32) ?hr ?_; (case hd => rfl); (case hg => rfl); (case hr => first | (go_simp; done) | (go_simp; rfl)); intro gb10 hg w125 hbox hb; replace HO120 := Aside0.mk (Kd.R_below HO120.out hb); replace HO123 := Aside0.mk (Kd.S_below HO123.out hb); replace BK3 := Aside0.mk (blk_below BK3.out hb); replace BK4 := Aside0.mk (blk_below BK4.out hb); replace BK10 := Aside0.mk (hbox); replace CB10 := Aside0.mk ((⟨by rw [hg]; exact HN.out, Nat.le_succ _⟩ : hi123 ≤ gb10 ∧ gb10 ≤ gb10 + 1)); replace GE10 := Aside0.mk ((by rw [hg]; exact below_size HB.out : w.heap.size ≤ gb10)); replace HB := Aside0.mk (below_step HB.out hb); replace HN := Aside0.mk ((blk_lt hbox : gb10 + 1 ≤ w125.heap.size)); clear hb hbox hg; clear hczgb3_0; have hczgb3_0 : w125.cell? ⟨gb3, 0, none⟩ = some (.slice A0_0 l0_0.length c0_0) := (blk_cell BK3.out 0).trans rfl; clear hfzgb3_0; have hfzgb3_0 := blk_frozen BK3.out 0; clear hczgb4_0; have hczgb4_0 : w125.cell? ⟨gb4, 0, none⟩ = some (.int .i64 a1_0) := (blk_cell BK4.out 0).trans rfl; clear hfzgb4_0; have hfzgb4_0 := blk_frozen BK4.out 0; clear hczgb4_1; have hczgb4_1 : w125.cell? ⟨gb4, 1, none⟩ = some (.slice A1_1 l1_1.length c1_1) := (blk_cell BK4.out 1).trans rfl; clear hfzgb4_1; have hfzgb4_1 := blk_frozen BK4.out 1; have hczgb10_0 : w125.cell? ⟨gb10, 0, none⟩ = some (.slice none 0 0) := (blk_cell BK10.out 0).trans rfl; have hfzgb10_0 := blk_frozen BK10.out 0) | ((with_reducible refine gate_store (t := 32) (p := 10) rfl ?_); refine store_event (t := 32) (p := 10) (v := ?vo_w126) (w1 := (w125.setCell ⟨gb10, 0, none⟩ (.slice Ao123 t122.length co123))) ?hg ?ho ?hn ?hr ?_; (case ho => rfl); (case hg => rfl); (case hn => rfl); (case hr => first | (go_simp; done) | (go_simp; rfl)); intro w126 hw; have hkp : Kept w125 w126 (fun k_ => k_ = gb10) := (by rw [hw]; refine Kept.setCell ?_ (by exact Or.inl rfl) _; exact Kept.refl _ _); replace HO120 := Aside0.mk (Kd.R_kept HO120.out hkp (fun k_ h1_ h2_ => apartJ (by have h0_ := C120.out; have h1_ := C123.out; have h2_ := CB10.out; omega) h1_ ⟨Nat.le_of_eq h2_.symm, Nat.lt_succ_of_le (Nat.le_of_eq h2_)⟩)); replace HO123 := Aside0.mk (Kd.S_kept HO123.out hkp (fun k_ h1_ h2_ => apartJ (by have h0_ := C123.out; have h1_ := CB10.out; omega) h1_ ⟨Nat.le_of_eq h2_.symm, Nat.lt_succ_of_le (Nat.le_of_eq h2_)⟩)); replace BK3 := Aside0.mk (blk_kept BK3.out hkp (fun h2_ => apartJ (by have h0_ := CB3.out; have h1_ := CB4.out; have h2_ := C109.out; have h3_ := C113.out; have h4_ := C116.out; have h5_ := C120.out; have h6_ := C123.out; have h7_ := CB10.out; omega) ⟨Nat.le_refl _, Nat.lt_succ_self _⟩ ⟨Nat.le_of_eq h2_.symm, Nat.lt_succ_of_le (Nat.le_of_eq h2_)⟩)); replace BK4 := Aside0.mk (blk_kept BK4.out hkp (fun h2_ => apartJ (by have h0_ := CB4.out; have h1_ := C109.out; have h2_ := C113.out; have h3_ := C116.out; have h4_ := C120.out; have h5_ := C123.out; have h6_ := CB10.out; omega) ⟨Nat.le_refl _, Nat.lt_succ_self _⟩ ⟨Nat.le_of_eq h2_.symm, Nat.lt_succ_of_le (Nat.le_of_eq h2_)⟩)); replace BK10 := Aside0.mk ((by rw [hw]; refine blk_put (cs := #[.slice none 0 0]) ?_ 0 _ rfl; exact BK10.out : w126.heap[gb10]? = some (.cells #[.slice Ao123 t122.length co123] 32 (0, 0)))); replace HB := Aside0.mk ((by rw [hw]; exact (below_set HB.out GE10.out) : Below w.heap.size w w126)); replace HN := Aside0.mk (Nat.le_trans HN.out hkp.1); clear hw hkp; clear hczgb3_0; have hczgb3_0 : w126.cell? ⟨gb3, 0, none⟩ = some (.slice A0_0 l0_0.length c0_0) := (blk_cell BK3.out 0).trans rfl; clear hfzgb3_0; have hfzgb3_0 := blk_frozen BK3.out 0; clear hczgb4_0; have hczgb4_0 : w126.cell? ⟨gb4, 0, none⟩ = some (.int .i64 a1_0) := (blk_cell BK4.out 0).trans rfl; clear hfzgb4_0; have hfzgb4_0 := blk_frozen BK4.out 0; clear hczgb4_1; have hczgb4_1 : w126.cell? ⟨gb4, 1, none⟩ = some (.slice A1_1 l1_1.length c1_1) := (blk_cell BK4.out 1).trans rfl; clear hfzgb4_1; have hfzgb4_1 := blk_frozen BK4.out 1; clear hczgb10_0; have hczgb10_0 : w126.cell? ⟨gb10, 0, none⟩ = some (.slice Ao123 t122.length co123) := (blk_cell BK10.out 0).trans rfl; clear hfzgb10_0; have hfzgb10_0 := blk_frozen BK10.out 0) | ((with_reducible refine gate_callee (f := 17) rfl ?_); refine goesL_ (some 46) rfl rfl Try.func17 (by kernel_rfl) rfl #[.agg #[.int .i64 a1_0, .slice A1_1 l1_1.length c1_1]] rfl (by (try simp only [List.map_toArray, List.map_cons, List.map_nil]); first | done | rfl | (simp only [List.length_drop, List.length_take]; rfl)) ?_; (with_reducible refine (laws_toModule.calls k a1_0 _ _ l1_1 t127 t128 _ ?side1 ?side2 H7A.out).mono ?_); (case side1 => exact Kd.C_below HR1_1.out HB.out); (case side2 => exact HC1_1.out); rintro e w130 ⟨vv130_v1_, rfl, ho0, hb⟩; obtain ⟨Ao129, co129, eo_⟩ := Kd.R_slice ho0; subst eo_; refine ⟨_, rfl, ?_⟩; obtain ⟨lo129, hi129, hc_, hn_, hbo_⟩ := bornR HN.out (below_size HB.out) ho0 hb; replace HO120 := Aside0.mk (Kd.R_below HO120.out hb); replace HO123 := Aside0.mk (Kd.S_below HO123.out hb); replace BK3 := Aside0.mk (blk_below BK3.out hb); replace BK4 := Aside0.mk (blk_below BK4.out hb); replace BK10 := Aside0.mk (blk_below BK10.out hb); replace HO129 := Aside0.mk (hbo_); replace C129 := Aside0.mk (hc_); replace HB := Aside0.mk (below_step HB.out hb); replace HN := Aside0.mk (hn_); clear hb; (try clear ho0); clear hczgb3_0; have hczgb3_0 : w130.cell? ⟨gb3, 0, none⟩ = some (.slice A0_0 l0_0.length c0_0) := (blk_cell BK3.out 0).trans rfl; clear hfzgb3_0; have hfzgb3_0 := blk_frozen BK3.out 0; clear hczgb4_0; have hczgb4_0 : w130.cell? ⟨gb4, 0, none⟩ = some (.int .i64 a1_0) := (blk_cell BK4.out 0).trans rfl; clear hfzgb4_0; have hfzgb4_0 := blk_frozen BK4.out 0; clear hczgb4_1; have hczgb4_1 : w130.cell? ⟨gb4, 1, none⟩ = some (.slice A1_1 l1_1.length c1_1) := (blk_cell BK4.out 1).trans rfl; clear hfzgb4_1; have hfzgb4_1 := blk_frozen BK4.out 1; clear hczgb10_0; have hczgb10_0 : w130.cell? ⟨gb10, 0, none⟩ = some (.slice Ao123 t122.length co123) := (blk_cell BK10.out 0).trans rfl; clear hfzgb10_0; have hfzgb10_0 := blk_frozen BK10.out 0) | ((with_reducible refine gate_dst (N := 11) rfl ?_); refine box_event ?hg (N := 11) ?hd (cs := #[.int .i64 0, .slice none 0 0]) (t := 34) ?hr ?_; (case hd => rfl); (case hg => rfl); (case hr => first | (go_simp; done) | (go_simp; rfl)); intro gb11 hg w131 hbox hb; replace HO120 := Aside0.mk (Kd.R_below HO120.out hb); replace HO123 := Aside0.mk (Kd.S_below HO123.out hb); replace HO129 := Aside0.mk (Kd.R_below HO129.out hb); replace BK3 := Aside0.mk (blk_below BK3.out hb); replace BK4 := Aside0.mk (blk_below BK4.out hb); replace BK10 := Aside0.mk (blk_below BK10.out hb); replace BK11 := Aside0.mk (hbox); replace CB11 := Aside0.mk ((⟨by rw [hg]; exact HN.out, Nat.le_succ _⟩ : hi129 ≤ gb11 ∧ gb11 ≤ gb11 + 1)); replace GE11 := Aside0.mk ((by rw [hg]; exact below_size HB.out : w.heap.size ≤ gb11)); replace HB := Aside0.mk (below_step HB.out hb); replace HN := Aside0.mk ((blk_lt hbox : gb11 + 1 ≤ w131.heap.size)); clear hb hbox hg; clear hczgb3_0; have hczgb3_0 : w131.cell? ⟨gb3, 0, none⟩ = some (.slice A0_0 l0_0.length c0_0) := (blk_cell BK3.out 0).trans rfl; clear hfzgb3_0; have hfzgb3_0 := blk_frozen BK3.out 0; clear hczgb4_0; have hczgb4_0 : w131.cell? ⟨gb4, 0, none⟩ = some (.int .i64 a1_0) := (blk_cell BK4.out 0).trans rfl; clear hfzgb4_0; have hfzgb4_0 := blk_frozen BK4.out 0; clear hczgb4_1; have hczgb4_1 : w131.cell? ⟨gb4, 1, none⟩ = some (.slice A1_1 l1_1.length c1_1) := (blk_cell BK4.out 1).trans rfl; clear hfzgb4_1; have hfzgb4_1 := blk_frozen BK4.out 1; clear hczgb10_0; have hczgb10_0 : w131.cell? ⟨gb10, 0, none⟩ = some (.slice Ao123 t122.length co123) := (blk_cell BK10.out 0).trans rfl; clear hfzgb10_0; have hfzgb10_0 := blk_frozen BK10.out 0; have hczgb11_0 : w131.cell? ⟨gb11, 0, none⟩ = some (.int .i64 0) := (blk_cell BK11.out 0).trans rfl; have hfzgb11_0 := blk_frozen BK11.out 0; have hczgb11_1 : w131.cell? ⟨gb11, 1, none⟩ = some (.slice none 0 0) := (blk_cell BK11.out 1).trans rfl; have hfzgb11_1 := blk_frozen BK11.out 1) | ((with_reducible refine gate_store (t := 34) (p := 11) rfl ?_); refine store_event (t := 34) (p := 11) (v := ?vo_w132) (w1 := ((w131.setCell ⟨gb11, 0, none⟩ (.int .i64 t127)).setCell ⟨gb11, 1, none⟩ (.slice Ao129 t128.length co129))) ?hg ?ho ?hn ?hr ?_; (case ho => rfl); (case hg => rfl); (case hn => rfl); (case hr => first | (go_simp; done) | (go_simp; rfl)); intro w132 hw; have hkp : Kept w131 w132 (fun k_ => k_ = gb11) := (by rw [hw]; refine Kept.setCell ?_ (by exact Or.inl rfl) _; refine Kept.setCell ?_ (by exact Or.inl rfl) _; exact Kept.refl _ _); replace HO120 := Aside0.mk (Kd.R_kept HO120.out hkp (fun k_ h1_ h2_ => apartJ (by have h0_ := C120.out; have h1_ := C123.out; have h2_ := CB10.out; have h3_ := C129.out; have h4_ := CB11.out; omega) h1_ ⟨Nat.le_of_eq h2_.symm, Nat.lt_succ_of_le (Nat.le_of_eq h2_)⟩)); replace HO123 := Aside0.mk (Kd.S_kept HO123.out hkp (fun k_ h1_ h2_ => apartJ (by have h0_ := C123.out; have h1_ := CB10.out; have h2_ := C129.out; have h3_ := CB11.out; omega) h1_ ⟨Nat.le_of_eq h2_.symm, Nat.lt_succ_of_le (Nat.le_of_eq h2_)⟩)); replace HO129 := Aside0.mk (Kd.R_kept HO129.out hkp (fun k_ h1_ h2_ => apartJ (by have h0_ := C129.out; have h1_ := CB11.out; omega) h1_ ⟨Nat.le_of_eq h2_.symm, Nat.lt_succ_of_le (Nat.le_of_eq h2_)⟩)); replace BK3 := Aside0.mk (blk_kept BK3.out hkp (fun h2_ => apartJ (by have h0_ := CB3.out; have h1_ := CB4.out; have h2_ := C109.out; have h3_ := C113.out; have h4_ := C116.out; have h5_ := C120.out; have h6_ := C123.out; have h7_ := CB10.out; have h8_ := C129.out; have h9_ := CB11.out; omega) ⟨Nat.le_refl _, Nat.lt_succ_self _⟩ ⟨Nat.le_of_eq h2_.symm, Nat.lt_succ_of_le (Nat.le_of_eq h2_)⟩)); replace BK4 := Aside0.mk (blk_kept BK4.out hkp (fun h2_ => apartJ (by have h0_ := CB4.out; have h1_ := C109.out; have h2_ := C113.out; have h3_ := C116.out; have h4_ := C120.out; have h5_ := C123.out; have h6_ := CB10.out; have h7_ := C129.out; have h8_ := CB11.out; omega) ⟨Nat.le_refl _, Nat.lt_succ_self _⟩ ⟨Nat.le_of_eq h2_.symm, Nat.lt_succ_of_le (Nat.le_of_eq h2_)⟩)); replace BK10 := Aside0.mk (blk_kept BK10.out hkp (fun h2_ => apartJ (by have h0_ := CB10.out; have h1_ := C129.out; have h2_ := CB11.out; omega) ⟨Nat.le_refl _, Nat.lt_succ_self _⟩ ⟨Nat.le_of_eq h2_.symm, Nat.lt_succ_of_le (Nat.le_of_eq h2_)⟩)); replace BK11 := Aside0.mk ((by rw [hw]; refine blk_put (cs := #[.int .i64 t127, .slice none 0 0]) ?_ 1 _ rfl; refine blk_put (cs := #[.int .i64 0, .slice none 0 0]) ?_ 0 _ rfl; exact BK11.out : w132.heap[gb11]? = some (.cells #[.int .i64 t127, .slice Ao129 t128.length co129] 34 (0, 0)))); replace HB := Aside0.mk ((by rw [hw]; exact (below_set (below_set HB.out GE11.out) GE11.out) : Below w.heap.size w w132)); replace HN := Aside0.mk (Nat.le_trans HN.out hkp.1); clear hw hkp; clear hczgb3_0; have hczgb3_0 : w132.cell? ⟨gb3, 0, none⟩ = some (.slice A0_0 l0_0.length c0_0) := (blk_cell BK3.out 0).trans rfl; clear hfzgb3_0; have hfzgb3_0 := blk_frozen BK3.out 0; clear hczgb4_0; have hczgb4_0 : w132.cell? ⟨gb4, 0, none⟩ = some (.int .i64 a1_0) := (blk_cell BK4.out 0).trans rfl; clear hfzgb4_0; have hfzgb4_0 := blk_frozen BK4.out 0; clear hczgb4_1; have hczgb4_1 : w132.cell? ⟨gb4, 1, none⟩ = some (.slice A1_1 l1_1.length c1_1) := (blk_cell BK4.out 1).trans rfl; clear hfzgb4_1; have hfzgb4_1 := blk_frozen BK4.out 1; clear hczgb10_0; have hczgb10_0 : w132.cell? ⟨gb10, 0, none⟩ = some (.slice Ao123 t122.length co123) := (blk_cell BK10.out 0).trans rfl; clear hfzgb10_0; have hfzgb10_0 := blk_frozen BK10.out 0; clear hczgb11_0; have hczgb11_0 : w132.cell? ⟨gb11, 0, none⟩ = some (.int .i64 t127) := (blk_cell BK11.out 0).trans rfl; clear hfzgb11_0; have hfzgb11_0 := blk_frozen BK11.out 0; clear hczgb11_1; have hczgb11_1 : w132.cell? ⟨gb11, 1, none⟩ = some (.slice Ao129 t128.length co129) := (blk_cell BK11.out 1).trans rfl; clear hfzgb11_1; have hfzgb11_1 := blk_frozen BK11.out 1) | ((with_reducible refine gate_callee (f := 18) rfl ?_); refine goesL_ (some 48) rfl rfl Try.func18 (by kernel_rfl) rfl #[.slice A2 l2.length c2] rfl (by (try simp only [List.map_toArray, List.map_cons, List.map_nil]); first | done | rfl | (simp only [List.length_drop, List.length_take]; rfl)) ?_; (with_reducible refine (laws_toInt64S.calls k _ _ l2 t133 _ ?side1 ?side2 H8A.out).mono ?_); (case side1 => exact Kd.C_below HR2.out HB.out); (case side2 => exact HC2.out); rintro e w135 ⟨vv135_v0_, rfl, ho0, hb⟩; obtain ⟨Ao134, co134, eo_⟩ := Kd.R_slice ho0; subst eo_; refine ⟨_, rfl, ?_⟩; obtain ⟨lo134, hi134, hc_, hn_, hbo_⟩ := bornR HN.out (below_size HB.out) ho0 hb; replace HO120 := Aside0.mk (Kd.R_below HO120.out hb); replace HO123 := Aside0.mk (Kd.S_below HO123.out hb); replace HO129 := Aside0.mk (Kd.R_below HO129.out hb); replace BK3 := Aside0.mk (blk_below BK3.out hb); replace BK4 := Aside0.mk (blk_below BK4.out hb); replace BK10 := Aside0.mk (blk_below BK10.out hb); replace BK11 := Aside0.mk (blk_below BK11.out hb); replace HO134 := Aside0.mk (hbo_); replace C134 := Aside0.mk (hc_); replace HB := Aside0.mk (below_step HB.out hb); replace HN := Aside0.mk (hn_); clear hb; (try clear ho0); clear hczgb3_0; have hczgb3_0 : w135.cell? ⟨gb3, 0, none⟩ = some (.slice A0_0 l0_0.length c0_0) := (blk_cell BK3.out 0).trans rfl; clear hfzgb3_0; have hfzgb3_0 := blk_frozen BK3.out 0; clear hczgb4_0; have hczgb4_0 : w135.cell? ⟨gb4, 0, none⟩ = some (.int .i64 a1_0) := (blk_cell BK4.out 0).trans rfl; clear hfzgb4_0; have hfzgb4_0 := blk_frozen BK4.out 0; clear hczgb4_1; have hczgb4_1 : w135.cell? ⟨gb4, 1, none⟩ = some (.slice A1_1 l1_1.length c1_1) := (blk_cell BK4.out 1).trans rfl; clear hfzgb4_1; have hfzgb4_1 := blk_frozen BK4.out 1; clear hczgb10_0; have hczgb10_0 : w135.cell? ⟨gb10, 0, none⟩ = some (.slice Ao123 t122.length co123) := (blk_cell BK10.out 0).trans rfl; clear hfzgb10_0; have hfzgb10_0 := blk_frozen BK10.out 0; clear hczgb11_0; have hczgb11_0 : w135.cell? ⟨gb11, 0, none⟩ = some (.int .i64 t127) := (blk_cell BK11.out 0).trans rfl; clear hfzgb11_0; have hfzgb11_0 := blk_frozen BK11.out 0; clear hczgb11_1; have hczgb11_1 : w135.cell? ⟨gb11, 1, none⟩ = some (.slice Ao129 t128.length co129) := (blk_cell BK11.out 1).trans rfl; clear hfzgb11_1; have hfzgb11_1 := blk_frozen BK11.out 1) | ((with_reducible refine gate_callee (f := 19) rfl ?_); refine goesL_ (some 53) rfl rfl Try.func19 (by kernel_rfl) rfl #[.agg #[.slice Ao123 t122.length co123], .agg #[.int .i64 t127, .slice Ao129 t128.length co129], .slice Ao134 t133.length co134] rfl (by (try simp only [List.map_toArray, List.map_cons, List.map_nil]); first | done | rfl | (simp only [List.length_drop, List.length_take]; rfl)) ?_; (with_reducible refine (impl_ComplementOf.calls k _ _ t122 t127 _ _ t128 _ _ t133 t136 t192 _ ?side1 ?side2 ?side3 ?side4 ?side5 ?side6 H9A.out).mono ?_); (case side1 => exact (Kd.S_reads' HO123.out).2.2); (case side2 => exact capS HO123.out); (case side3 => exact (Kd.R_reads' HO129.out).2.2); (case side4 => exact capR HO129.out); (case side5 => exact (Kd.R_reads' HO134.out).2.2); (case side6 => exact capR HO134.out); rintro e w139 ⟨vv139_v0_, rfl, ho0, hb⟩; obtain ⟨Ao138, co138, eo_⟩ := Kd.R_slice ho0; subst eo_; refine ⟨_, rfl, ?_⟩; obtain ⟨lo138, hi138, hc_, hn_, hbo_⟩ := bornR HN.out (below_size HB.out) ho0 hb; replace HO120 := Aside0.mk (Kd.R_below HO120.out hb); replace HO123 := Aside0.mk (Kd.S_below HO123.out hb); replace HO129 := Aside0.mk (Kd.R_below HO129.out hb); replace HO134 := Aside0.mk (Kd.R_below HO134.out hb); replace BK3 := Aside0.mk (blk_below BK3.out hb); replace BK4 := Aside0.mk (blk_below BK4.out hb); replace BK10 := Aside0.mk (blk_below BK10.out hb); replace BK11 := Aside0.mk (blk_below BK11.out hb); replace HO138 := Aside0.mk (hbo_); replace C138 := Aside0.mk (hc_); replace HB := Aside0.mk (below_step HB.out hb); replace HN := Aside0.mk (hn_); clear hb; (try clear ho0); clear hczgb3_0; have hczgb3_0 : w139.cell? ⟨gb3, 0, none⟩ = some (.slice A0_0 l0_0.length c0_0) := (blk_cell BK3.out 0).trans rfl; clear hfzgb3_0; have hfzgb3_0 := blk_frozen BK3.out 0; clear hczgb4_0; have hczgb4_0 : w139.cell? ⟨gb4, 0, none⟩ = some (.int .i64 a1_0) := (blk_cell BK4.out 0).trans rfl; clear hfzgb4_0; have hfzgb4_0 := blk_frozen BK4.out 0; clear hczgb4_1; have hczgb4_1 : w139.cell? ⟨gb4, 1, none⟩ = some (.slice A1_1 l1_1.length c1_1) := (blk_cell BK4.out 1).trans rfl; clear hfzgb4_1; have hfzgb4_1 := blk_frozen BK4.out 1; clear hczgb10_0; have hczgb10_0 : w139.cell? ⟨gb10, 0, none⟩ = some (.slice Ao123 t122.length co123) := (blk_cell BK10.out 0).trans rfl; clear hfzgb10_0; have hfzgb10_0 := blk_frozen BK10.out 0; clear hczgb11_0; have hczgb11_0 : w139.cell? ⟨gb11, 0, none⟩ = some (.int .i64 t127) := (blk_cell BK11.out 0).trans rfl; clear hfzgb11_0; have hfzgb11_0 := blk_frozen BK11.out 0; clear hczgb11_1; have hczgb11_1 : w139.cell? ⟨gb11, 1, none⟩ = some (.slice Ao129 t128.length co129) := (blk_cell BK11.out 1).trans rfl; clear hfzgb11_1; have hfzgb11_1 := blk_frozen BK11.out 1) | ((with_reducible refine gate_callee (f := 20) rfl ?_); refine goesL_ (some 58) rfl rfl Try.func20 (by kernel_rfl) rfl #[.slice Ao138 t136.length co138, .slice Ao120 t118.length co120] rfl (by (try simp only [List.map_toArray, List.map_cons, List.map_nil]); first | done | rfl | (simp only [List.length_drop, List.length_take]; rfl)) ?_; (with_reducible refine (laws_eqInt64S.calls k _ _ t136 _ _ t118 true _ ?side1 ?side2 ?side3 ?side4 H10A.out).mono ?_); (case side1 => exact (Kd.R_reads' HO138.out).2.2); (case side2 => exact capR HO138.out); (case side3 => exact (Kd.R_reads' HO120.out).2.2); (case side4 => exact capR HO120.out); rintro e w141 ⟨rfl, hd⟩; have hb := Drawn0.below hd; refine ⟨_, rfl, ?_⟩; replace HO120 := Aside0.mk (Kd.R_below HO120.out hb); replace HO123 := Aside0.mk (Kd.S_below HO123.out hb); replace HO129 := Aside0.mk (Kd.R_below HO129.out hb); replace HO134 := Aside0.mk (Kd.R_below HO134.out hb); replace HO138 := Aside0.mk (Kd.R_below HO138.out hb); replace BK3 := Aside0.mk (blk_below BK3.out hb); replace BK4 := Aside0.mk (blk_below BK4.out hb); replace BK10 := Aside0.mk (blk_below BK10.out hb); replace BK11 := Aside0.mk (blk_below BK11.out hb); replace HB := Aside0.mk (below_step HB.out hb); replace HN := Aside0.mk (Nat.le_trans HN.out hb.size); clear hd hb; clear hczgb3_0; have hczgb3_0 : w141.cell? ⟨gb3, 0, none⟩ = some (.slice A0_0 l0_0.length c0_0) := (blk_cell BK3.out 0).trans rfl; clear hfzgb3_0; have hfzgb3_0 := blk_frozen BK3.out 0; clear hczgb4_0; have hczgb4_0 : w141.cell? ⟨gb4, 0, none⟩ = some (.int .i64 a1_0) := (blk_cell BK4.out 0).trans rfl; clear hfzgb4_0; have hfzgb4_0 := blk_frozen BK4.out 0; clear hczgb4_1; have hczgb4_1 : w141.cell? ⟨gb4, 1, none⟩ = some (.slice A1_1 l1_1.length c1_1) := (blk_cell BK4.out 1).trans rfl; clear hfzgb4_1; have hfzgb4_1 := blk_frozen BK4.out 1; clear hczgb10_0; have hczgb10_0 : w141.cell? ⟨gb10, 0, none⟩ = some (.slice Ao123 t122.length co123) := (blk_cell BK10.out 0).trans rfl; clear hfzgb10_0; have hfzgb10_0 := blk_frozen BK10.out 0; clear hczgb11_0; have hczgb11_0 : w141.cell? ⟨gb11, 0, none⟩ = some (.int .i64 t127) := (blk_cell BK11.out 0).trans rfl; clear hfzgb11_0; have hfzgb11_0 := blk_frozen BK11.out 0; clear hczgb11_1; have hczgb11_1 : w141.cell? ⟨gb11, 1, none⟩ = some (.slice Ao129 t128.length co129) := (blk_cell BK11.out 1).trans rfl; clear hfzgb11_1; have hfzgb11_1 := blk_frozen BK11.out 1))
    replace HO120 := Aside0.mk (Kd.R_drew HO120.out)
    replace HO123 := Aside0.mk (Kd.S_drew HO123.out)
    replace HO129 := Aside0.mk (Kd.R_drew HO129.out)
    replace HO134 := Aside0.mk (Kd.R_drew HO134.out)
    replace HO138 := Aside0.mk (Kd.R_drew HO138.out)
    replace BK3 := Aside0.mk (blk_drew BK3.out)
    replace BK4 := Aside0.mk (blk_drew BK4.out)
    replace BK10 := Aside0.mk (blk_drew BK10.out)
    replace BK11 := Aside0.mk (blk_drew BK11.out)
    replace HB := Aside0.mk (below_drew1 HB.out)
    replace HN := Aside0.mk (sz_drew HN.out)
    refine start_ (n := 5) (S := fun w' => w'.cell? ⟨gb3, 0, none⟩ = some (.slice A0_0 l0_0.length c0_0) ∧ w'.cell? ⟨gb10, 0, none⟩ = some (.slice Ao123 t122.length co123)) (ds := []) #[false, false, false, false, false] (by kernel_rfl) rfl rfl ⟨(blk_cell BK3.out 0).trans rfl, (blk_cell BK10.out 0).trans rfl⟩ (fun hHeld => ?_)
    refine with_tabW laws_FnExactComplementOf.tab17 laws_FnExactComplementOf.bits17 (fun HT_ HW_ => ?_)
    generalize w141.drew = w142 at HO120 HO123 HO129 HO134 HO138 BK3 BK4 BK10 BK11 HB HN hHeld ⊢
    refine take_ (i := 0) (N := some 65) (v := ?_) (a' := ?_) #[true, false, false, false, false] rfl rfl (take_ofW HT_.out HW_.out (by kernel_rfl)) (fun _ _ _ h => h) (Or.inl ⟨by rfl, ?_⟩) hHeld ?_ ?_
    rotate_left
    ·
     rintro w' ⟨s0, s1⟩
     go_simp
     with_reducible rfl
    rotate_left
    ·
     simp only [Act.put, List.setIfInBounds_toArray, List.set_cons_zero, List.set_cons_succ, i64_w, i32_w]
     rfl
    refine take_ (i := 1) (N := some 66) (v := ?_) (a' := ?_) #[true, true, false, false, false] rfl rfl (take_ofW HT_.out HW_.out (by kernel_rfl)) (fun _ _ _ h => h) (Or.inl ⟨by rfl, ?_⟩) hHeld ?_ ?_
    rotate_left
    ·
     rintro w' ⟨s0, s1⟩
     go_simp
     with_reducible rfl
    rotate_left
    ·
     simp only [Act.put, List.setIfInBounds_toArray, List.set_cons_zero, List.set_cons_succ, i64_w, i32_w]
     rfl
    refine one_ (i := 2) (N := some 67) #[true, true, true, false, false] rfl rfl (one_of HT_.out (by kernel_rfl)) (by decide) (fun K hK => ?_)
    refine goes_ Try.func16 (by kernel_rfl) rfl #[.agg #[.slice A0_0 l0_0.length c0_0]] (by rfl) rfl rfl (by (try simp only [List.map_toArray, List.map_cons, List.map_nil]); first | done | rfl | (simp only [List.length_drop, List.length_take]; rfl)) ?_
    (with_reducible refine (laws_toGroup.calls k _ _ l0_0 t143 _ ?side1 ?side2 H11A.out).mono ?_)
    (case side1 => exact Kd.C_below HR0_0.out HB.out)
    (case side2 => exact HC0_0.out)
    rintro e w145 ⟨vv145_v0_, rfl, ho0, hb⟩
    obtain ⟨Ao144, co144, eo_⟩ := Kd.S_slice ho0
    subst eo_
    refine ⟨_, rfl, ?_⟩
    obtain ⟨lo144, hi144, hc_, hn_, hbo_⟩ := bornS HN.out (below_size HB.out) ho0 hb
    replace HO120 := Aside0.mk (Kd.R_below HO120.out hb)
    replace HO123 := Aside0.mk (Kd.S_below HO123.out hb)
    replace HO129 := Aside0.mk (Kd.R_below HO129.out hb)
    replace HO134 := Aside0.mk (Kd.R_below HO134.out hb)
    replace HO138 := Aside0.mk (Kd.R_below HO138.out hb)
    replace BK3 := Aside0.mk (blk_below BK3.out hb)
    replace BK4 := Aside0.mk (blk_below BK4.out hb)
    replace BK10 := Aside0.mk (blk_below BK10.out hb)
    replace BK11 := Aside0.mk (blk_below BK11.out hb)
    replace HO144 := Aside0.mk (hbo_)
    replace C144 := Aside0.mk (hc_)
    replace HB := Aside0.mk (below_step HB.out hb)
    replace HN := Aside0.mk (hn_)
    clear hb
    (try clear ho0)
    refine hK.out _ _ ⟨(blk_cell BK3.out 0).trans rfl, (blk_cell BK10.out 0).trans rfl⟩ (fun hHeld => ?_)
    clear hK K
    refine norm_ (a' := ?_) ?_ ?_
    rotate_left
    ·
     show Act.put _ (some 67) _ = _
     simp only [Act.put, List.setIfInBounds_toArray, List.set_cons_zero, List.set_cons_succ, i64_w, i32_w]
     rfl
    refine one_ (i := 3) (N := some 68) #[true, true, true, true, false] rfl rfl (one_of HT_.out (by kernel_rfl)) (by decide) (fun K hK => ?_)
    refine goes_ Try.func21 (by kernel_rfl) rfl #[.agg #[.slice Ao123 t122.length co123], .agg #[.slice Ao144 t143.length co144]] (by rfl) rfl rfl (by (try simp only [List.map_toArray, List.map_cons, List.map_nil]); first | done | rfl | (simp only [List.length_drop, List.length_take]; rfl)) ?_
    (with_reducible refine (laws_eqGroup.calls k _ _ t122 _ _ t143 true _ ?side1 ?side2 ?side3 ?side4 H12A.out).mono ?_)
    (case side1 => exact (Kd.S_reads' HO123.out).2.2)
    (case side2 => exact capS HO123.out)
    (case side3 => exact (Kd.S_reads' HO144.out).2.2)
    (case side4 => exact capS HO144.out)
    rintro e w147 ⟨rfl, hb⟩
    refine ⟨_, rfl, ?_⟩
    replace HO120 := Aside0.mk (Kd.R_below HO120.out hb)
    replace HO123 := Aside0.mk (Kd.S_below HO123.out hb)
    replace HO129 := Aside0.mk (Kd.R_below HO129.out hb)
    replace HO134 := Aside0.mk (Kd.R_below HO134.out hb)
    replace HO138 := Aside0.mk (Kd.R_below HO138.out hb)
    replace HO144 := Aside0.mk (Kd.S_below HO144.out hb)
    replace BK3 := Aside0.mk (blk_below BK3.out hb)
    replace BK4 := Aside0.mk (blk_below BK4.out hb)
    replace BK10 := Aside0.mk (blk_below BK10.out hb)
    replace BK11 := Aside0.mk (blk_below BK11.out hb)
    replace HB := Aside0.mk (below_step HB.out hb)
    replace HN := Aside0.mk (Nat.le_trans HN.out hb.size)
    clear hb
    refine hK.out _ _ ⟨(blk_cell BK3.out 0).trans rfl, (blk_cell BK10.out 0).trans rfl⟩ (fun hHeld => ?_)
    clear hK K
    refine norm_ (a' := ?_) ?_ ?_
    rotate_left
    ·
     show Act.put _ (some 68) _ = _
     simp only [Act.put, List.setIfInBounds_toArray, List.set_cons_zero, List.set_cons_succ, i64_w, i32_w]
     rfl
    refine pure_ (i := 4) (N := some 69) (v := ?_) (a' := ?_) #[true, true, true, true, true] rfl rfl (any_of HT_.out (by kernel_rfl)) (fun _ _ _ h => h) (Or.inl ⟨by rfl, ?_⟩) ?_ ?_
    rotate_left
    ·
     intro w'
     go_simp
     with_reducible rfl
    rotate_left
    ·
     simp only [Act.put, List.setIfInBounds_toArray, List.set_cons_zero, List.set_cons_succ, i64_w, i32_w]
     rfl
    refine done_ (done_of HT_.out (by kernel_rfl)) ?_
    clear hczgb3_0
    have hczgb3_0 : w147.cell? ⟨gb3, 0, none⟩ = some (.slice A0_0 l0_0.length c0_0) := (blk_cell BK3.out 0).trans rfl
    clear hfzgb3_0
    have hfzgb3_0 := blk_frozen BK3.out 0
    clear hczgb4_0
    have hczgb4_0 : w147.cell? ⟨gb4, 0, none⟩ = some (.int .i64 a1_0) := (blk_cell BK4.out 0).trans rfl
    clear hfzgb4_0
    have hfzgb4_0 := blk_frozen BK4.out 0
    clear hczgb4_1
    have hczgb4_1 : w147.cell? ⟨gb4, 1, none⟩ = some (.slice A1_1 l1_1.length c1_1) := (blk_cell BK4.out 1).trans rfl
    clear hfzgb4_1
    have hfzgb4_1 := blk_frozen BK4.out 1
    clear hczgb10_0
    have hczgb10_0 : w147.cell? ⟨gb10, 0, none⟩ = some (.slice Ao123 t122.length co123) := (blk_cell BK10.out 0).trans rfl
    clear hfzgb10_0
    have hfzgb10_0 := blk_frozen BK10.out 0
    clear hczgb11_0
    have hczgb11_0 : w147.cell? ⟨gb11, 0, none⟩ = some (.int .i64 t127) := (blk_cell BK11.out 0).trans rfl
    clear hfzgb11_0
    have hfzgb11_0 := blk_frozen BK11.out 0
    clear hczgb11_1
    have hczgb11_1 : w147.cell? ⟨gb11, 1, none⟩ = some (.slice Ao129 t128.length co129) := (blk_cell BK11.out 1).trans rfl
    clear hfzgb11_1
    have hfzgb11_1 := blk_frozen BK11.out 1
    try go_wp2
    replace HO120 := Aside0.mk (Kd.R_drew HO120.out)
    replace HO123 := Aside0.mk (Kd.S_drew HO123.out)
    replace HO129 := Aside0.mk (Kd.R_drew HO129.out)
    replace HO134 := Aside0.mk (Kd.R_drew HO134.out)
    replace HO138 := Aside0.mk (Kd.R_drew HO138.out)
    replace BK3 := Aside0.mk (blk_drew BK3.out)
    replace BK4 := Aside0.mk (blk_drew BK4.out)
    replace BK10 := Aside0.mk (blk_drew BK10.out)
    replace BK11 := Aside0.mk (blk_drew BK11.out)
    replace HB := Aside0.mk (below_drew1 HB.out)
    replace HN := Aside0.mk (sz_drew HN.out)
    (try clear HO144)
    refine start_ (n := 5) (S := fun w' => w'.cell? ⟨gb4, 0, none⟩ = some (.int .i64 a1_0) ∧ w'.cell? ⟨gb4, 1, none⟩ = some (.slice A1_1 l1_1.length c1_1) ∧ w'.cell? ⟨gb11, 0, none⟩ = some (.int .i64 t127) ∧ w'.cell? ⟨gb11, 1, none⟩ = some (.slice Ao129 t128.length co129)) (ds := []) #[false, false, false, false, false] (by kernel_rfl) rfl rfl ⟨(blk_cell BK4.out 0).trans rfl, (blk_cell BK4.out 1).trans rfl, (blk_cell BK11.out 0).trans rfl, (blk_cell BK11.out 1).trans rfl⟩ (fun hHeld => ?_)
    refine with_tabW laws_FnExactComplementOf.tab19 laws_FnExactComplementOf.bits19 (fun HT_ HW_ => ?_)
    generalize w147.drew = w148 at HO120 HO123 HO129 HO134 HO138 BK3 BK4 BK10 BK11 HB HN hHeld ⊢
    refine take_ (i := 0) (N := some 70) (v := ?_) (a' := ?_) #[true, false, false, false, false] rfl rfl (take_ofW HT_.out HW_.out (by kernel_rfl)) (fun _ _ _ h => h) (Or.inl ⟨by rfl, ?_⟩) hHeld ?_ ?_
    rotate_left
    ·
     rintro w' ⟨s0, s1, s2, s3⟩
     go_simp
     with_reducible rfl
    rotate_left
    ·
     simp only [Act.put, List.setIfInBounds_toArray, List.set_cons_zero, List.set_cons_succ, i64_w, i32_w]
     rfl
    refine take_ (i := 1) (N := some 71) (v := ?_) (a' := ?_) #[true, true, false, false, false] rfl rfl (take_ofW HT_.out HW_.out (by kernel_rfl)) (fun _ _ _ h => h) (Or.inl ⟨by rfl, ?_⟩) hHeld ?_ ?_
    rotate_left
    ·
     rintro w' ⟨s0, s1, s2, s3⟩
     go_simp
     with_reducible rfl
    rotate_left
    ·
     simp only [Act.put, List.setIfInBounds_toArray, List.set_cons_zero, List.set_cons_succ, i64_w, i32_w]
     rfl
    refine one_ (i := 2) (N := some 72) #[true, true, true, false, false] rfl rfl (one_of HT_.out (by kernel_rfl)) (by decide) (fun K hK => ?_)
    refine goes_ Try.func17 (by kernel_rfl) rfl #[.agg #[.int .i64 a1_0, .slice A1_1 l1_1.length c1_1]] (by rfl) rfl rfl (by (try simp only [List.map_toArray, List.map_cons, List.map_nil]); first | done | rfl | (simp only [List.length_drop, List.length_take]; rfl)) ?_
    (with_reducible refine (laws_toModule.calls k a1_0 _ _ l1_1 t149 t150 _ ?side1 ?side2 H13A.out).mono ?_)
    (case side1 => exact Kd.C_below HR1_1.out HB.out)
    (case side2 => exact HC1_1.out)
    rintro e w152 ⟨vv152_v1_, rfl, ho0, hb⟩
    obtain ⟨Ao151, co151, eo_⟩ := Kd.R_slice ho0
    subst eo_
    refine ⟨_, rfl, ?_⟩
    obtain ⟨lo151, hi151, hc_, hn_, hbo_⟩ := bornR HN.out (below_size HB.out) ho0 hb
    replace HO120 := Aside0.mk (Kd.R_below HO120.out hb)
    replace HO123 := Aside0.mk (Kd.S_below HO123.out hb)
    replace HO129 := Aside0.mk (Kd.R_below HO129.out hb)
    replace HO134 := Aside0.mk (Kd.R_below HO134.out hb)
    replace HO138 := Aside0.mk (Kd.R_below HO138.out hb)
    replace BK3 := Aside0.mk (blk_below BK3.out hb)
    replace BK4 := Aside0.mk (blk_below BK4.out hb)
    replace BK10 := Aside0.mk (blk_below BK10.out hb)
    replace BK11 := Aside0.mk (blk_below BK11.out hb)
    replace HO151 := Aside0.mk (hbo_)
    replace C151 := Aside0.mk (hc_)
    replace HB := Aside0.mk (below_step HB.out hb)
    replace HN := Aside0.mk (hn_)
    clear hb
    (try clear ho0)
    refine hK.out _ _ ⟨(blk_cell BK4.out 0).trans rfl, (blk_cell BK4.out 1).trans rfl, (blk_cell BK11.out 0).trans rfl, (blk_cell BK11.out 1).trans rfl⟩ (fun hHeld => ?_)
    clear hK K
    refine norm_ (a' := ?_) ?_ ?_
    rotate_left
    ·
     show Act.put _ (some 72) _ = _
     simp only [Act.put, List.setIfInBounds_toArray, List.set_cons_zero, List.set_cons_succ, i64_w, i32_w]
     rfl
    refine one_ (i := 3) (N := some 73) #[true, true, true, true, false] rfl rfl (one_of HT_.out (by kernel_rfl)) (by decide) (fun K hK => ?_)
    refine goes_ Try.func22 (by kernel_rfl) rfl #[.agg #[.int .i64 t127, .slice Ao129 t128.length co129], .agg #[.int .i64 t149, .slice Ao151 t150.length co151]] (by rfl) rfl rfl (by (try simp only [List.map_toArray, List.map_cons, List.map_nil]); first | done | rfl | (simp only [List.length_drop, List.length_take]; rfl)) ?_
    (with_reducible refine (laws_eqModule.calls k t127 _ _ t128 t149 _ _ t150 true _ ?side1 ?side2 ?side3 ?side4 H14A.out).mono ?_)
    (case side1 => exact (Kd.R_reads' HO129.out).2.2)
    (case side2 => exact capR HO129.out)
    (case side3 => exact (Kd.R_reads' HO151.out).2.2)
    (case side4 => exact capR HO151.out)
    rintro e w154 ⟨rfl, hb⟩
    refine ⟨_, rfl, ?_⟩
    replace HO120 := Aside0.mk (Kd.R_below HO120.out hb)
    replace HO123 := Aside0.mk (Kd.S_below HO123.out hb)
    replace HO129 := Aside0.mk (Kd.R_below HO129.out hb)
    replace HO134 := Aside0.mk (Kd.R_below HO134.out hb)
    replace HO138 := Aside0.mk (Kd.R_below HO138.out hb)
    replace HO151 := Aside0.mk (Kd.R_below HO151.out hb)
    replace BK3 := Aside0.mk (blk_below BK3.out hb)
    replace BK4 := Aside0.mk (blk_below BK4.out hb)
    replace BK10 := Aside0.mk (blk_below BK10.out hb)
    replace BK11 := Aside0.mk (blk_below BK11.out hb)
    replace HB := Aside0.mk (below_step HB.out hb)
    replace HN := Aside0.mk (Nat.le_trans HN.out hb.size)
    clear hb
    refine hK.out _ _ ⟨(blk_cell BK4.out 0).trans rfl, (blk_cell BK4.out 1).trans rfl, (blk_cell BK11.out 0).trans rfl, (blk_cell BK11.out 1).trans rfl⟩ (fun hHeld => ?_)
    clear hK K
    refine norm_ (a' := ?_) ?_ ?_
    rotate_left
    ·
     show Act.put _ (some 73) _ = _
     simp only [Act.put, List.setIfInBounds_toArray, List.set_cons_zero, List.set_cons_succ, i64_w, i32_w]
     rfl
    refine pure_ (i := 4) (N := some 74) (v := ?_) (a' := ?_) #[true, true, true, true, true] rfl rfl (any_of HT_.out (by kernel_rfl)) (fun _ _ _ h => h) (Or.inl ⟨by rfl, ?_⟩) ?_ ?_
    rotate_left
    ·
     intro w'
     go_simp
     with_reducible rfl
    rotate_left
    ·
     simp only [Act.put, List.setIfInBounds_toArray, List.set_cons_zero, List.set_cons_succ, i64_w, i32_w]
     rfl
    refine done_ (done_of HT_.out (by kernel_rfl)) ?_
    clear hczgb3_0
    have hczgb3_0 : w154.cell? ⟨gb3, 0, none⟩ = some (.slice A0_0 l0_0.length c0_0) := (blk_cell BK3.out 0).trans rfl
    clear hfzgb3_0
    have hfzgb3_0 := blk_frozen BK3.out 0
    clear hczgb4_0
    have hczgb4_0 : w154.cell? ⟨gb4, 0, none⟩ = some (.int .i64 a1_0) := (blk_cell BK4.out 0).trans rfl
    clear hfzgb4_0
    have hfzgb4_0 := blk_frozen BK4.out 0
    clear hczgb4_1
    have hczgb4_1 : w154.cell? ⟨gb4, 1, none⟩ = some (.slice A1_1 l1_1.length c1_1) := (blk_cell BK4.out 1).trans rfl
    clear hfzgb4_1
    have hfzgb4_1 := blk_frozen BK4.out 1
    clear hczgb10_0
    have hczgb10_0 : w154.cell? ⟨gb10, 0, none⟩ = some (.slice Ao123 t122.length co123) := (blk_cell BK10.out 0).trans rfl
    clear hfzgb10_0
    have hfzgb10_0 := blk_frozen BK10.out 0
    clear hczgb11_0
    have hczgb11_0 : w154.cell? ⟨gb11, 0, none⟩ = some (.int .i64 t127) := (blk_cell BK11.out 0).trans rfl
    clear hfzgb11_0
    have hfzgb11_0 := blk_frozen BK11.out 0
    clear hczgb11_1
    have hczgb11_1 : w154.cell? ⟨gb11, 1, none⟩ = some (.slice Ao129 t128.length co129) := (blk_cell BK11.out 1).trans rfl
    clear hfzgb11_1
    have hfzgb11_1 := blk_frozen BK11.out 1
    try go_wp2_with (first | ((with_reducible refine gate_callee (f := 18) rfl ?_); refine goesL_ (some 77) rfl rfl Try.func18 (by kernel_rfl) rfl #[.slice A2 l2.length c2] rfl (by (try simp only [List.map_toArray, List.map_cons, List.map_nil]); first | done | rfl | (simp only [List.length_drop, List.length_take]; rfl)) ?_; (with_reducible refine (laws_toInt64S.calls k _ _ l2 t155 _ ?side1 ?side2 H15A.out).mono ?_); (case side1 => exact Kd.C_below HR2.out HB.out); (case side2 => exact HC2.out); rintro e w157 ⟨vv157_v0_, rfl, ho0, hb⟩; obtain ⟨Ao156, co156, eo_⟩ := Kd.R_slice ho0; subst eo_; refine ⟨_, rfl, ?_⟩; obtain ⟨lo156, hi156, hc_, hn_, hbo_⟩ := bornR HN.out (below_size HB.out) ho0 hb; replace HO120 := Aside0.mk (Kd.R_below HO120.out hb); replace HO123 := Aside0.mk (Kd.S_below HO123.out hb); replace HO129 := Aside0.mk (Kd.R_below HO129.out hb); replace HO134 := Aside0.mk (Kd.R_below HO134.out hb); replace HO138 := Aside0.mk (Kd.R_below HO138.out hb); replace BK3 := Aside0.mk (blk_below BK3.out hb); replace BK4 := Aside0.mk (blk_below BK4.out hb); replace BK10 := Aside0.mk (blk_below BK10.out hb); replace BK11 := Aside0.mk (blk_below BK11.out hb); replace HO156 := Aside0.mk (hbo_); replace C156 := Aside0.mk (hc_); replace HB := Aside0.mk (below_step HB.out hb); replace HN := Aside0.mk (hn_); (try clear HO151); clear hb; (try clear ho0); clear hczgb3_0; have hczgb3_0 : w157.cell? ⟨gb3, 0, none⟩ = some (.slice A0_0 l0_0.length c0_0) := (blk_cell BK3.out 0).trans rfl; clear hfzgb3_0; have hfzgb3_0 := blk_frozen BK3.out 0; clear hczgb4_0; have hczgb4_0 : w157.cell? ⟨gb4, 0, none⟩ = some (.int .i64 a1_0) := (blk_cell BK4.out 0).trans rfl; clear hfzgb4_0; have hfzgb4_0 := blk_frozen BK4.out 0; clear hczgb4_1; have hczgb4_1 : w157.cell? ⟨gb4, 1, none⟩ = some (.slice A1_1 l1_1.length c1_1) := (blk_cell BK4.out 1).trans rfl; clear hfzgb4_1; have hfzgb4_1 := blk_frozen BK4.out 1; clear hczgb10_0; have hczgb10_0 : w157.cell? ⟨gb10, 0, none⟩ = some (.slice Ao123 t122.length co123) := (blk_cell BK10.out 0).trans rfl; clear hfzgb10_0; have hfzgb10_0 := blk_frozen BK10.out 0; clear hczgb11_0; have hczgb11_0 : w157.cell? ⟨gb11, 0, none⟩ = some (.int .i64 t127) := (blk_cell BK11.out 0).trans rfl; clear hfzgb11_0; have hfzgb11_0 := blk_frozen BK11.out 0; clear hczgb11_1; have hczgb11_1 : w157.cell? ⟨gb11, 1, none⟩ = some (.slice Ao129 t128.length co129) := (blk_cell BK11.out 1).trans rfl; clear hfzgb11_1; have hfzgb11_1 := blk_frozen BK11.out 1) | ((with_reducible refine gate_callee (f := 20) rfl ?_); refine goesL_ (some 78) rfl rfl Try.func20 (by kernel_rfl) rfl #[.slice Ao134 t133.length co134, .slice Ao156 t155.length co156] rfl (by (try simp only [List.map_toArray, List.map_cons, List.map_nil]); first | done | rfl | (simp only [List.length_drop, List.length_take]; rfl)) ?_; (with_reducible refine (laws_eqInt64S.calls k _ _ t133 _ _ t155 true _ ?side1 ?side2 ?side3 ?side4 H16A.out).mono ?_); (case side1 => exact (Kd.R_reads' HO134.out).2.2); (case side2 => exact capR HO134.out); (case side3 => exact (Kd.R_reads' HO156.out).2.2); (case side4 => exact capR HO156.out); rintro e w159 ⟨rfl, hd⟩; have hb := Drawn0.below hd; refine ⟨_, rfl, ?_⟩; replace HO120 := Aside0.mk (Kd.R_below HO120.out hb); replace HO123 := Aside0.mk (Kd.S_below HO123.out hb); replace HO129 := Aside0.mk (Kd.R_below HO129.out hb); replace HO134 := Aside0.mk (Kd.R_below HO134.out hb); replace HO138 := Aside0.mk (Kd.R_below HO138.out hb); replace HO156 := Aside0.mk (Kd.R_below HO156.out hb); replace BK3 := Aside0.mk (blk_below BK3.out hb); replace BK4 := Aside0.mk (blk_below BK4.out hb); replace BK10 := Aside0.mk (blk_below BK10.out hb); replace BK11 := Aside0.mk (blk_below BK11.out hb); replace HB := Aside0.mk (below_step HB.out hb); replace HN := Aside0.mk (Nat.le_trans HN.out hb.size); clear hd hb; clear hczgb3_0; have hczgb3_0 : w159.cell? ⟨gb3, 0, none⟩ = some (.slice A0_0 l0_0.length c0_0) := (blk_cell BK3.out 0).trans rfl; clear hfzgb3_0; have hfzgb3_0 := blk_frozen BK3.out 0; clear hczgb4_0; have hczgb4_0 : w159.cell? ⟨gb4, 0, none⟩ = some (.int .i64 a1_0) := (blk_cell BK4.out 0).trans rfl; clear hfzgb4_0; have hfzgb4_0 := blk_frozen BK4.out 0; clear hczgb4_1; have hczgb4_1 : w159.cell? ⟨gb4, 1, none⟩ = some (.slice A1_1 l1_1.length c1_1) := (blk_cell BK4.out 1).trans rfl; clear hfzgb4_1; have hfzgb4_1 := blk_frozen BK4.out 1; clear hczgb10_0; have hczgb10_0 : w159.cell? ⟨gb10, 0, none⟩ = some (.slice Ao123 t122.length co123) := (blk_cell BK10.out 0).trans rfl; clear hfzgb10_0; have hfzgb10_0 := blk_frozen BK10.out 0; clear hczgb11_0; have hczgb11_0 : w159.cell? ⟨gb11, 0, none⟩ = some (.int .i64 t127) := (blk_cell BK11.out 0).trans rfl; clear hfzgb11_0; have hfzgb11_0 := blk_frozen BK11.out 0; clear hczgb11_1; have hczgb11_1 : w159.cell? ⟨gb11, 1, none⟩ = some (.slice Ao129 t128.length co129) := (blk_cell BK11.out 1).trans rfl; clear hfzgb11_1; have hfzgb11_1 := blk_frozen BK11.out 1) | ((with_reducible refine gate_callee (f := 23) rfl ?_); refine goesL_ (some 82) rfl rfl Try.func23 (by kernel_rfl) rfl #[.agg #[.slice Ao123 t122.length co123], .int .i64 1] rfl (by (try simp only [List.map_toArray, List.map_cons, List.map_nil]); first | done | rfl | (simp only [List.length_drop, List.length_take]; rfl)) ?_; (with_reducible refine (laws_markGroup.calls k (fun k_ => lo123 ≤ k_ ∧ k_ < hi123) (.slice Ao123 t122.length co123) t122 1 t160 t161 w _ ?side1 ?side2 H17A.out).mono ?_); (case side1 => exact HB.out); (case side2 => exact HO123.out); rintro e w163 ⟨rfl, ho0, hb, hkp⟩; refine ⟨_, rfl, ?_⟩; have hl_ := (Kd.S_reads' ho0).1; replace HO123 := Aside0.mk (ho0); replace HL123 := Aside0.mk (hl_); replace HO120 := Aside0.mk (Kd.R_kept HO120.out hkp (fun k_ h1_ h2_ => apartJ (by have h0_ := C120.out; have h1_ := C123.out; omega) h1_ h2_)); replace HO129 := Aside0.mk (Kd.R_kept HO129.out hkp (fun k_ h1_ h2_ => apartJ (by have h0_ := C123.out; have h1_ := CB10.out; have h2_ := C129.out; omega) h1_ h2_)); replace HO134 := Aside0.mk (Kd.R_kept HO134.out hkp (fun k_ h1_ h2_ => apartJ (by have h0_ := C123.out; have h1_ := CB10.out; have h2_ := C129.out; have h3_ := CB11.out; have h4_ := C134.out; omega) h1_ h2_)); replace HO138 := Aside0.mk (Kd.R_kept HO138.out hkp (fun k_ h1_ h2_ => apartJ (by have h0_ := C123.out; have h1_ := CB10.out; have h2_ := C129.out; have h3_ := CB11.out; have h4_ := C134.out; have h5_ := C138.out; omega) h1_ h2_)); replace BK3 := Aside0.mk (blk_kept BK3.out hkp (fun h2_ => apartJ (by have h0_ := CB3.out; have h1_ := CB4.out; have h2_ := C109.out; have h3_ := C113.out; have h4_ := C116.out; have h5_ := C120.out; have h6_ := C123.out; omega) ⟨Nat.le_refl _, Nat.lt_succ_self _⟩ h2_)); replace BK4 := Aside0.mk (blk_kept BK4.out hkp (fun h2_ => apartJ (by have h0_ := CB4.out; have h1_ := C109.out; have h2_ := C113.out; have h3_ := C116.out; have h4_ := C120.out; have h5_ := C123.out; omega) ⟨Nat.le_refl _, Nat.lt_succ_self _⟩ h2_)); replace BK10 := Aside0.mk (blk_kept BK10.out hkp (fun h2_ => apartJ (by have h0_ := C123.out; have h1_ := CB10.out; omega) ⟨Nat.le_refl _, Nat.lt_succ_self _⟩ h2_)); replace BK11 := Aside0.mk (blk_kept BK11.out hkp (fun h2_ => apartJ (by have h0_ := C123.out; have h1_ := CB10.out; have h2_ := C129.out; have h3_ := CB11.out; omega) ⟨Nat.le_refl _, Nat.lt_succ_self _⟩ h2_)); replace HB := Aside0.mk (hb); replace HN := Aside0.mk (Nat.le_trans HN.out hkp.1); (try clear HO156); (try clear hb); (try clear hkp); (try clear ho0); (try clear hl_); clear hczgb3_0; have hczgb3_0 : w163.cell? ⟨gb3, 0, none⟩ = some (.slice A0_0 l0_0.length c0_0) := (blk_cell BK3.out 0).trans rfl; clear hfzgb3_0; have hfzgb3_0 := blk_frozen BK3.out 0; clear hczgb4_0; have hczgb4_0 : w163.cell? ⟨gb4, 0, none⟩ = some (.int .i64 a1_0) := (blk_cell BK4.out 0).trans rfl; clear hfzgb4_0; have hfzgb4_0 := blk_frozen BK4.out 0; clear hczgb4_1; have hczgb4_1 : w163.cell? ⟨gb4, 1, none⟩ = some (.slice A1_1 l1_1.length c1_1) := (blk_cell BK4.out 1).trans rfl; clear hfzgb4_1; have hfzgb4_1 := blk_frozen BK4.out 1; clear hczgb10_0; have hczgb10_0 : w163.cell? ⟨gb10, 0, none⟩ = some (.slice Ao123 t122.length co123) := (blk_cell BK10.out 0).trans rfl; clear hfzgb10_0; have hfzgb10_0 := blk_frozen BK10.out 0; clear hczgb11_0; have hczgb11_0 : w163.cell? ⟨gb11, 0, none⟩ = some (.int .i64 t127) := (blk_cell BK11.out 0).trans rfl; clear hfzgb11_0; have hfzgb11_0 := blk_frozen BK11.out 0; clear hczgb11_1; have hczgb11_1 : w163.cell? ⟨gb11, 1, none⟩ = some (.slice Ao129 t128.length co129) := (blk_cell BK11.out 1).trans rfl; clear hfzgb11_1; have hfzgb11_1 := blk_frozen BK11.out 1) | ((with_reducible refine gate_callee (f := 24) rfl ?_); refine goesL_ (some 85) rfl rfl Try.func24 (by kernel_rfl) rfl #[.agg #[.int .i64 t127, .slice Ao129 t128.length co129], .int .i64 t160] rfl (by (try simp only [List.map_toArray, List.map_cons, List.map_nil]); first | done | rfl | (simp only [List.length_drop, List.length_take]; rfl)) ?_; (with_reducible refine (laws_markModule.calls k t127 (fun k_ => lo129 ≤ k_ ∧ k_ < hi129) (.slice Ao129 t128.length co129) t128 t160 t164 t165 w _ ?side1 ?side2 H18A.out).mono ?_); (case side1 => exact HB.out); (case side2 => exact HO129.out); rintro e w167 ⟨rfl, ho0, hb, hkp⟩; refine ⟨_, rfl, ?_⟩; have hl_ := (Kd.R_reads' ho0).1; replace HO129 := Aside0.mk (Kd.R_reok rfl ho0 (fun k_ e_ => HO129.out.1 k_ e_)); replace HL129 := Aside0.mk (hl_); replace HO120 := Aside0.mk (Kd.R_kept HO120.out hkp (fun k_ h1_ h2_ => apartJ (by have h0_ := C120.out; have h1_ := C123.out; have h2_ := CB10.out; have h3_ := C129.out; omega) h1_ h2_)); replace HO134 := Aside0.mk (Kd.R_kept HO134.out hkp (fun k_ h1_ h2_ => apartJ (by have h0_ := C129.out; have h1_ := CB11.out; have h2_ := C134.out; omega) h1_ h2_)); replace HO138 := Aside0.mk (Kd.R_kept HO138.out hkp (fun k_ h1_ h2_ => apartJ (by have h0_ := C129.out; have h1_ := CB11.out; have h2_ := C134.out; have h3_ := C138.out; omega) h1_ h2_)); replace BK3 := Aside0.mk (blk_kept BK3.out hkp (fun h2_ => apartJ (by have h0_ := CB3.out; have h1_ := CB4.out; have h2_ := C109.out; have h3_ := C113.out; have h4_ := C116.out; have h5_ := C120.out; have h6_ := C123.out; have h7_ := CB10.out; have h8_ := C129.out; omega) ⟨Nat.le_refl _, Nat.lt_succ_self _⟩ h2_)); replace BK4 := Aside0.mk (blk_kept BK4.out hkp (fun h2_ => apartJ (by have h0_ := CB4.out; have h1_ := C109.out; have h2_ := C113.out; have h3_ := C116.out; have h4_ := C120.out; have h5_ := C123.out; have h6_ := CB10.out; have h7_ := C129.out; omega) ⟨Nat.le_refl _, Nat.lt_succ_self _⟩ h2_)); replace BK11 := Aside0.mk (blk_kept BK11.out hkp (fun h2_ => apartJ (by have h0_ := C129.out; have h1_ := CB11.out; omega) ⟨Nat.le_refl _, Nat.lt_succ_self _⟩ h2_)); replace HB := Aside0.mk (hb); replace HN := Aside0.mk (Nat.le_trans HN.out hkp.1); (try clear HO123); (try clear BK10); (try clear hczgb10_0); (try clear hfzgb10_0); (try clear hb); (try clear hkp); (try clear ho0); (try clear hl_); clear hczgb3_0; have hczgb3_0 : w167.cell? ⟨gb3, 0, none⟩ = some (.slice A0_0 l0_0.length c0_0) := (blk_cell BK3.out 0).trans rfl; clear hfzgb3_0; have hfzgb3_0 := blk_frozen BK3.out 0; clear hczgb4_0; have hczgb4_0 : w167.cell? ⟨gb4, 0, none⟩ = some (.int .i64 a1_0) := (blk_cell BK4.out 0).trans rfl; clear hfzgb4_0; have hfzgb4_0 := blk_frozen BK4.out 0; clear hczgb4_1; have hczgb4_1 : w167.cell? ⟨gb4, 1, none⟩ = some (.slice A1_1 l1_1.length c1_1) := (blk_cell BK4.out 1).trans rfl; clear hfzgb4_1; have hfzgb4_1 := blk_frozen BK4.out 1; clear hczgb11_0; have hczgb11_0 : w167.cell? ⟨gb11, 0, none⟩ = some (.int .i64 t127) := (blk_cell BK11.out 0).trans rfl; clear hfzgb11_0; have hfzgb11_0 := blk_frozen BK11.out 0; clear hczgb11_1; have hczgb11_1 : w167.cell? ⟨gb11, 1, none⟩ = some (.slice Ao129 t128.length co129) := (blk_cell BK11.out 1).trans rfl; clear hfzgb11_1; have hfzgb11_1 := blk_frozen BK11.out 1) | ((with_reducible refine gate_callee (f := 25) rfl ?_); refine goesL_ (some 88) rfl rfl Try.func25 (by kernel_rfl) rfl #[.slice Ao134 t133.length co134, .int .i64 t164] rfl (by (try simp only [List.map_toArray, List.map_cons, List.map_nil]); first | done | rfl | (simp only [List.length_drop, List.length_take]; rfl)) ?_; (with_reducible refine (laws_markInt64S.calls k (fun k_ => lo134 ≤ k_ ∧ k_ < hi134) (.slice Ao134 t133.length co134) t133 t164 t168 t169 w _ ?side1 ?side2 H19A.out).mono ?_); (case side1 => exact HB.out); (case side2 => exact HO134.out); rintro e w171 ⟨rfl, ho0, hb, hkp⟩; refine ⟨_, rfl, ?_⟩; have hl_ := (Kd.R_reads' ho0).1; replace HO134 := Aside0.mk (Kd.R_reok rfl ho0 (fun k_ e_ => HO134.out.1 k_ e_)); replace HL134 := Aside0.mk (hl_); replace HO120 := Aside0.mk (Kd.R_kept HO120.out hkp (fun k_ h1_ h2_ => apartJ (by have h0_ := C120.out; have h1_ := C123.out; have h2_ := CB10.out; have h3_ := C129.out; have h4_ := CB11.out; have h5_ := C134.out; omega) h1_ h2_)); replace HO138 := Aside0.mk (Kd.R_kept HO138.out hkp (fun k_ h1_ h2_ => apartJ (by have h0_ := C134.out; have h1_ := C138.out; omega) h1_ h2_)); replace BK3 := Aside0.mk (blk_kept BK3.out hkp (fun h2_ => apartJ (by have h0_ := CB3.out; have h1_ := CB4.out; have h2_ := C109.out; have h3_ := C113.out; have h4_ := C116.out; have h5_ := C120.out; have h6_ := C123.out; have h7_ := CB10.out; have h8_ := C129.out; have h9_ := CB11.out; have h10_ := C134.out; omega) ⟨Nat.le_refl _, Nat.lt_succ_self _⟩ h2_)); replace BK4 := Aside0.mk (blk_kept BK4.out hkp (fun h2_ => apartJ (by have h0_ := CB4.out; have h1_ := C109.out; have h2_ := C113.out; have h3_ := C116.out; have h4_ := C120.out; have h5_ := C123.out; have h6_ := CB10.out; have h7_ := C129.out; have h8_ := CB11.out; have h9_ := C134.out; omega) ⟨Nat.le_refl _, Nat.lt_succ_self _⟩ h2_)); replace HB := Aside0.mk (hb); replace HN := Aside0.mk (Nat.le_trans HN.out hkp.1); (try clear HO129); (try clear BK11); (try clear hczgb11_0); (try clear hczgb11_1); (try clear hfzgb11_0); (try clear hfzgb11_1); (try clear hb); (try clear hkp); (try clear ho0); (try clear hl_); clear hczgb3_0; have hczgb3_0 : w171.cell? ⟨gb3, 0, none⟩ = some (.slice A0_0 l0_0.length c0_0) := (blk_cell BK3.out 0).trans rfl; clear hfzgb3_0; have hfzgb3_0 := blk_frozen BK3.out 0; clear hczgb4_0; have hczgb4_0 : w171.cell? ⟨gb4, 0, none⟩ = some (.int .i64 a1_0) := (blk_cell BK4.out 0).trans rfl; clear hfzgb4_0; have hfzgb4_0 := blk_frozen BK4.out 0; clear hczgb4_1; have hczgb4_1 : w171.cell? ⟨gb4, 1, none⟩ = some (.slice A1_1 l1_1.length c1_1) := (blk_cell BK4.out 1).trans rfl; clear hfzgb4_1; have hfzgb4_1 := blk_frozen BK4.out 1) | ((with_reducible refine gate_callee (f := 20) rfl ?_); (try (refine gate_guard (by rfl) ?_; dsimp only)); refine goesL_ (some 94) rfl rfl Try.func20 (by kernel_rfl) rfl #[.slice Ao138 t136.length co138, .slice Ao120 t118.length co120] rfl (by (try simp only [List.map_toArray, List.map_cons, List.map_nil]); first | done | rfl | (simp only [List.length_drop, List.length_take]; rfl)) ?_; (with_reducible refine (laws_eqInt64S.calls k _ _ t136 _ _ t118 true _ ?side1 ?side2 ?side3 ?side4 H20A.out).mono ?_); (case side1 => exact (Kd.R_reads' HO138.out).2.2); (case side2 => exact capR HO138.out); (case side3 => exact (Kd.R_reads' HO120.out).2.2); (case side4 => exact capR HO120.out); rintro e w173 ⟨rfl, hd⟩; have hb := Drawn0.below hd; refine ⟨_, rfl, ?_⟩; replace HO120 := Aside0.mk (Kd.R_below HO120.out hb); replace HO138 := Aside0.mk (Kd.R_below HO138.out hb); replace BK3 := Aside0.mk (blk_below BK3.out hb); replace BK4 := Aside0.mk (blk_below BK4.out hb); replace HB := Aside0.mk (below_step HB.out hb); replace HN := Aside0.mk (Nat.le_trans HN.out hb.size); (try clear HO134); clear hd hb; clear hczgb3_0; have hczgb3_0 : w173.cell? ⟨gb3, 0, none⟩ = some (.slice A0_0 l0_0.length c0_0) := (blk_cell BK3.out 0).trans rfl; clear hfzgb3_0; have hfzgb3_0 := blk_frozen BK3.out 0; clear hczgb4_0; have hczgb4_0 : w173.cell? ⟨gb4, 0, none⟩ = some (.int .i64 a1_0) := (blk_cell BK4.out 0).trans rfl; clear hfzgb4_0; have hfzgb4_0 := blk_frozen BK4.out 0; clear hczgb4_1; have hczgb4_1 : w173.cell? ⟨gb4, 1, none⟩ = some (.slice A1_1 l1_1.length c1_1) := (blk_cell BK4.out 1).trans rfl; clear hfzgb4_1; have hfzgb4_1 := blk_frozen BK4.out 1) | ((with_reducible refine gate_callee (f := 25) rfl ?_); refine goesL_ (some 104) rfl rfl Try.func25 (by kernel_rfl) rfl #[.slice Ao138 t136.length co138, .int .i64 1] rfl (by (try simp only [List.map_toArray, List.map_cons, List.map_nil]); first | done | rfl | (simp only [List.length_drop, List.length_take]; rfl)) ?_; (with_reducible refine (laws_markInt64S.calls k (fun k_ => lo138 ≤ k_ ∧ k_ < hi138) (.slice Ao138 t136.length co138) t136 1 t197 t175 w _ ?side1 ?side2 H21A.out).mono ?_); (case side1 => exact HB.out); (case side2 => exact HO138.out); rintro e w177 ⟨rfl, ho0, hb, hkp⟩; refine ⟨_, rfl, ?_⟩; have hl_ := (Kd.R_reads' ho0).1; replace HO138 := Aside0.mk (Kd.R_reok rfl ho0 (fun k_ e_ => HO138.out.1 k_ e_)); replace HL138 := Aside0.mk (hl_); replace HO120 := Aside0.mk (Kd.R_kept HO120.out hkp (fun k_ h1_ h2_ => apartJ (by have h0_ := C120.out; have h1_ := C123.out; have h2_ := CB10.out; have h3_ := C129.out; have h4_ := CB11.out; have h5_ := C134.out; have h6_ := C138.out; omega) h1_ h2_)); replace BK3 := Aside0.mk (blk_kept BK3.out hkp (fun h2_ => apartJ (by have h0_ := CB3.out; have h1_ := CB4.out; have h2_ := C109.out; have h3_ := C113.out; have h4_ := C116.out; have h5_ := C120.out; have h6_ := C123.out; have h7_ := CB10.out; have h8_ := C129.out; have h9_ := CB11.out; have h10_ := C134.out; have h11_ := C138.out; omega) ⟨Nat.le_refl _, Nat.lt_succ_self _⟩ h2_)); replace BK4 := Aside0.mk (blk_kept BK4.out hkp (fun h2_ => apartJ (by have h0_ := CB4.out; have h1_ := C109.out; have h2_ := C113.out; have h3_ := C116.out; have h4_ := C120.out; have h5_ := C123.out; have h6_ := CB10.out; have h7_ := C129.out; have h8_ := CB11.out; have h9_ := C134.out; have h10_ := C138.out; omega) ⟨Nat.le_refl _, Nat.lt_succ_self _⟩ h2_)); replace HB := Aside0.mk (hb); replace HN := Aside0.mk (Nat.le_trans HN.out hkp.1); (try clear hb); (try clear hkp); (try clear ho0); (try clear hl_); clear hczgb3_0; have hczgb3_0 : w177.cell? ⟨gb3, 0, none⟩ = some (.slice A0_0 l0_0.length c0_0) := (blk_cell BK3.out 0).trans rfl; clear hfzgb3_0; have hfzgb3_0 := blk_frozen BK3.out 0; clear hczgb4_0; have hczgb4_0 : w177.cell? ⟨gb4, 0, none⟩ = some (.int .i64 a1_0) := (blk_cell BK4.out 0).trans rfl; clear hfzgb4_0; have hfzgb4_0 := blk_frozen BK4.out 0; clear hczgb4_1; have hczgb4_1 : w177.cell? ⟨gb4, 1, none⟩ = some (.slice A1_1 l1_1.length c1_1) := (blk_cell BK4.out 1).trans rfl; clear hfzgb4_1; have hfzgb4_1 := blk_frozen BK4.out 1) | ((with_reducible refine gate_callee (f := 26) rfl ?_); refine goesL_ (some 107) rfl rfl Try.func26 (by kernel_rfl) rfl #[.slice Ao138 t136.length co138, .int .i64 1] rfl (by (try simp only [List.map_toArray, List.map_cons, List.map_nil]); first | done | rfl | (simp only [List.length_drop, List.length_take]; rfl)) ?_; refine Calls_args (show (#[.slice Ao138 t136.length co138, .int .i64 1] : Array Value) = #[.slice Ao138 t175.length co138, .int .i64 1] from by rw [HL138.out]) ?_; (with_reducible refine (laws_heldInt64S.calls k _ _ t175 1 t197 _ ?side1 ?side2 H22A.out).mono ?_); (case side1 => exact (Kd.R_reads' HO138.out).2.2); (case side2 => exact capR HO138.out); rintro e w179 ⟨rfl, hd⟩; have hb := Drawn0.below hd; refine ⟨_, rfl, ?_⟩; replace HO120 := Aside0.mk (Kd.R_below HO120.out hb); replace HO138 := Aside0.mk (Kd.R_below HO138.out hb); replace BK3 := Aside0.mk (blk_below BK3.out hb); replace BK4 := Aside0.mk (blk_below BK4.out hb); replace HB := Aside0.mk (below_step HB.out hb); replace HN := Aside0.mk (Nat.le_trans HN.out hb.size); clear hd hb; clear hczgb3_0; have hczgb3_0 : w179.cell? ⟨gb3, 0, none⟩ = some (.slice A0_0 l0_0.length c0_0) := (blk_cell BK3.out 0).trans rfl; clear hfzgb3_0; have hfzgb3_0 := blk_frozen BK3.out 0; clear hczgb4_0; have hczgb4_0 : w179.cell? ⟨gb4, 0, none⟩ = some (.int .i64 a1_0) := (blk_cell BK4.out 0).trans rfl; clear hfzgb4_0; have hfzgb4_0 := blk_frozen BK4.out 0; clear hczgb4_1; have hczgb4_1 : w179.cell? ⟨gb4, 1, none⟩ = some (.slice A1_1 l1_1.length c1_1) := (blk_cell BK4.out 1).trans rfl; clear hfzgb4_1; have hfzgb4_1 := blk_frozen BK4.out 1))
    replace HO120 := Aside0.mk (Kd.R_drew HO120.out)
    replace HO138 := Aside0.mk (Kd.R_drew HO138.out)
    replace BK3 := Aside0.mk (blk_drew BK3.out)
    replace BK4 := Aside0.mk (blk_drew BK4.out)
    replace HB := Aside0.mk (below_drew1 HB.out)
    replace HN := Aside0.mk (sz_drew HN.out)
    refine start_ (n := 12) (S := fun w' => w'.cell? ⟨gb3, 0, none⟩ = some (.slice A0_0 l0_0.length c0_0) ∧ w'.cell? ⟨gb4, 0, none⟩ = some (.int .i64 a1_0) ∧ w'.cell? ⟨gb4, 1, none⟩ = some (.slice A1_1 l1_1.length c1_1)) (ds := []) #[false, false, false, false, false, false, false, false, false, false, false, false] (by kernel_rfl) rfl rfl ⟨(blk_cell BK3.out 0).trans rfl, (blk_cell BK4.out 0).trans rfl, (blk_cell BK4.out 1).trans rfl⟩ (fun hHeld => ?_)
    refine with_tabW laws_FnExactComplementOf.tab37 laws_FnExactComplementOf.bits37 (fun HT_ HW_ => ?_)
    generalize w179.drew = w180 at HO120 HO138 BK3 BK4 HB HN hHeld ⊢
    refine take_ (i := 0) (N := some 114) (v := ?_) (a' := ?_) #[true, false, false, false, false, false, false, false, false, false, false, false] rfl rfl (take_ofW HT_.out HW_.out (by kernel_rfl)) (fun _ _ _ h => h) (Or.inl ⟨by rfl, ?_⟩) hHeld ?_ ?_
    rotate_left
    ·
     rintro w' ⟨s0, s1, s2⟩
     go_simp
     with_reducible rfl
    rotate_left
    ·
     simp only [Act.put, List.setIfInBounds_toArray, List.set_cons_zero, List.set_cons_succ, i64_w, i32_w]
     rfl
    refine take_ (i := 2) (N := some 116) (v := ?_) (a' := ?_) #[true, false, true, false, false, false, false, false, false, false, false, false] rfl rfl (take_ofW HT_.out HW_.out (by kernel_rfl)) (fun _ _ _ h => h) (Or.inl ⟨by rfl, ?_⟩) hHeld ?_ ?_
    rotate_left
    ·
     rintro w' ⟨s0, s1, s2⟩
     go_simp
     with_reducible rfl
    rotate_left
    ·
     simp only [Act.put, List.setIfInBounds_toArray, List.set_cons_zero, List.set_cons_succ, i64_w, i32_w]
     rfl
    refine pure_ (i := 4) (N := some 118) (v := ?_) (a' := ?_) #[true, false, true, false, true, false, false, false, false, false, false, false] rfl rfl (any_of HT_.out (by kernel_rfl)) (fun _ _ _ h => h) (Or.inl ⟨by rfl, ?_⟩) ?_ ?_
    rotate_left
    ·
     intro w'
     go_simp
     with_reducible rfl
    rotate_left
    ·
     simp only [Act.put, List.setIfInBounds_toArray, List.set_cons_zero, List.set_cons_succ, i64_w, i32_w]
     rfl
    refine one_ (i := 1) (N := some 115) #[true, true, true, false, true, false, false, false, false, false, false, false] rfl rfl (one_of HT_.out (by kernel_rfl)) (by decide) (fun K hK => ?_)
    refine goes_ Try.func16 (by kernel_rfl) rfl #[.agg #[.slice A0_0 l0_0.length c0_0]] (by rfl) rfl rfl (by (try simp only [List.map_toArray, List.map_cons, List.map_nil]); first | done | rfl | (simp only [List.length_drop, List.length_take]; rfl)) ?_
    (with_reducible refine (laws_toGroup.calls k _ _ l0_0 t181 _ ?side1 ?side2 H23A.out).mono ?_)
    (case side1 => exact Kd.C_below HR0_0.out HB.out)
    (case side2 => exact HC0_0.out)
    rintro e w183 ⟨vv183_v0_, rfl, ho0, hb⟩
    obtain ⟨Ao182, co182, eo_⟩ := Kd.S_slice ho0
    subst eo_
    refine ⟨_, rfl, ?_⟩
    obtain ⟨lo182, hi182, hc_, hn_, hbo_⟩ := bornS HN.out (below_size HB.out) ho0 hb
    replace HO120 := Aside0.mk (Kd.R_below HO120.out hb)
    replace HO138 := Aside0.mk (Kd.R_below HO138.out hb)
    replace BK3 := Aside0.mk (blk_below BK3.out hb)
    replace BK4 := Aside0.mk (blk_below BK4.out hb)
    replace HO182 := Aside0.mk (hbo_)
    replace C182 := Aside0.mk (hc_)
    replace HB := Aside0.mk (below_step HB.out hb)
    replace HN := Aside0.mk (hn_)
    clear hb
    (try clear ho0)
    refine hK.out _ _ ⟨(blk_cell BK3.out 0).trans rfl, (blk_cell BK4.out 0).trans rfl, (blk_cell BK4.out 1).trans rfl⟩ (fun hHeld => ?_)
    clear hK K
    refine norm_ (a' := ?_) ?_ ?_
    rotate_left
    ·
     show Act.put _ (some 115) _ = _
     simp only [Act.put, List.setIfInBounds_toArray, List.set_cons_zero, List.set_cons_succ, i64_w, i32_w]
     rfl
    refine one_ (i := 3) (N := some 117) #[true, true, true, true, true, false, false, false, false, false, false, false] rfl rfl (one_of HT_.out (by kernel_rfl)) (by decide) (fun K hK => ?_)
    refine goes_ Try.func17 (by kernel_rfl) rfl #[.agg #[.int .i64 a1_0, .slice A1_1 l1_1.length c1_1]] (by rfl) rfl rfl (by (try simp only [List.map_toArray, List.map_cons, List.map_nil]); first | done | rfl | (simp only [List.length_drop, List.length_take]; rfl)) ?_
    (with_reducible refine (laws_toModule.calls k a1_0 _ _ l1_1 t184 t185 _ ?side1 ?side2 H24A.out).mono ?_)
    (case side1 => exact Kd.C_below HR1_1.out HB.out)
    (case side2 => exact HC1_1.out)
    rintro e w187 ⟨vv187_v1_, rfl, ho0, hb⟩
    obtain ⟨Ao186, co186, eo_⟩ := Kd.R_slice ho0
    subst eo_
    refine ⟨_, rfl, ?_⟩
    obtain ⟨lo186, hi186, hc_, hn_, hbo_⟩ := bornR HN.out (below_size HB.out) ho0 hb
    replace HO120 := Aside0.mk (Kd.R_below HO120.out hb)
    replace HO138 := Aside0.mk (Kd.R_below HO138.out hb)
    replace HO182 := Aside0.mk (Kd.S_below HO182.out hb)
    replace BK3 := Aside0.mk (blk_below BK3.out hb)
    replace BK4 := Aside0.mk (blk_below BK4.out hb)
    replace HO186 := Aside0.mk (hbo_)
    replace C186 := Aside0.mk (hc_)
    replace HB := Aside0.mk (below_step HB.out hb)
    replace HN := Aside0.mk (hn_)
    clear hb
    (try clear ho0)
    refine hK.out _ _ ⟨(blk_cell BK3.out 0).trans rfl, (blk_cell BK4.out 0).trans rfl, (blk_cell BK4.out 1).trans rfl⟩ (fun hHeld => ?_)
    clear hK K
    refine norm_ (a' := ?_) ?_ ?_
    rotate_left
    ·
     show Act.put _ (some 117) _ = _
     simp only [Act.put, List.setIfInBounds_toArray, List.set_cons_zero, List.set_cons_succ, i64_w, i32_w]
     rfl
    refine one_ (i := 5) (N := some 119) #[true, true, true, true, true, true, false, false, false, false, false, false] rfl rfl (one_of HT_.out (by kernel_rfl)) (by decide) (fun K hK => ?_)
    refine goes_ Try.func18 (by kernel_rfl) rfl #[.slice A2 l2.length c2] (by rfl) rfl rfl (by (try simp only [List.map_toArray, List.map_cons, List.map_nil]); first | done | rfl | (simp only [List.length_drop, List.length_take]; rfl)) ?_
    (with_reducible refine (laws_toInt64S.calls k _ _ l2 t188 _ ?side1 ?side2 H25A.out).mono ?_)
    (case side1 => exact Kd.C_below HR2.out HB.out)
    (case side2 => exact HC2.out)
    rintro e w190 ⟨vv190_v0_, rfl, ho0, hb⟩
    obtain ⟨Ao189, co189, eo_⟩ := Kd.R_slice ho0
    subst eo_
    refine ⟨_, rfl, ?_⟩
    obtain ⟨lo189, hi189, hc_, hn_, hbo_⟩ := bornR HN.out (below_size HB.out) ho0 hb
    replace HO120 := Aside0.mk (Kd.R_below HO120.out hb)
    replace HO138 := Aside0.mk (Kd.R_below HO138.out hb)
    replace HO182 := Aside0.mk (Kd.S_below HO182.out hb)
    replace HO186 := Aside0.mk (Kd.R_below HO186.out hb)
    replace BK3 := Aside0.mk (blk_below BK3.out hb)
    replace BK4 := Aside0.mk (blk_below BK4.out hb)
    replace HO189 := Aside0.mk (hbo_)
    replace C189 := Aside0.mk (hc_)
    replace HB := Aside0.mk (below_step HB.out hb)
    replace HN := Aside0.mk (hn_)
    clear hb
    (try clear ho0)
    refine hK.out _ _ ⟨(blk_cell BK3.out 0).trans rfl, (blk_cell BK4.out 0).trans rfl, (blk_cell BK4.out 1).trans rfl⟩ (fun hHeld => ?_)
    clear hK K
    refine norm_ (a' := ?_) ?_ ?_
    rotate_left
    ·
     show Act.put _ (some 119) _ = _
     simp only [Act.put, List.setIfInBounds_toArray, List.set_cons_zero, List.set_cons_succ, i64_w, i32_w]
     rfl
    refine one_ (i := 6) (N := some 120) #[true, true, true, true, true, true, true, false, false, false, false, false] rfl rfl (one_of HT_.out (by kernel_rfl)) (by decide) (fun K hK => ?_)
    refine goes_ Try.func19 (by kernel_rfl) rfl #[.agg #[.slice Ao182 t181.length co182], .agg #[.int .i64 t184, .slice Ao186 t185.length co186], .slice Ao189 t188.length co189] (by rfl) rfl rfl (by (try simp only [List.map_toArray, List.map_cons, List.map_nil]); first | done | rfl | (simp only [List.length_drop, List.length_take]; rfl)) ?_
    (with_reducible refine (impl_ComplementOf.calls k _ _ t181 t184 _ _ t185 _ _ t188 t191 t192 _ ?side1 ?side2 ?side3 ?side4 ?side5 ?side6 H26A.out).mono ?_)
    (case side1 => exact (Kd.S_reads' HO182.out).2.2)
    (case side2 => exact capS HO182.out)
    (case side3 => exact (Kd.R_reads' HO186.out).2.2)
    (case side4 => exact capR HO186.out)
    (case side5 => exact (Kd.R_reads' HO189.out).2.2)
    (case side6 => exact capR HO189.out)
    rintro e w194 ⟨vv194_v0_, rfl, ho0, hb⟩
    obtain ⟨Ao193, co193, eo_⟩ := Kd.R_slice ho0
    subst eo_
    refine ⟨_, rfl, ?_⟩
    obtain ⟨lo193, hi193, hc_, hn_, hbo_⟩ := bornR HN.out (below_size HB.out) ho0 hb
    replace HO120 := Aside0.mk (Kd.R_below HO120.out hb)
    replace HO138 := Aside0.mk (Kd.R_below HO138.out hb)
    replace HO182 := Aside0.mk (Kd.S_below HO182.out hb)
    replace HO186 := Aside0.mk (Kd.R_below HO186.out hb)
    replace HO189 := Aside0.mk (Kd.R_below HO189.out hb)
    replace BK3 := Aside0.mk (blk_below BK3.out hb)
    replace BK4 := Aside0.mk (blk_below BK4.out hb)
    replace HO193 := Aside0.mk (hbo_)
    replace C193 := Aside0.mk (hc_)
    replace HB := Aside0.mk (below_step HB.out hb)
    replace HN := Aside0.mk (hn_)
    clear hb
    (try clear ho0)
    refine hK.out _ _ ⟨(blk_cell BK3.out 0).trans rfl, (blk_cell BK4.out 0).trans rfl, (blk_cell BK4.out 1).trans rfl⟩ (fun hHeld => ?_)
    clear hK K
    refine norm_ (a' := ?_) ?_ ?_
    rotate_left
    ·
     show Act.put _ (some 120) _ = _
     simp only [Act.put, List.setIfInBounds_toArray, List.set_cons_zero, List.set_cons_succ, i64_w, i32_w]
     rfl
    refine pure_ (i := 7) (N := some 113) (v := ?_) (a' := ?_) #[true, true, true, true, true, true, true, true, false, false, false, false] rfl rfl (any_of HT_.out (by kernel_rfl)) (fun _ _ _ h => h) (Or.inl ⟨by rfl, ?_⟩) ?_ ?_
    rotate_left
    ·
     intro w'
     go_simp
     with_reducible rfl
    rotate_left
    ·
     simp only [Act.put, List.setIfInBounds_toArray, List.set_cons_zero, List.set_cons_succ, i64_w, i32_w]
     rfl
    refine pure_ (i := 8) (N := some 121) (v := ?_) (a' := ?_) #[true, true, true, true, true, true, true, true, true, false, false, false] rfl rfl (any_of HT_.out (by kernel_rfl)) (fun _ _ _ h => h) (Or.inl ⟨by rfl, ?_⟩) ?_ ?_
    rotate_left
    ·
     intro w'
     go_simp
     with_reducible rfl
    rotate_left
    ·
     simp only [Act.put, List.setIfInBounds_toArray, List.set_cons_zero, List.set_cons_succ, i64_w, i32_w]
     rfl
    refine pure_ (i := 9) (N := some 122) (v := ?_) (a' := ?_) #[true, true, true, true, true, true, true, true, true, true, false, false] rfl rfl (any_of HT_.out (by kernel_rfl)) (fun _ _ _ h => h) (Or.inl ⟨by rfl, ?_⟩) ?_ ?_
    rotate_left
    ·
     intro w'
     go_simp
     with_reducible rfl
    rotate_left
    ·
     simp only [Act.put, List.setIfInBounds_toArray, List.set_cons_zero, List.set_cons_succ, i64_w, i32_w]
     rfl
    refine pure_ (i := 10) (N := some 18) (v := ?_) (a' := ?_) #[true, true, true, true, true, true, true, true, true, true, true, false] rfl rfl (any_of HT_.out (by kernel_rfl)) (fun _ _ _ h => h) (Or.inl ⟨by rfl, ?_⟩) ?_ ?_
    rotate_left
    ·
     intro w'
     go_simp
     with_reducible rfl
    rotate_left
    ·
     simp only [Act.put, List.setIfInBounds_toArray, List.set_cons_zero, List.set_cons_succ, i64_w, i32_w]
     rfl
    refine pure_ (i := 11) (N := some 19) (v := ?_) (a' := ?_) #[true, true, true, true, true, true, true, true, true, true, true, true] rfl rfl (any_of HT_.out (by kernel_rfl)) (fun _ _ _ h => h) (Or.inl ⟨by rfl, ?_⟩) ?_ ?_
    rotate_left
    ·
     intro w'
     go_simp
     with_reducible rfl
    rotate_left
    ·
     simp only [Act.put, List.setIfInBounds_toArray, List.set_cons_zero, List.set_cons_succ, i64_w, i32_w]
     rfl
    refine done_ (done_of HT_.out (by kernel_rfl)) ?_
    clear hczgb3_0
    have hczgb3_0 : w194.cell? ⟨gb3, 0, none⟩ = some (.slice A0_0 l0_0.length c0_0) := (blk_cell BK3.out 0).trans rfl
    clear hfzgb3_0
    have hfzgb3_0 := blk_frozen BK3.out 0
    clear hczgb4_0
    have hczgb4_0 : w194.cell? ⟨gb4, 0, none⟩ = some (.int .i64 a1_0) := (blk_cell BK4.out 0).trans rfl
    clear hfzgb4_0
    have hfzgb4_0 := blk_frozen BK4.out 0
    clear hczgb4_1
    have hczgb4_1 : w194.cell? ⟨gb4, 1, none⟩ = some (.slice A1_1 l1_1.length c1_1) := (blk_cell BK4.out 1).trans rfl
    clear hfzgb4_1
    have hfzgb4_1 := blk_frozen BK4.out 1
    go_wp2_with (first | ((with_reducible refine gate_callee (f := 20) rfl ?_); refine goesL_ (some 125) rfl rfl Try.func20 (by kernel_rfl) rfl #[.slice Ao193 t191.length co193, .slice Ao120 t118.length co120] rfl (by (try simp only [List.map_toArray, List.map_cons, List.map_nil]); first | done | rfl | (simp only [List.length_drop, List.length_take]; rfl)) ?_; (with_reducible refine (laws_eqInt64S.calls k _ _ t191 _ _ t118 true _ ?side1 ?side2 ?side3 ?side4 H27A.out).mono ?_); (case side1 => exact (Kd.R_reads' HO193.out).2.2); (case side2 => exact capR HO193.out); (case side3 => exact (Kd.R_reads' HO120.out).2.2); (case side4 => exact capR HO120.out); rintro e w196 ⟨rfl, hd⟩; have hb := Drawn0.below hd; refine ⟨_, rfl, ?_⟩; replace HO120 := Aside0.mk (Kd.R_below HO120.out hb); replace HO138 := Aside0.mk (Kd.R_below HO138.out hb); replace HO193 := Aside0.mk (Kd.R_below HO193.out hb); replace HB := Aside0.mk (below_step HB.out hb); replace HN := Aside0.mk (Nat.le_trans HN.out hb.size); (try clear HO182); (try clear HO186); (try clear HO189); (try clear BK3); (try clear hczgb3_0); (try clear hfzgb3_0); (try clear BK4); (try clear hczgb4_0); (try clear hczgb4_1); (try clear hfzgb4_0); (try clear hfzgb4_1); clear hd hb) | ((with_reducible refine gate_callee (f := 26) rfl ?_); refine goesL_ (some 134) rfl rfl Try.func26 (by kernel_rfl) rfl #[.slice Ao138 t136.length co138, .int .i64 1] rfl (by (try simp only [List.map_toArray, List.map_cons, List.map_nil]); first | done | rfl | (simp only [List.length_drop, List.length_take]; rfl)) ?_; refine Calls_args (show (#[.slice Ao138 t136.length co138, .int .i64 1] : Array Value) = #[.slice Ao138 t175.length co138, .int .i64 1] from by rw [HL138.out]) ?_; (with_reducible refine (laws_heldInt64S.calls k _ _ t175 1 t197 _ ?side1 ?side2 H28A.out).mono ?_); (case side1 => exact (Kd.R_reads' HO138.out).2.2); (case side2 => exact capR HO138.out); rintro e w198 ⟨rfl, hd⟩; have hb := Drawn0.below hd; refine ⟨_, rfl, ?_⟩; replace HO138 := Aside0.mk (Kd.R_below HO138.out hb); replace HB := Aside0.mk (below_step HB.out hb); replace HN := Aside0.mk (Nat.le_trans HN.out hb.size); (try clear HO120); (try clear HO193); clear hd hb))
    go_ret
    exact ⟨by first | rfl | (simp; done) | (simp [*]; done), HB.out⟩
end Go.Proofs.Ytdiadcmkddkjpaa.Pa
set_option linter.unusedVariables false
namespace Go.Proofs.Ytdiadcmkddkjpaa.U
open Go.RowKit Go.Proofs.YtdiadcmkddkjpaaW.PrintWords Go.Proofs.YtdiadcmkddkjpaaW.PrintLast Go.Proofs.YtdiadcmkddkjpaaW.PrintMore
theorem w64 {x : Int} (h0 : -9223372036854775808 ≤ x) (h1 : x ≤ 9223372036854775807) : wrap64 x = x := by unfold wrap64; omega
theorem w64s {i n : Int} (h0 : 0 ≤ i) (h : i < n) (hn : n ≤ 9223372036854775807) : wrap64 (i + 1) = i + 1 := w64 (by omega) (by omega)
theorem le_maxLen {n : Nat} (h : n ≤ 9223372036854775807) : n ≤ maxLen := by unfold maxLen; omega
theorem ev_now {α : Type} {g : Nat → Option α} {r : α} (h : ∀ k, g k = some r) : Ev g r := ⟨0, fun k _ => h k⟩
theorem ev_step_now {α : Type} {g : Nat → Option α} {r : α} (h : ∀ k, g (k + 1) = some r) : Ev g r := Ev.step (f := fun _ => some r) h (ev_now fun _ => rfl)
theorem ev_step_bind {α β : Type} {g : Nat → Option β} {c : Nat → Option α} {f : Nat → α → Option β} {a : α} {r : β} (h : ∀ k, g (k + 1) = (c k).bind (f k)) (hc : Ev c a) (k : Ev (fun n => f n a) r) : Ev g r := Ev.step h (Ev.bind hc k)
theorem ev_bind {α β : Type} {g : Nat → Option β} {c : Nat → Option α} {f : Nat → α → Option β} {a : α} {r : β} (h : ∀ k, g k = (c k).bind (f k)) (hc : Ev c a) (k : Ev (fun n => f n a) r) : Ev g r := Ev.congr h (Ev.bind hc k)
theorem scan {R : Type} (n : Nat) (L : Int → Nat → Option R) (P : Int → Prop) (bad : R)
    (hs : ∀ i : Int, 0 ≤ i → i < n → (∀ j : Int, 0 ≤ j → j < i → P j) → (P i ∧ ∀ r, Ev (L (i + 1)) r → Ev (L i) r) ∨ (¬ P i ∧ Ev (L i) bad)) :
    ((∀ j : Int, 0 ≤ j → j < n → P j) ∧ ∀ r, Ev (L n) r → Ev (L 0) r) ∨ ((∃ j : Int, 0 ≤ j ∧ j < n ∧ ¬ P j) ∧ Ev (L 0) bad) := by
  suffices H : ∀ d m : Nat, m + d = n → (∀ j : Int, 0 ≤ j → j < m → P j) →
      ((∀ j : Int, 0 ≤ j → j < n → P j) ∧ ∀ r, Ev (L n) r → Ev (L m) r) ∨ ((∃ j : Int, 0 ≤ j ∧ j < n ∧ ¬ P j) ∧ Ev (L m) bad) by
    simpa using H n 0 (by omega) (fun j h0 h1 => by omega)
  intro d
  induction d with
  | zero =>
    intro m hm hp
    have : (m : Int) = n := by omega
    rw [this] at hp ⊢
    exact .inl ⟨hp, fun r h => h⟩
  | succ d ih =>
    intro m hm hp
    rcases hs m (by omega) (by omega) hp with ⟨h1, h2⟩ | ⟨h1, h2⟩
    · have hp' : ∀ j : Int, 0 ≤ j → j < ((m + 1 : Nat) : Int) → P j := fun j h0 hj => by
        by_cases e : j = m
        · rw [e]; exact h1
        · exact hp j h0 (by omega)
      rcases ih (m + 1) (by omega) hp' with ⟨h3, h4⟩ | ⟨h3, h4⟩
      · exact .inl ⟨h3, fun r h => h2 r (by have := h4 r h; rwa [Int.natCast_add, Int.natCast_one] at this)⟩
      · exact .inr ⟨h3, h2 _ (by rwa [Int.natCast_add, Int.natCast_one] at h4)⟩
    · exact .inr ⟨⟨m, by omega, by omega, h1⟩, h2⟩
theorem fold {R σ : Type} (n : Nat) (L : Int → σ → Nat → Option R) (F : Nat → σ)
    (hs : ∀ i : Nat, i < n → ∀ r, Ev (L ((i + 1 : Nat) : Int) (F (i + 1))) r → Ev (L (i : Int) (F i)) r) : ∀ r, Ev (L n (F n)) r → Ev (L 0 (F 0)) r := by
  suffices H : ∀ d m : Nat, m + d = n → ∀ r, Ev (L n (F n)) r → Ev (L m (F m)) r by
    intro r h
    exact H n 0 (by omega) r h
  intro d
  induction d with
  | zero =>
    intro m hm r h
    have : m = n := by omega
    rwa [this]
  | succ d ih => exact fun m hm r h => hs m (by omega) r (ih (m + 1) (by omega) r h)
noncomputable def B (p : Prop) : Bool := @decide p (Classical.propDecidable p)
theorem B_pos {p : Prop} (h : p) : B p = true := by unfold B; simp [h]
theorem B_neg {p : Prop} (h : ¬ p) : B p = false := by unfold B; simp [h]
theorem B_congr {p q : Prop} (h : p ↔ q) : B p = B q := by rw [show p = q from propext h]
theorem B_decide (p : Prop) [Decidable p] : decide p = B p := by by_cases h : p <;> simp [h, B]
theorem B_true : B True = true := B_pos trivial
theorem scanB (n : Nat) (L : Int → Nat → Option Bool) (P : Int → Prop) (Q : Prop)
    (hs : ∀ i : Int, 0 ≤ i → i < n → (∀ j : Int, 0 ≤ j → j < i → P j) → (P i ∧ ∀ r, Ev (L (i + 1)) r → Ev (L i) r) ∨ (¬ P i ∧ Ev (L i) false))
    (he : (∀ j : Int, 0 ≤ j → j < n → P j) → Ev (L n) (B Q)) : Ev (L 0) (B ((∀ j : Int, 0 ≤ j → j < n → P j) ∧ Q)) := by
  rcases scan n L P false hs with ⟨h1, h2⟩ | ⟨⟨j, h0, h1, h2⟩, h3⟩
  · rw [B_congr (show ((∀ j : Int, 0 ≤ j → j < n → P j) ∧ Q) ↔ Q from ⟨fun h => h.2, fun h => ⟨h1, h⟩⟩)]
    exact h2 _ (he h1)
  · rw [B_neg fun h => h2 (h.1 j h0 h1)]
    exact h3
theorem scanT (n : Nat) (L : Int → Nat → Option Bool) (P : Int → Prop)
    (hs : ∀ i : Int, 0 ≤ i → i < n → (∀ j : Int, 0 ≤ j → j < i → P j) → (P i ∧ ∀ r, Ev (L (i + 1)) r → Ev (L i) r) ∨ (¬ P i ∧ Ev (L i) false))
    (he : (∀ j : Int, 0 ≤ j → j < n → P j) → Ev (L n) true) : Ev (L 0) (B (∀ j : Int, 0 ≤ j → j < n → P j)) := by
  have := scanB n L P True hs (fun h => by rw [B_true]; exact he h)
  rwa [B_congr (show ((∀ j : Int, 0 ≤ j → j < n → P j) ∧ True) ↔ _ from ⟨fun h => h.1, fun h => ⟨h, trivial⟩⟩)] at this
theorem ext_rd {xs ys : List Int} (hl : xs.length = ys.length) (h : ∀ i : Int, 0 ≤ i → i < xs.length → rd xs i = rd ys i) : xs = ys := by
  apply List.ext_getElem hl
  intro i h1 h2
  have := h i (by omega) (by omega)
  simpa [rd, List.getD_eq_getElem?_getD, List.getElem?_eq_getElem h1, List.getElem?_eq_getElem h2] using this
end Go.Proofs.Ytdiadcmkddkjpaa.U
set_option linter.unusedVariables false
set_option linter.unusedSimpArgs false
namespace Go.Proofs.Ytdiadcmkddkjpaa.U
open Go.RowKit Go.Proofs.YtdiadcmkddkjpaaW.PrintWords Go.Proofs.YtdiadcmkddkjpaaW.PrintLast Go.Proofs.YtdiadcmkddkjpaaW.PrintMore Go.Proofs.Ytdiadcmkddkjpaa.Pa
theorem maxLen_le : maxLen ≤ 9223372036854775807 := by unfold maxLen; omega
def AllIn (n : Int) (xs : List Int) : Prop := ∀ i : Int, 0 ≤ i → i < xs.length → 0 ≤ rd xs i ∧ rd xs i < n
theorem ev_areIn (n : Int) (xs : List Int) (hl : xs.length ≤ maxLen) : Ev (fun k => impl_areIn.f k n xs) (B (AllIn n xs)) := by
  have hm := maxLen_le
  unfold impl_areIn.f
  refine scanT xs.length (fun i k => impl_areIn.l0 k n xs (xs.length : Int) i) (fun i => 0 ≤ rd xs i ∧ rd xs i < n) (fun i h0 h1 _ => ?_) (fun _ => ?_)
  · have hw : wrap64 (i + 1) = i + 1 := w64s h0 h1 (by omega)
    by_cases h2 : rd xs i < 0
    · exact .inr ⟨by omega, ev_step_now fun k => by simp only [impl_areIn.l0, h0, h1, h2, ↓reduceIte]⟩
    · by_cases h3 : rd xs i ≥ n
      · exact .inr ⟨by omega, ev_step_now fun k => by simp only [impl_areIn.l0, h0, h1, h2, h3, ↓reduceIte]⟩
      · exact .inl ⟨by omega, fun r h => Ev.step (fun k => by simp only [impl_areIn.l0, h0, h1, h2, h3, hw, ↓reduceIte]) h⟩
  · exact ev_step_now fun k => by simp only [impl_areIn.l0, Int.lt_irrefl, ↓reduceIte]
theorem ev_index (xs : List Int) (x : Int) (hl : xs.length ≤ maxLen) :
    ((∀ i : Int, 0 ≤ i → i < xs.length → rd xs i ≠ x) ∧ Ev (fun k => slices_Index_int64_int64.f k xs x) (-1)) ∨
    ∃ i : Int, 0 ≤ i ∧ i < xs.length ∧ rd xs i = x ∧ (∀ j : Int, 0 ≤ j → j < i → rd xs j ≠ x) ∧ Ev (fun k => slices_Index_int64_int64.f k xs x) i := by
  have hm := maxLen_le
  unfold slices_Index_int64_int64.f
  suffices H : ∀ d m : Nat, m + d = xs.length → (∀ j : Int, 0 ≤ j → j < m → rd xs j ≠ x) →
      ((∀ i : Int, 0 ≤ i → i < xs.length → rd xs i ≠ x) ∧ Ev (fun k => slices_Index_int64_int64.l0 k xs x (xs.length : Int) m) (-1)) ∨
      ∃ i : Int, 0 ≤ i ∧ i < xs.length ∧ rd xs i = x ∧ (∀ j : Int, 0 ≤ j → j < i → rd xs j ≠ x) ∧ Ev (fun k => slices_Index_int64_int64.l0 k xs x (xs.length : Int) m) i from
    H xs.length 0 (by omega) (fun j h0 h1 => by omega)
  intro d
  induction d with
  | zero =>
    intro m hd hp
    obtain rfl : m = xs.length := by omega
    exact .inl ⟨hp, ev_step_now fun k => by simp only [slices_Index_int64_int64.l0, Int.lt_irrefl, ↓reduceIte]⟩
  | succ d ih =>
    intro m hd hp
    have h1 : (m : Int) < xs.length := by omega
    have h0 : (0 : Int) ≤ m := by omega
    have hw : wrap64 ((m : Int) + 1) = ((m + 1 : Nat) : Int) := by rw [w64s h0 h1 (by omega)]; omega
    by_cases h2 : x = rd xs m
    · exact .inr ⟨m, h0, h1, h2.symm, hp, ev_step_now fun k => by simp only [slices_Index_int64_int64.l0, h1, h0, ← h2, ↓reduceIte]⟩
    · have st : ∀ r, Ev (fun k => slices_Index_int64_int64.l0 k xs x (xs.length : Int) ((m + 1 : Nat) : Int)) r → Ev (fun k => slices_Index_int64_int64.l0 k xs x (xs.length : Int) m) r := fun r h =>
        Ev.step (fun k => by simp only [slices_Index_int64_int64.l0, h1, h0, h2, hw, ↓reduceIte]) h
      have hp' : ∀ j : Int, 0 ≤ j → j < ((m + 1 : Nat) : Int) → rd xs j ≠ x := fun j k0 k1 => by
        by_cases e : j = m
        · rw [e]; exact fun h => h2 h.symm
        · exact hp j k0 (by omega)
      rcases ih (m + 1) (by omega) hp' with ⟨a, b⟩ | ⟨i, a1, a2, a3, a4, b⟩
      · exact .inl ⟨a, st _ b⟩
      · exact .inr ⟨i, a1, a2, a3, a4, st _ b⟩
theorem ev_contains (xs : List Int) (x : Int) (hl : xs.length ≤ maxLen) : Ev (fun k => slices_Contains_int64_int64.f k xs x) (B (∃ i : Int, 0 ≤ i ∧ i < xs.length ∧ rd xs i = x)) := by
  unfold slices_Contains_int64_int64.f
  rcases ev_index xs x hl with ⟨h, e⟩ | ⟨i, h0, h1, h2, _, e⟩
  · rw [B_neg fun ⟨i, h0, h1, h2⟩ => h i h0 h1 h2]
    exact Ev.bind e (ev_now fun k => by simp)
  · rw [B_pos ⟨i, h0, h1, h2⟩]
    exact Ev.bind e (ev_now fun k => by simp [h0])
def T (g : List (List Int)) (a b : Int) : Int := rd (rd_Li64 g a) b
structure Grp (g : List (List Int)) : Prop where
  n1 : 1 ≤ g.length
  n8 : g.length ≤ 8
  row : ∀ a : Int, 0 ≤ a → a < g.length → (rd_Li64 g a).length = g.length
  ent : ∀ a b : Int, 0 ≤ a → a < g.length → 0 ≤ b → b < g.length → 0 ≤ T g a b ∧ T g a b < g.length
  one : ∀ a : Int, 0 ≤ a → a < g.length → T g 0 a = a
  one' : ∀ a : Int, 0 ≤ a → a < g.length → T g a 0 = a
  assoc : ∀ a b c : Int, 0 ≤ a → a < g.length → 0 ≤ b → b < g.length → 0 ≤ c → c < g.length → T g (T g a b) c = T g a (T g b c)
  inv : ∀ a : Int, 0 ≤ a → a < g.length → ∃ b : Int, 0 ≤ b ∧ b < g.length ∧ T g a b = 0
theorem Grp.inv2 {g : List (List Int)} (h : Grp g) {a : Int} (h0 : 0 ≤ a) (h1 : a < g.length) : ∃ b : Int, 0 ≤ b ∧ b < g.length ∧ T g a b = 0 ∧ T g b a = 0 := by
  obtain ⟨b, b0, b1, hb⟩ := h.inv a h0 h1
  obtain ⟨c, c0, c1, hc⟩ := h.inv b b0 b1
  refine ⟨b, b0, b1, hb, ?_⟩
  have hac : c = a := by
    have e1 := h.assoc a b c h0 h1 b0 b1 c0 c1
    rw [hb, hc, h.one c c0 c1, h.one' a h0 h1] at e1
    exact e1
  rw [← hac]; exact hc
theorem rows_len {g : List (List Int)} (hr : ∀ r ∈ g, r.length ≤ maxLen) {a : Int} (h0 : 0 ≤ a) (h1 : a < g.length) : (rd_Li64 g a).length ≤ maxLen := by
  have h : a.toNat < g.length := by omega
  have : rd_Li64 g a ∈ g := by
    unfold rd_Li64
    rw [List.getD_eq_getElem?_getD, List.getElem?_eq_getElem h]
    exact List.getElem_mem h
  exact hr _ this
def Tab (g : List (List Int)) : Prop := ∀ a : Int, 0 ≤ a → a < g.length → (rd_Li64 g a).length = g.length ∧ AllIn g.length (rd_Li64 g a)
def Law (g : List (List Int)) (a : Int) : Prop := T g 0 a = a ∧ T g a 0 = a ∧ (∃ b : Int, 0 ≤ b ∧ b < g.length ∧ T g a b = 0) ∧ ∀ b : Int, 0 ≤ b → b < g.length → ∀ c : Int, 0 ≤ c → c < g.length → T g (T g a b) c = T g a (T g b c)
theorem grp_iff (g : List (List Int)) : Grp g ↔ (1 ≤ g.length ∧ g.length ≤ 8) ∧ Tab g ∧ ∀ a : Int, 0 ≤ a → a < g.length → Law g a := by
  constructor
  · intro h
    refine ⟨⟨h.n1, h.n8⟩, fun a h0 h1 => ⟨h.row a h0 h1, fun i i0 i1 => ?_⟩, fun a h0 h1 => ⟨h.one a h0 h1, h.one' a h0 h1, h.inv a h0 h1, fun b b0 b1 c c0 c1 => h.assoc a b c h0 h1 b0 b1 c0 c1⟩⟩
    have := h.row a h0 h1
    exact h.ent a i h0 h1 i0 (by omega)
  · rintro ⟨⟨h1, h8⟩, ht, hl⟩
    refine ⟨h1, h8, fun a a0 a1 => (ht a a0 a1).1, fun a b a0 a1 b0 b1 => ?_, fun a a0 a1 => (hl a a0 a1).1, fun a a0 a1 => (hl a a0 a1).2.1, fun a b c a0 a1 b0 b1 c0 c1 => (hl a a0 a1).2.2.2 b b0 b1 c c0 c1, fun a a0 a1 => (hl a a0 a1).2.2.1⟩
    have := (ht a a0 a1).1
    exact (ht a a0 a1).2 b b0 (by omega)
theorem ev_IsGroup (g : List (List Int)) (hl : g.length ≤ maxLen) (hr : ∀ r ∈ g, r.length ≤ maxLen) : Ev (fun k => impl_IsGroup.f k g) (B (Grp g)) := by
  have hm := maxLen_le
  rw [B_congr (grp_iff g)]
  unfold impl_IsGroup.f impl_order.f
  simp only [Option.bind_some]
  by_cases c1 : (g.length : Int) < 1
  · rw [B_neg fun h => by omega]
    simp only [c1, ↓reduceIte]
    exact ev_step_now fun k => by simp only [impl_IsGroup.j0, ↓reduceIte]
  simp only [c1, ↓reduceIte]
  by_cases c2 : (g.length : Int) > 8
  · rw [B_neg fun h => by omega]
    refine ev_step_now fun k => by simp only [impl_IsGroup.j0, c2, decide_true, ↓reduceIte]
  rw [B_congr (show ((1 ≤ g.length ∧ g.length ≤ 8) ∧ Tab g ∧ ∀ a : Int, 0 ≤ a → a < g.length → Law g a) ↔ (Tab g ∧ ∀ a : Int, 0 ≤ a → a < g.length → Law g a) from ⟨fun h => h.2, fun h => ⟨by omega, h⟩⟩)]
  have hpos : (0 : Int) < g.length := by omega
  refine Ev.step (f := fun k => impl_IsGroup.l0 k (g.length : Int) g (g.length : Int) 0 g) (fun k => by simp [impl_IsGroup.j0, c2]) ?_
  refine scanB g.length (fun i k => impl_IsGroup.l0 k (g.length : Int) g (g.length : Int) i g) (fun a => (rd_Li64 g a).length = g.length ∧ AllIn g.length (rd_Li64 g a)) (∀ a : Int, 0 ≤ a → a < g.length → Law g a) (fun i h0 h1 _ => ?_) (fun ht => ?_)
  · have hw : wrap64 (i + 1) = i + 1 := w64s h0 h1 (by omega)
    by_cases h2 : ((rd_Li64 g i).length : Int) = g.length
    · have ha := ev_areIn g.length (rd_Li64 g i) (rows_len hr h0 h1)
      by_cases h3 : AllIn g.length (rd_Li64 g i)
      · rw [B_pos h3] at ha
        refine .inl ⟨⟨by omega, h3⟩, fun r h => ev_step_bind (fun k => by simp only [impl_IsGroup.l0, h0, h1, h2, ↓reduceIte]; rfl) ha ?_⟩
        simp only [hw, ↓reduceIte]; exact h
      · rw [B_neg h3] at ha
        refine .inr ⟨fun h => h3 h.2, ev_step_bind (fun k => by simp only [impl_IsGroup.l0, h0, h1, h2, ↓reduceIte]; rfl) ha ?_⟩
        exact ev_now fun k => by simp
    · exact .inr ⟨fun h => h2 (by omega), ev_step_now fun k => by simp only [impl_IsGroup.l0, h0, h1, h2, ↓reduceIte]⟩
  · refine Ev.step (f := fun k => impl_IsGroup.l1 k (g.length : Int) (g.length : Int) 0 g) (fun k => by simp only [impl_IsGroup.l0, Int.lt_irrefl, ↓reduceIte]) ?_
    refine scanT g.length (fun i k => impl_IsGroup.l1 k (g.length : Int) (g.length : Int) i g) (Law g) (fun a a0 a1 _ => ?_) (fun _ => ev_step_now fun k => by simp only [impl_IsGroup.l1, Int.lt_irrefl, ↓reduceIte])
    have hlen : ∀ x : Int, 0 ≤ x → x < g.length → ((rd_Li64 g x).length : Int) = g.length := fun x x0 x1 => by rw [(ht x x0 x1).1]
    have hent : ∀ x y : Int, 0 ≤ x → x < g.length → 0 ≤ y → y < g.length → 0 ≤ rd (rd_Li64 g x) y ∧ rd (rd_Li64 g x) y < g.length := fun x y x0 x1 y0 y1 => (ht x x0 x1).2 y y0 (by rw [hlen x x0 x1]; exact y1)
    have l0 := hlen 0 (by omega) hpos
    have la := hlen a a0 a1
    have hwa : wrap64 (a + 1) = a + 1 := w64s a0 a1 (by omega)
    have bad : Ev (fun k => impl_IsGroup.j3 k (g.length : Int) a (g.length : Int) a true g) false := ev_step_now fun k => by simp only [impl_IsGroup.j3, ↓reduceIte]
    by_cases h2 : rd (rd_Li64 g 0) a = a
    · by_cases h3 : rd (rd_Li64 g a) 0 = a
      · have hc := ev_contains (rd_Li64 g a) 0 (rows_len hr a0 a1)
        rw [B_congr (show (∃ i : Int, 0 ≤ i ∧ i < (rd_Li64 g a).length ∧ rd (rd_Li64 g a) i = 0) ↔ ∃ b : Int, 0 ≤ b ∧ b < g.length ∧ T g a b = 0 by rw [la]; rfl)] at hc
        have go : ∀ r b, B (∃ b : Int, 0 ≤ b ∧ b < g.length ∧ T g a b = 0) = b → Ev (fun k => impl_IsGroup.j3 k (g.length : Int) a (g.length : Int) a (!b) g) r → Ev (fun k => impl_IsGroup.l1 k (g.length : Int) (g.length : Int) a g) r := fun r b hb h => by
          rw [hb] at hc
          refine ev_step_bind (fun k => by simp only [impl_IsGroup.l1, a0, a1, hpos, l0, la, h2, h3, ↓reduceIte]; rfl) hc ?_
          exact h
        by_cases h4 : ∃ b : Int, 0 ≤ b ∧ b < g.length ∧ T g a b = 0
        · have inner := scan g.length (fun b k => impl_IsGroup.l2 k (g.length : Int) a (g.length : Int) a (g.length : Int) b g) (fun b => ∀ c : Int, 0 ≤ c → c < g.length → T g (T g a b) c = T g a (T g b c)) false (fun b b0 b1 _ => by
            have hwb : wrap64 (b + 1) = b + 1 := w64s b0 b1 (by omega)
            obtain ⟨e0, e1⟩ := hent a b a0 a1 b0 b1
            have le := hlen _ e0 e1
            have lb := hlen b b0 b1
            have inner3 := scan g.length (fun c k => impl_IsGroup.l3 k (g.length : Int) a b (g.length : Int) a (g.length : Int) b (g.length : Int) c g) (fun c => T g (T g a b) c = T g a (T g b c)) false (fun c c0 c1 _ => by
              have hwc : wrap64 (c + 1) = c + 1 := w64s c0 c1 (by omega)
              obtain ⟨f0, f1⟩ := hent b c b0 b1 c0 c1
              by_cases h5 : rd (rd_Li64 g (rd (rd_Li64 g a) b)) c = rd (rd_Li64 g a) (rd (rd_Li64 g b) c)
              · exact .inl ⟨h5, fun r h => Ev.step (fun k => by simp only [impl_IsGroup.l3, a0, a1, b0, b1, c0, c1, e0, e1, f0, f1, la, lb, le, h5, hwc, ↓reduceIte]) h⟩
              · exact .inr ⟨h5, ev_step_now fun k => by simp only [impl_IsGroup.l3, a0, a1, b0, b1, c0, c1, e0, e1, f0, f1, la, lb, le, h5, ↓reduceIte]⟩)
            rcases inner3 with ⟨h5, h6⟩ | ⟨⟨c, c0, c1, h5⟩, h6⟩
            · exact .inl ⟨h5, fun r h => Ev.step (fun k => by simp only [impl_IsGroup.l2, b1, ↓reduceIte]) (h6 r (Ev.step (fun k => by simp only [impl_IsGroup.l3, Int.lt_irrefl, hwb, ↓reduceIte]) h))⟩
            · exact .inr ⟨fun h => h5 (h c c0 c1), Ev.step (fun k => by simp only [impl_IsGroup.l2, b1, ↓reduceIte]) h6⟩)
          have st : ∀ r, Ev (fun k => impl_IsGroup.l2 k (g.length : Int) a (g.length : Int) a (g.length : Int) 0 g) r → Ev (fun k => impl_IsGroup.l1 k (g.length : Int) (g.length : Int) a g) r := fun r h =>
            go r true (B_pos h4) (Ev.step (fun k => by simp only [impl_IsGroup.j3, Bool.not_true, Bool.false_eq_true, ↓reduceIte]) h)
          rcases inner with ⟨h5, h6⟩ | ⟨⟨b, b0, b1, h5⟩, h6⟩
          · exact .inl ⟨⟨h2, h3, h4, h5⟩, fun r h => st r (h6 r (Ev.step (fun k => by simp only [impl_IsGroup.l2, Int.lt_irrefl, hwa, ↓reduceIte]) h))⟩
          · exact .inr ⟨fun h => h5 (h.2.2.2 b b0 b1), st _ h6⟩
        · exact .inr ⟨fun h => h4 h.2.2.1, go _ false (B_neg h4) bad⟩
      · exact .inr ⟨fun h => h3 h.2.1, Ev.step (fun k => by simp only [impl_IsGroup.l1, a0, a1, hpos, l0, la, h2, h3, ↓reduceIte]) bad⟩
    · exact .inr ⟨fun h => h2 h.1, Ev.step (fun k => by simp only [impl_IsGroup.l1, a0, a1, hpos, l0, h2, ↓reduceIte]) bad⟩
end Go.Proofs.Ytdiadcmkddkjpaa.U
set_option linter.unusedVariables false
set_option linter.unusedSimpArgs false
namespace Go.Proofs.Ytdiadcmkddkjpaa.U
open Go.RowKit Go.Proofs.YtdiadcmkddkjpaaW.PrintWords Go.Proofs.YtdiadcmkddkjpaaW.PrintLast Go.Proofs.YtdiadcmkddkjpaaW.PrintMore Go.Proofs.Ytdiadcmkddkjpaa.Pa
theorem copy_step {α : Type} (xs : List α) (d : α) (m : Nat) (hm : m < xs.length) :
    (xs.take m ++ List.replicate (xs.length - m) d).set m xs[m] = xs.take (m + 1) ++ List.replicate (xs.length - (m + 1)) d := by
  have h1 : (xs.take m).length = m := by rw [List.length_take]; omega
  rw [List.set_append, if_neg (by omega), h1, Nat.sub_self]
  rw [show xs.length - m = (xs.length - (m + 1)) + 1 by omega, List.replicate_succ, List.set_cons_zero]
  rw [List.take_succ_eq_append_getElem hm, List.append_assoc]; rfl
theorem ev_toInt64S (xs : List Int) (hl : xs.length ≤ 1048576) : Ev (fun k => laws_toInt64S.f k xs) xs := by
  unfold laws_toInt64S.f
  simp only [show (0 : Int) ≤ xs.length by omega, ↓reduceIte, Int.toNat_natCast, show xs.length ≤ 35184372088832 by omega]
  have := fold xs.length (fun i s k => laws_toInt64S.l0 k xs s i) (fun m => xs.take m ++ List.replicate (xs.length - m) 0) (fun m hm r h => by
    have hw : wrap64 ((m : Int) + 1) = ((m + 1 : Nat) : Int) := by rw [w64 (by omega) (by omega)]; omega
    have m1 : (m : Int) < xs.length := by omega
    have m0 : (0 : Int) ≤ m := by omega
    have l1 : (m : Int) < ((xs.take m ++ List.replicate (xs.length - m) (0 : Int)).length : Int) := by
      rw [List.length_append, List.length_take, List.length_replicate]; omega
    refine Ev.step (fun k => ?_) h
    simp only [laws_toInt64S.l0, m1, m0, l1, hw, ↓reduceIte, Int.toNat_natCast]
    rw [← copy_step xs 0 m hm, show rd xs (m : Int) = xs[m] by simp [rd, List.getD_eq_getElem?_getD, List.getElem?_eq_getElem hm]]) xs
    (ev_step_now fun k => by simp only [laws_toInt64S.l0, Int.lt_irrefl, ↓reduceIte]; simp)
  simpa using this
theorem ev_toInt64SS (g : List (List Int)) (hl : g.length ≤ 1048576) (hr : ∀ r ∈ g, r.length ≤ 1048576) : Ev (fun k => laws_toInt64SS.f k g) g := by
  unfold laws_toInt64SS.f
  simp only [show (0 : Int) ≤ g.length by omega, ↓reduceIte, Int.toNat_natCast, show g.length ≤ 11728124029610 by omega]
  have := fold g.length (fun i s k => laws_toInt64SS.l0 k g s i) (fun m => g.take m ++ List.replicate (g.length - m) []) (fun m hm r h => by
    have hw : wrap64 ((m : Int) + 1) = ((m + 1 : Nat) : Int) := by rw [w64 (by omega) (by omega)]; omega
    have m1 : (m : Int) < g.length := by omega
    have m0 : (0 : Int) ≤ m := by omega
    have l1 : (m : Int) < ((g.take m ++ List.replicate (g.length - m) ([] : List Int)).length : Int) := by
      rw [List.length_append, List.length_take, List.length_replicate]; omega
    have e : rd_Li64 g (m : Int) = g[m] := by simp [rd_Li64, List.getD_eq_getElem?_getD, List.getElem?_eq_getElem hm]
    refine ev_step_bind (fun k => by simp only [laws_toInt64SS.l0, m1, m0, ↓reduceIte]; rfl) (ev_toInt64S (rd_Li64 g (m : Int)) (by rw [e]; exact hr _ (List.getElem_mem hm))) ?_
    simp only [l1, hw, ↓reduceIte, Int.toNat_natCast, e]
    rw [copy_step g [] m hm]; exact h) g
    (ev_step_now fun k => by simp only [laws_toInt64SS.l0, Int.lt_irrefl, ↓reduceIte]; simp)
  simpa using this
theorem ev_toGroup (g : List (List Int)) (hl : g.length ≤ 1048576) (hr : ∀ r ∈ g, r.length ≤ 1048576) : Ev (fun k => laws_toGroup.f k g) g := by
  unfold laws_toGroup.f
  exact ev_bind (fun k => rfl) (ev_toInt64SS g hl hr) (ev_now fun k => rfl)
theorem ev_toModule (m : Int) (u : List Int) (hl : u.length ≤ 1048576) : Ev (fun k => laws_toModule.f k m u) (m, u) := by
  unfold laws_toModule.f
  exact ev_bind (fun k => rfl) (ev_toInt64S u hl) (ev_now fun k => rfl)
theorem ev_eqInt64S (xs ys : List Int) (hl : xs.length ≤ maxLen) : Ev (fun k => laws_eqInt64S.f k xs ys) (B (xs = ys)) := by
  have hm := maxLen_le
  unfold laws_eqInt64S.f
  by_cases h : (xs.length : Int) = ys.length
  rotate_left
  · rw [B_neg fun e => h (by rw [e])]
    exact ev_now fun k => by simp only [h, ↓reduceIte]
  simp only [h, ↓reduceIte]
  rw [B_congr (show xs = ys ↔ ∀ i : Int, 0 ≤ i → i < xs.length → rd xs i = rd ys i from ⟨fun e i _ _ => by rw [e], fun e => ext_rd (by omega) e⟩)]
  refine scanT xs.length (fun i k => laws_eqInt64S.l0 k xs ys i) (fun i => rd xs i = rd ys i) (fun i i0 i1 _ => ?_) (fun _ => ev_step_now fun k => by simp only [laws_eqInt64S.l0, Int.lt_irrefl, ↓reduceIte])
  have hw : wrap64 (i + 1) = i + 1 := w64s i0 i1 (by omega)
  have i2 : i < (ys.length : Int) := by omega
  by_cases h2 : rd xs i = rd ys i
  · exact .inl ⟨h2, fun r k => Ev.step (fun k => by simp only [laws_eqInt64S.l0, i0, i1, i2, h2, hw, ↓reduceIte]) k⟩
  · exact .inr ⟨h2, ev_step_now fun k => by simp only [laws_eqInt64S.l0, i0, i1, i2, h2, ↓reduceIte]⟩
theorem ext_rows {xs ys : List (List Int)} (hl : xs.length = ys.length) (h : ∀ i : Int, 0 ≤ i → i < xs.length → rd_Li64 xs i = rd_Li64 ys i) : xs = ys := by
  apply List.ext_getElem hl
  intro i h1 h2
  have := h i (by omega) (by omega)
  simpa [rd_Li64, List.getD_eq_getElem?_getD, List.getElem?_eq_getElem h1, List.getElem?_eq_getElem h2] using this
theorem ev_eqInt64SS (xs ys : List (List Int)) (hl : xs.length ≤ maxLen) (hr : ∀ r ∈ xs, r.length ≤ maxLen) : Ev (fun k => laws_eqInt64SS.f k xs ys) (B (xs = ys)) := by
  have hm := maxLen_le
  unfold laws_eqInt64SS.f
  by_cases h : (xs.length : Int) = ys.length
  rotate_left
  · rw [B_neg fun e => h (by rw [e])]
    exact ev_now fun k => by simp only [h, ↓reduceIte]
  simp only [h, ↓reduceIte]
  rw [B_congr (show xs = ys ↔ ∀ i : Int, 0 ≤ i → i < xs.length → rd_Li64 xs i = rd_Li64 ys i from ⟨fun e i _ _ => by rw [e], fun e => ext_rows (by omega) e⟩)]
  refine scanT xs.length (fun i k => laws_eqInt64SS.l0 k xs ys i) (fun i => rd_Li64 xs i = rd_Li64 ys i) (fun i i0 i1 _ => ?_) (fun _ => ev_step_now fun k => by simp only [laws_eqInt64SS.l0, Int.lt_irrefl, ↓reduceIte])
  have hw : wrap64 (i + 1) = i + 1 := w64s i0 i1 (by omega)
  have i2 : i < (ys.length : Int) := by omega
  have he := ev_eqInt64S (rd_Li64 xs i) (rd_Li64 ys i) (rows_len hr i0 i1)
  by_cases h2 : rd_Li64 xs i = rd_Li64 ys i
  · rw [B_pos h2] at he
    refine .inl ⟨h2, fun r k => ev_step_bind (fun k => by simp only [laws_eqInt64SS.l0, i0, i1, i2, ↓reduceIte]; rfl) he ?_⟩
    simp only [hw, ↓reduceIte]; exact k
  · rw [B_neg h2] at he
    refine .inr ⟨h2, ev_step_bind (fun k => by simp only [laws_eqInt64SS.l0, i0, i1, i2, ↓reduceIte]; rfl) he ?_⟩
    exact ev_now fun k => by simp
theorem ite_B (p : Prop) : (if B p = true then some true else some false) = some (B p) := by by_cases h : p <;> simp [B_pos, B_neg, h]
theorem ev_eqGroup (xs ys : List (List Int)) (hl : xs.length ≤ maxLen) (hr : ∀ r ∈ xs, r.length ≤ maxLen) : Ev (fun k => laws_eqGroup.f k xs ys) (B (xs = ys)) := by
  unfold laws_eqGroup.f
  exact ev_bind (fun k => rfl) (ev_eqInt64SS xs ys hl hr) (ev_now fun k => ite_B _)
theorem ev_eqModule (m n : Int) (u v : List Int) (hl : u.length ≤ maxLen) : Ev (fun k => laws_eqModule.f k m u n v) (B (m = n ∧ u = v)) := by
  unfold laws_eqModule.f
  by_cases h : m = n
  · simp only [h, ↓reduceIte, true_and]
    exact ev_bind (fun k => rfl) (ev_eqInt64S u v hl) (ev_now fun k => ite_B _)
  · rw [B_neg fun e => h e.1]
    exact ev_now fun k => by simp only [h, ↓reduceIte]
theorem same_Ints (xs : List Int) (hl : xs.length ≤ maxLen) : Ev (fun k => laws_eqInt64S.f k xs xs) true := by have := ev_eqInt64S xs xs hl; rwa [B_pos rfl] at this
theorem same_Group (xs : List (List Int)) (hl : xs.length ≤ maxLen) (hr : ∀ r ∈ xs, r.length ≤ maxLen) : Ev (fun k => laws_eqGroup.f k xs xs) true := by have := ev_eqGroup xs xs hl hr; rwa [B_pos rfl] at this
theorem same_Module (m : Int) (u : List Int) (hl : u.length ≤ maxLen) : Ev (fun k => laws_eqModule.f k m u m u) true := by have := ev_eqModule m m u u hl; rwa [B_pos ⟨rfl, rfl⟩] at this
theorem ev_szInt64S (xs : List Int) (left : Int) (hl : xs.length ≤ maxLen) (l0 : 0 ≤ left) (l1 : left ≤ 1048576) :
    ∃ t, Ev (fun _ => laws_szInt64S.f xs left) t ∧ (t < 0 ∨ (0 ≤ t ∧ t ≤ left ∧ (xs.length : Int) ≤ left)) := by
  have hm := maxLen_le
  have hw : wrap64 (left - (xs.length : Int)) = left - xs.length := w64 (by omega) (by omega)
  unfold laws_szInt64S.f
  simp only [hw]
  by_cases h : left - (xs.length : Int) < 0
  · exact ⟨-1, ev_now fun k => by simp only [h, ↓reduceIte], by omega⟩
  · exact ⟨left - xs.length, ev_now fun k => by simp only [h, ↓reduceIte], by omega⟩
theorem ev_szInt64SS (g : List (List Int)) (left : Int) (hl : g.length ≤ maxLen) (hr : ∀ r ∈ g, r.length ≤ maxLen) (l0 : 0 ≤ left) (l1 : left ≤ 1048576) :
    ∃ t, Ev (fun k => laws_szInt64SS.f k g left) t ∧ (t < 0 ∨ (0 ≤ t ∧ t ≤ left ∧ (g.length : Int) ≤ left ∧ ∀ i : Int, 0 ≤ i → i < g.length → ((rd_Li64 g i).length : Int) ≤ left)) := by
  have hm := maxLen_le
  have hw : wrap64 (left - (g.length : Int)) = left - g.length := w64 (by omega) (by omega)
  unfold laws_szInt64SS.f
  simp only [hw]
  by_cases h : left - (g.length : Int) < 0
  · exact ⟨-1, ev_now fun k => by simp only [h, ↓reduceIte], by omega⟩
  simp only [h, ↓reduceIte]
  suffices H : ∀ d m : Nat, m + d = g.length → ∀ x : Int, 0 ≤ x → x ≤ left → ∃ t, Ev (fun k => laws_szInt64SS.l0 k g x m) t ∧ (t < 0 ∨ (0 ≤ t ∧ t ≤ left ∧ ∀ i : Int, m ≤ i → i < g.length → ((rd_Li64 g i).length : Int) ≤ left)) by
    obtain ⟨t, ht, h'⟩ := H g.length 0 (by omega) (left - g.length) (by omega) (by omega)
    refine ⟨t, by simpa using ht, ?_⟩
    rcases h' with h' | ⟨a, b, c⟩
    · exact .inl h'
    · exact .inr ⟨a, b, by omega, fun i i0 i1 => c i (by omega) i1⟩
  intro d
  induction d with
  | zero =>
    intro m hd x x0 x1
    obtain rfl : m = g.length := by omega
    exact ⟨x, ev_step_now fun k => by simp only [laws_szInt64SS.l0, Int.lt_irrefl, ↓reduceIte], .inr ⟨x0, x1, fun i i0 i1 => by omega⟩⟩
  | succ d ih =>
    intro m hd x x0 x1
    have m1 : (m : Int) < g.length := by omega
    have m0 : (0 : Int) ≤ m := by omega
    have hwm : wrap64 ((m : Int) + 1) = ((m + 1 : Nat) : Int) := by rw [w64s m0 m1 (by omega)]; omega
    obtain ⟨t, ht, h1⟩ := ev_szInt64S (rd_Li64 g m) x (rows_len hr m0 m1) x0 (by omega)
    rcases h1 with h1 | ⟨a, b, c⟩
    · refine ⟨-1, ev_step_bind (fun k => by simp only [laws_szInt64SS.l0, m1, m0, ↓reduceIte]; rfl) ht (ev_now fun k => by simp only [h1, ↓reduceIte]), by omega⟩
    · obtain ⟨t', ht', h2⟩ := ih (m + 1) (by omega) t a (by omega)
      refine ⟨t', ev_step_bind (fun k => by simp only [laws_szInt64SS.l0, m1, m0, ↓reduceIte]; rfl) ht ?_, ?_⟩
      · simp only [show ¬ t < 0 by omega, hwm, ↓reduceIte]; exact ht'
      · rcases h2 with h2 | ⟨a', b', c'⟩
        · exact .inl h2
        · refine .inr ⟨a', b', fun i i0 i1 => ?_⟩
          by_cases e : i = m
          · rw [e]; omega
          · exact c' i (by omega) i1
theorem mem_rd {g : List (List Int)} {r : List Int} (h : r ∈ g) : ∃ i : Int, 0 ≤ i ∧ i < g.length ∧ rd_Li64 g i = r := by
  obtain ⟨i, hi, rfl⟩ := List.mem_iff_getElem.1 h
  exact ⟨i, by omega, by omega, by simp [rd_Li64, List.getD_eq_getElem?_getD, List.getElem?_eq_getElem hi]⟩
theorem ev_szGroup (g : List (List Int)) (left : Int) (hl : g.length ≤ maxLen) (hr : ∀ r ∈ g, r.length ≤ maxLen) (l0 : 0 ≤ left) (l1 : left ≤ 1048576) :
    ∃ t, Ev (fun k => laws_szGroup.f k g left) t ∧ (t < 0 ∨ (0 ≤ t ∧ t ≤ left ∧ g.length ≤ 1048576 ∧ ∀ r ∈ g, r.length ≤ 1048576)) := by
  unfold laws_szGroup.f
  obtain ⟨t, ht, h⟩ := ev_szInt64SS g left hl hr l0 l1
  rcases h with h | ⟨a, b, c, d⟩
  · exact ⟨-1, ev_bind (fun k => rfl) ht (ev_now fun k => by simp only [h, ↓reduceIte]), by omega⟩
  · refine ⟨t, ev_bind (fun k => rfl) ht (ev_now fun k => by simp only [show ¬ t < 0 by omega, ↓reduceIte]), .inr ⟨a, b, by omega, fun r hr => ?_⟩⟩
    obtain ⟨i, i0, i1, rfl⟩ := mem_rd hr
    have := d i i0 i1
    omega
theorem ev_szModule (m : Int) (u : List Int) (left : Int) (hl : u.length ≤ maxLen) (l0 : 0 ≤ left) (l1 : left ≤ 1048576) :
    ∃ t, Ev (fun _ => laws_szModule.f m u left) t ∧ (t < 0 ∨ (0 ≤ t ∧ t ≤ left ∧ u.length ≤ 1048576)) := by
  unfold laws_szModule.f
  obtain ⟨t, ht, h⟩ := ev_szInt64S u left hl l0 l1
  rcases h with h | ⟨a, b, c⟩
  · exact ⟨-1, ev_bind (fun k => rfl) ht (ev_now fun k => by simp only [h, ↓reduceIte]), by omega⟩
  · exact ⟨t, ev_bind (fun k => rfl) ht (ev_now fun k => by simp only [show ¬ t < 0 by omega, ↓reduceIte]), .inr ⟨a, b, by omega⟩⟩
end Go.Proofs.Ytdiadcmkddkjpaa.U
set_option linter.unusedVariables false
set_option linter.unusedSimpArgs false
namespace Go.Proofs.Ytdiadcmkddkjpaa.U
open Go.RowKit Go.Proofs.YtdiadcmkddkjpaaW.PrintWords Go.Proofs.YtdiadcmkddkjpaaW.PrintLast Go.Proofs.YtdiadcmkddkjpaaW.PrintMore Go.Proofs.Ytdiadcmkddkjpaa.Pa
def MkS (a : Int) (n : Nat) : List Int := (List.range n).map fun (i : Nat) => a + (i : Int)
theorem MkS_length (a : Int) (n : Nat) : (MkS a n).length = n := by simp [MkS]
theorem MkS_rd {a : Int} {n : Nat} {i : Int} (h0 : 0 ≤ i) (h1 : i < n) : rd (MkS a n) i = a + i := by
  have h : i.toNat < n := by omega
  simp [rd, MkS, List.getD_eq_getElem?_getD, h]
  omega
theorem MkS_step (a : Int) (xs : List Int) (m : Nat) (hm : m < xs.length) : (MkS a m ++ xs.drop m).set m (a + m) = MkS a (m + 1) ++ xs.drop (m + 1) := by
  have h1 : (MkS a m).length = m := MkS_length a m
  rw [List.set_append, if_neg (by omega), h1, Nat.sub_self, List.drop_eq_getElem_cons hm, List.set_cons_zero]
  simp [MkS, List.range_succ]
theorem ev_markS (xs : List Int) (a : Int) (h0 : 0 ≤ a) (h1 : a + xs.length ≤ 4611686018427387904) : Ev (fun k => laws_markInt64S.f k xs a) (a + xs.length, MkS a xs.length) := by
  unfold laws_markInt64S.f
  have := fold xs.length (fun i (s : List Int × Int) k => laws_markInt64S.l0 k s.1 s.2 i) (fun m => (MkS a m ++ xs.drop m, a + (m : Int))) (fun m hm r h => by
    have hw : wrap64 ((m : Int) + 1) = ((m + 1 : Nat) : Int) := by rw [w64 (by omega) (by omega)]; omega
    have hw2 : wrap64 (a + (m : Int) + 1) = a + ((m + 1 : Nat) : Int) := by rw [w64 (by omega) (by omega)]; omega
    have m0 : (0 : Int) ≤ m := by omega
    have l1 : (m : Int) < ((MkS a m ++ xs.drop m).length : Int) := by
      rw [List.length_append, MkS_length, List.length_drop]; omega
    refine Ev.step (fun k => ?_) h
    simp only [laws_markInt64S.l0, m0, l1, hw, hw2, ↓reduceIte, Int.toNat_natCast]
    rw [MkS_step a xs m hm]) (a + xs.length, MkS a xs.length)
    (ev_step_now fun k => by
      have e : (MkS a xs.length ++ xs.drop xs.length) = MkS a xs.length := by simp
      simp only [e, laws_markInt64S.l0, MkS_length, Int.lt_irrefl, ↓reduceIte])
  simpa [MkS] using this
theorem ev_heldS (a : Int) (n : Nat) (h0 : 0 ≤ a) (h1 : a + n ≤ 4611686018427387904) : Ev (fun k => laws_heldInt64S.f k (MkS a n) a) (a + n) := by
  unfold laws_heldInt64S.f
  have := fold n (fun i (s : Int) k => laws_heldInt64S.l0 k (MkS a n) s i) (fun m => a + (m : Int)) (fun m hm r h => by
    have hw : wrap64 ((m : Int) + 1) = ((m + 1 : Nat) : Int) := by rw [w64 (by omega) (by omega)]; omega
    have hw2 : wrap64 (a + (m : Int) + 1) = a + ((m + 1 : Nat) : Int) := by rw [w64 (by omega) (by omega)]; omega
    have m0 : (0 : Int) ≤ m := by omega
    have l1 : (m : Int) < ((MkS a n).length : Int) := by rw [MkS_length]; omega
    refine Ev.step (fun k => ?_) h
    simp only [laws_heldInt64S.l0, m0, l1, MkS_rd m0 (show (m : Int) < n by omega), hw, hw2, ↓reduceIte]) (a + n)
    (ev_step_now fun k => by simp only [laws_heldInt64S.l0, MkS_length, Int.lt_irrefl, ↓reduceIte])
  simpa using this
theorem ev_pos {α : Type} {c : Prop} {inst : Decidable c} {x y : Nat → Option α} {r : α} (h : c) (k : Ev x r) : Ev (fun n => if c then x n else y n) r := by simpa only [h, ↓reduceIte] using k
theorem ev_neg {α : Type} {c : Prop} {inst : Decidable c} {x y : Nat → Option α} {r : α} (h : ¬ c) (k : Ev y r) : Ev (fun n => if c then x n else y n) r := by simpa only [h, ↓reduceIte] using k
end Go.Proofs.Ytdiadcmkddkjpaa.U
set_option linter.unusedVariables false
set_option linter.unusedSimpArgs false
namespace Go.Proofs.Ytdiadcmkddkjpaa.U
open Go.RowKit Go.Proofs.YtdiadcmkddkjpaaW.PrintWords Go.Proofs.YtdiadcmkddkjpaaW.PrintLast Go.Proofs.YtdiadcmkddkjpaaW.PrintMore Go.Proofs.Ytdiadcmkddkjpaa.Pa
def tot : List (List Int) → Nat
  | [] => 0
  | r :: g => r.length + tot g
def MkSS (a : Int) : List (List Int) → List (List Int)
  | [] => []
  | r :: g => MkS a r.length :: MkSS (a + r.length) g
theorem tot_le (b : Nat) (g : List (List Int)) (h : ∀ r ∈ g, r.length ≤ b) : tot g ≤ g.length * b := by
  induction g with
  | nil => simp [tot]
  | cons r g ih =>
    have h1 := h r (by simp)
    have h2 := ih fun r hr => h r (by simp [hr])
    simp only [tot, List.length_cons, Nat.succ_mul]
    omega
theorem tot_small {g : List (List Int)} (h1 : g.length ≤ 1048576) (h2 : ∀ r ∈ g, r.length ≤ 1048576) : tot g ≤ 1099511627776 :=
  Nat.le_trans (tot_le 1048576 g h2) (by have := Nat.mul_le_mul_right 1048576 h1; omega)
theorem ev_markSS (g : List (List Int)) (a : Int) (h0 : 0 ≤ a) (h1 : a + tot g ≤ 4611686018427387904) (hl : g.length ≤ 4611686018427387904) : Ev (fun k => laws_markInt64SS.f k g a) (a + tot g, MkSS a g) := by
  unfold laws_markInt64SS.f
  suffices H : ∀ (rest done : List (List Int)) (b : Int), 0 ≤ b → b + tot rest ≤ 4611686018427387904 → done.length + rest.length ≤ 4611686018427387904 →
      Ev (fun k => laws_markInt64SS.l0 k (done ++ rest) b (done.length : Int)) (b + tot rest, done ++ MkSS b rest) by
    simpa using H g [] a h0 h1 (by simpa using hl)
  intro rest
  induction rest with
  | nil =>
    intro done b b0 b1 hd
    refine ev_step_now fun k => ?_
    simp only [laws_markInt64SS.l0, List.append_nil, Int.lt_irrefl, ↓reduceIte, MkSS, tot]
    simp
  | cons r g ih =>
    intro done b b0 b1 hd
    simp only [tot, List.length_cons] at b1 hd
    have m0 : (0 : Int) ≤ (done.length : Int) := by omega
    have m1 : (done.length : Int) < ((done ++ r :: g).length : Int) := by rw [List.length_append, List.length_cons]; omega
    have hw : wrap64 ((done.length : Int) + 1) = (((done ++ [MkS b r.length]).length : Nat) : Int) := by
      rw [w64 (by omega) (by omega), List.length_append, List.length_singleton]; omega
    have e : rd_Li64 (done ++ r :: g) (done.length : Int) = r := by simp [rd_Li64, List.getD_eq_getElem?_getD]
    have e2 : (done ++ r :: g).set done.length (MkS b r.length) = (done ++ [MkS b r.length]) ++ g := by
      rw [List.set_append, if_neg (by omega), Nat.sub_self, List.set_cons_zero]; simp
    refine ev_step_bind (fun k => by simp only [laws_markInt64SS.l0, m0, m1, e, ↓reduceIte]; rfl) (ev_markS r b b0 (by omega)) ?_
    have := ih (done ++ [MkS b r.length]) (b + r.length) (by omega) (by omega) (by rw [List.length_append, List.length_singleton]; omega)
    simp only [hw, Int.toNat_natCast, e2]
    simpa only [MkSS, tot, List.append_assoc, List.singleton_append, Int.natCast_add, Int.add_assoc] using this
end Go.Proofs.Ytdiadcmkddkjpaa.U
