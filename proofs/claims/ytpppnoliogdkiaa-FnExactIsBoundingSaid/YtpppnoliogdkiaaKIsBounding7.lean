/- What the proof of the law IsBounding stands on, part 7: words, each Go function's Lean function, and that the Go code comes to its answers; no condition. (Packed by wip/myprint/pack.py out of what the kit's printer wrote, its words among it, partly by our patches of it, and out of texts of this session.) -/
import Derived.Test.YtpppnoliogdkiaaRows
import Derived.WalkKit
import Derived.ProofKit
import Derived.KernelRfl
import Derived.Test.YtpppnoliogdkiaaKIsBounding4
import Derived.Test.YtpppnoliogdkiaaKIsBounding5
import Derived.Test.YtpppnoliogdkiaaKIsBounding6
set_option linter.unusedVariables false
set_option linter.unusedSimpArgs false
set_option maxHeartbeats 4000000
set_option maxRecDepth 20000
namespace Go.Proofs.Ytpppnoliogdkiaa.V
open Go.RowKit Go.Proofs.Ytpppnoliogdkiaa.D Go.Proofs.Ytpppnoliogdkiaa.P
def lc (p : List (List Int)) (t : List Int) : Nat → Vc
  | 0 => fun _ => 0
  | k + 1 => fun i => lc p t k i + rd t (k : Int) * rd (row p (k : Int)) (i : Int)
theorem lc_succ (p : List (List Int)) (t : List Int) (k i : Nat) : lc p t (k + 1) i = lc p t k i + rd t (k : Int) * rd (row p (k : Int)) (i : Int) := rfl
structure Least0 (m : Int) (W k : Nat) (p : List (List Int)) (M : Vc → Prop) (x y t : List Int) : Prop where
  len : y.length = W
  ent : AllIn m y
  dif : M fun i => rd x (i : Int) - rd y (i : Int)
  lt : ∀ j : Nat, j < k → rd y (j : Int) < dv m p j
  tlen : t.length = W
  tbd : ∀ j : Nat, j < W → 0 ≤ rd t (j : Int) ∧ rd t (j : Int) ≤ 12
  tnil : ∀ j : Nat, row p (j : Int) = [] → rd t (j : Int) = 0
  tak : ∀ i : Nat, i < W → m ∣ rd x (i : Int) - rd y (i : Int) - lc p t k i
theorem lc_congr {p : List (List Int)} {t t' : List Int} : ∀ k, (∀ j : Nat, j < k → rd t (j : Int) = rd t' (j : Int)) → lc p t k = lc p t' k := by
  intro k
  induction k with
  | zero => intro _; rfl
  | succ k ih =>
    intro h
    funext i
    rw [lc, lc, ih fun j hj => h j (by omega), h k (by omega)]
theorem rd_set_same {t : List Int} {j : Nat} {x : Int} (h : j < t.length) : rd (t.set j x) (j : Int) = x := by
  rw [rd_get (by rw [List.length_set]; exact h)]; simp
theorem rd_set_ne {t : List Int} {i j : Nat} {x : Int} (h : i ≠ j) : rd (t.set j x) (i : Int) = rd t (i : Int) := by
  simp only [rd, Int.toNat_natCast, List.getD_eq_getElem?_getD, List.getElem?_set, if_neg (show ¬ j = i from fun e => h e.symm)]
theorem Least0.begin {m : Int} {W : Nat} {p : List (List Int)} {M : Vc → Prop} (hM : Lead m W p M) {x : List Int} (hx : x.length = W) (ha : AllIn m x) : Least0 m W 0 p M x x (List.replicate W 0) where
  len := hx
  ent := ha
  dif := hM.sub.alike _ _ hM.sub.zero fun i _ => dvd_same (by simp)
  lt := fun j hj => by omega
  tlen := List.length_replicate
  tbd := fun j _ => by rw [rd_zeros]; omega
  tnil := fun j _ => rd_zeros _ _
  tak := fun i _ => dvd_same (by simp [lc])
theorem Least0.skip {m : Int} {W k : Nat} {p : List (List Int)} {M : Vc → Prop} {x y t : List Int} (h : Least0 m W k p M x y t) (hk : k < W) (hr : row p (k : Int) = []) : Least0 m W (k + 1) p M x y t :=
  { h with
    lt := fun j hj => by
      by_cases e : j = k
      · subst e
        rw [show dv m p j = m from if_pos hr]
        exact (h.ent j (by omega) (by rw [h.len]; omega)).2
      · exact h.lt j (by omega)
    tak := fun i hi => by
      rw [lc_succ, h.tnil k hr, Int.zero_mul, Int.add_zero]
      exact h.tak i hi }
theorem Least0.take {m : Int} {W k : Nat} {p : List (List Int)} {M : Vc → Prop} {x y t : List Int} (m2 : 2 ≤ m) (m12 : m ≤ 12) (hM : Lead m W p M) (h : Least0 m W k p M x y t) (hk : k < W) (hr : row p (k : Int) ≠ []) :
    Least0 m W (k + 1) p M x (mix m 1 y (-(rd y (k : Int) / rd (row p (k : Int)) (k : Int))) (row p (k : Int))) (t.set k (rd y (k : Int) / rd (row p (k : Int)) (k : Int))) := by
  have hP := hM.tab.prow hk hr
  have p0 := hP.pos
  have p1 := hP.lt
  have yl := h.len
  have tl := h.tlen
  obtain ⟨y0, y1⟩ := h.ent k (by omega) (by omega)
  obtain ⟨q, hq⟩ : ∃ q, q = rd y (k : Int) / rd (row p (k : Int)) (k : Int) := ⟨_, rfl⟩
  rw [← hq]
  have hmod := Int.mul_ediv_add_emod (rd y (k : Int)) (rd (row p (k : Int)) (k : Int))
  rw [← hq] at hmod
  have r0 := Int.emod_nonneg (rd y (k : Int)) (show rd (row p (k : Int)) (k : Int) ≠ 0 by omega)
  have r1 := Int.emod_lt_of_pos (rd y (k : Int)) p0
  have q0 : 0 ≤ q := by rw [hq]; exact Int.ediv_nonneg y0 (by omega)
  have q1 : q ≤ rd y (k : Int) := by rw [hq]; exact Int.ediv_le_self _ y0
  have hy : ∀ i : Nat, i < W → m ∣ 1 * rd y (i : Int) + (-q) * rd (row p (k : Int)) (i : Int) - rd (mix m 1 y (-q) (row p (k : Int))) (i : Int) := fun i hi => mix_dvd (by omega)
  refine ⟨by rw [mix_length]; exact yl, mix_in (by omega), ?_, fun j hj => ?_, by rw [List.length_set]; exact tl, fun j hj => ?_, fun j hn => ?_, fun i hi => ?_⟩
  · refine hM.sub.alike _ _ (hM.sub.lin _ _ h.dif (hM.own k hk hr) q) fun i hi => ?_
    obtain ⟨z, hz⟩ := hy i hi
    refine ⟨-z, ?_⟩
    rw [Int.mul_neg, ← hz, Int.neg_mul]
    show rd x (i : Int) - rd y (i : Int) + q * rd (row p (k : Int)) (i : Int) - (rd x (i : Int) - rd (mix m 1 y (-q) (row p (k : Int))) (i : Int)) = _
    omega
  · by_cases e : j = k
    · subst e
      rw [mix_rd (by omega), show dv m p j = rd (row p (j : Int)) (j : Int) from if_neg hr, show 1 * rd y (j : Int) + -q * rd (row p (j : Int)) (j : Int) = rd y (j : Int) % rd (row p (j : Int)) (j : Int) by rw [Int.neg_mul, Int.mul_comm q]; omega, Int.emod_eq_of_lt r0 (by omega)]
      exact r1
    · obtain ⟨a0, a1⟩ := h.ent j (by omega) (by omega)
      rw [mix_rd (by omega), hP.zero j (by omega), Int.mul_zero, Int.add_zero, Int.one_mul, Int.emod_eq_of_lt a0 a1]
      exact h.lt j (by omega)
  · by_cases e : j = k
    · subst e; rw [rd_set_same (by omega)]; omega
    · rw [rd_set_ne e]; exact h.tbd j hj
  · have e : j ≠ k := fun e => hr (e ▸ hn)
    rw [rd_set_ne e]; exact h.tnil j hn
  · rw [lc_succ, rd_set_same (by omega), lc_congr k fun j hj => rd_set_ne (show j ≠ k by omega)]
    obtain ⟨z, hz⟩ := hy i hi
    obtain ⟨z', hz'⟩ := h.tak i hi
    refine ⟨z' + z, ?_⟩
    rw [Int.mul_add, ← hz, ← hz', Int.neg_mul]
    omega
theorem Least0.fin {m : Int} {W : Nat} {p : List (List Int)} {M : Vc → Prop} {x y t : List Int} (h : Least0 m W W p M x y t) : Least m W p M x y := ⟨h.len, h.ent, h.dif, h.lt⟩
theorem rest_ {m : Int} (m2 : 2 ≤ m) (m12 : m ≤ 12) {W : Nat} (hW : W ≤ 100000) {p : List (List Int)} {M : Vc → Prop} (hM : Lead m W p M) {x : List Int} (hx : x.length = W) (ha : AllIn m x) :
    ∃ y t, impl_span_rest.f m p x = some (y, t, m, p) ∧ Least0 m W W p M x y t := by
  have hl := hM.tab.len
  rw [impl_span_rest.f_eq, hl, Int.toNat_natCast]
  have key : ∀ k, k ≤ W → ∃ y t, impl_span_rest.l0 (W : Int) 0 m p x (List.replicate W 0) = impl_span_rest.l0 (W : Int) (k : Int) m p y t ∧ Least0 m W k p M x y t := by
    intro k
    induction k with
    | zero => exact fun _ => ⟨_, _, rfl, Least0.begin hM hx ha⟩
    | succ k ih =>
      intro hk
      obtain ⟨y, t, h1, h2⟩ := ih (by omega)
      have yl := h2.len
      have tl := h2.tlen
      by_cases hr : row p (k : Int) = []
      · have e0 : (row p (k : Int)).length = 0 := by rw [hr]; rfl
        refine ⟨y, t, ?_, h2.skip (by omega) hr⟩
        rw [h1, impl_span_rest.l0_eq, wn (j := k) (by omega)]
        ((with_reducible repeat (first | refine go_pos (by first | assumption | omega | rfl | exact B_pos (by omega)) ?_ | refine go_neg (by first | assumption | omega | decide | exact B_not (by omega)) ?_ | refine go_bind (by first | assumption) ?_ | dsimp only)); first | done | (with_reducible rfl) | simp (disch := omega) only [w64] | (show False; done))
      · have hP := hM.tab.prow (show k < W by omega) hr
        have pl := hP.len
        have p0 := hP.pos
        obtain ⟨y0, y1⟩ := h2.ent k (by omega) (by omega)
        refine ⟨_, _, ?_, h2.take m2 m12 hM (by omega) hr⟩
        have hT : T p (k : Int) (k : Int) = rd (row p (k : Int)) (k : Int) := rfl
        have d0 : 0 ≤ rd y (k : Int) / rd (row p (k : Int)) (k : Int) := Int.ediv_nonneg y0 (by omega)
        have d1 : rd y (k : Int) / rd (row p (k : Int)) (k : Int) ≤ rd y (k : Int) := Int.ediv_le_self _ y0
        have e1 : wrapI (Int.tdiv (rd y (k : Int)) (rd (row p (k : Int)) (k : Int))) = rd y (k : Int) / rd (row p (k : Int)) (k : Int) := by rw [tdiv_nn y0]; exact w64 (by omega) (by omega)
        have hne : ¬ rd (row p (k : Int)) (k : Int) = 0 := by omega
        have hsl : (t.set k (rd y (k : Int) / rd (row p (k : Int)) (k : Int))).length = W := by rw [List.length_set]; exact tl
        have hc := combined m2 m12 (p := p) (x := 1) (y := -(rd y (k : Int) / rd (row p (k : Int)) (k : Int))) h2.ent hP.ent (by omega) (by omega) (by omega) (by omega) (by omega) (by omega)
        have e2 : wrapI (0 - rd y (k : Int) / rd (row p (k : Int)) (k : Int)) = -(rd y (k : Int) / rd (row p (k : Int)) (k : Int)) := by rw [w64 (by omega) (by omega)]; omega
        rw [h1, impl_span_rest.l0_eq, wn (j := k) (by omega), hT, e1, Int.toNat_natCast, rd_set_same (by omega), e2]
        ((with_reducible repeat (first | refine go_pos (by first | assumption | omega | rfl | exact B_pos (by omega)) ?_ | refine go_neg (by first | assumption | omega | decide | exact B_not (by omega)) ?_ | refine go_bind (by first | assumption) ?_ | dsimp only)); first | done | (with_reducible rfl) | simp (disch := omega) only [w64] | (show False; done))
  obtain ⟨y, t, h1, h2⟩ := key W (Nat.le_refl _)
  refine ⟨y, t, ?_, h2⟩
  (with_reducible repeat (first | refine go_pos (by first | assumption | omega | rfl | exact B_pos (by omega)) ?_ | refine go_neg (by first | assumption | omega | decide | exact B_not (by omega)) ?_ | refine go_bind (by first | assumption) ?_ | dsimp only))
  rw [h1, impl_span_rest.l0_eq]
  ((with_reducible repeat (first | refine go_pos (by first | assumption | omega | rfl | exact B_pos (by omega)) ?_ | refine go_neg (by first | assumption | omega | decide | exact B_not (by omega)) ?_ | refine go_bind (by first | assumption) ?_ | dsimp only)); first | done | (with_reducible rfl) | simp (disch := omega) only [w64] | (show False; done))
theorem mix_zero {m : Int} {y r : List Int} (ha : AllIn m y) : mix m 1 y (-0) r = y := by
  refine ext_rd (mix_length ..) fun i i0 i1 => ?_
  rw [mix_length] at i1
  obtain ⟨n, rfl⟩ := Int.eq_ofNat_of_zero_le i0
  obtain ⟨a0, a1⟩ := ha n (by omega) i1
  rw [mix_rd (by omega), show (1 : Int) * rd y (n : Int) + -0 * rd r (n : Int) = rd y (n : Int) by simp]
  exact Int.emod_eq_of_lt a0 a1
theorem Less_ {m : Int} (m2 : 2 ≤ m) (m12 : m ≤ 12) {W : Nat} (hW : W ≤ 100000) {p : List (List Int)} {M : Vc → Prop} (hM : Lead m W p M) {x : List Int} (hx : x.length = W) (ha : AllIn m x) :
    ∃ y, spec_l04Less.f x p m = some y ∧ Least m W p M x y := by
  have hl := hM.tab.len
  rw [spec_l04Less.f_eq, Own_ x (by omega), Option.bind_some]
  have key : ∀ k, k ≤ W → ∃ y t, spec_l04Less.l0 p m 0 x = spec_l04Less.l0 p m (k : Int) y ∧ Least0 m W k p M x y t := by
    intro k
    induction k with
    | zero => exact fun _ => ⟨_, _, rfl, Least0.begin hM hx ha⟩
    | succ k ih =>
      intro hk
      obtain ⟨y, t, h1, h2⟩ := ih (by omega)
      have yl := h2.len
      by_cases hr : row p (k : Int) = []
      · have e0 : ¬ ((row p (k : Int)).length : Int) > 0 := by rw [hr]; simp
        refine ⟨y, t, ?_, h2.skip (by omega) hr⟩
        rw [h1, spec_l04Less.l0_eq, wn (j := k) (by omega)]
        ((with_reducible repeat (first | refine go_pos (by first | assumption | omega | rfl | exact B_pos (by omega)) ?_ | refine go_neg (by first | assumption | omega | decide | exact B_not (by omega)) ?_ | refine go_bind (by first | assumption) ?_ | dsimp only)); first | done | (with_reducible rfl) | simp (disch := omega) only [w64] | (show False; done))
      · have e0 : ((row p (k : Int)).length : Int) > 0 := by have := List.length_pos_iff.2 hr; omega
        have hP := hM.tab.prow (show k < W by omega) hr
        have pl := hP.len
        have p0 := hP.pos
        obtain ⟨y0, y1⟩ := h2.ent k (by omega) (by omega)
        have hT : T p (k : Int) (k : Int) = rd (row p (k : Int)) (k : Int) := rfl
        have d0 : 0 ≤ rd y (k : Int) / rd (row p (k : Int)) (k : Int) := Int.ediv_nonneg y0 (by omega)
        have d1 : rd y (k : Int) / rd (row p (k : Int)) (k : Int) ≤ rd y (k : Int) := Int.ediv_le_self _ y0
        have e1 : wrapI (Int.tdiv (rd y (k : Int)) (rd (row p (k : Int)) (k : Int))) = rd y (k : Int) / rd (row p (k : Int)) (k : Int) := by rw [tdiv_nn y0]; exact w64 (by omega) (by omega)
        have hne : ¬ rd (row p (k : Int)) (k : Int) = 0 := by omega
        refine ⟨_, _, ?_, h2.take m2 m12 hM (by omega) hr⟩
        have hc := Mix_ m2 m12 (x := 1) (y := -(rd y (k : Int) / rd (row p (k : Int)) (k : Int))) h2.ent hP.ent (by omega) (by omega) (by omega) (by omega) (by omega) (by omega)
        have e2 : wrapI (0 - rd y (k : Int) / rd (row p (k : Int)) (k : Int)) = -(rd y (k : Int) / rd (row p (k : Int)) (k : Int)) := by rw [w64 (by omega) (by omega)]; omega
        rw [h1, spec_l04Less.l0_eq, wn (j := k) (by omega), hT, e1, e2]
        by_cases hge : rd y (k : Int) ≥ rd (row p (k : Int)) (k : Int)
        · ((with_reducible repeat (first | refine go_pos (by first | assumption | omega | rfl | exact B_pos (by omega)) ?_ | refine go_neg (by first | assumption | omega | decide | exact B_not (by omega)) ?_ | refine go_bind (by first | assumption) ?_ | dsimp only)); first | done | (with_reducible rfl) | simp (disch := omega) only [w64] | (show False; done))
        · have hz : rd y (k : Int) / rd (row p (k : Int)) (k : Int) = 0 := Int.ediv_eq_zero_of_lt y0 (by omega)
          rw [hz, mix_zero h2.ent]
          ((with_reducible repeat (first | refine go_pos (by first | assumption | omega | rfl | exact B_pos (by omega)) ?_ | refine go_neg (by first | assumption | omega | decide | exact B_not (by omega)) ?_ | refine go_bind (by first | assumption) ?_ | dsimp only)); first | done | (with_reducible rfl) | simp (disch := omega) only [w64] | (show False; done))
  obtain ⟨y, t, h1, h2⟩ := key W (Nat.le_refl _)
  refine ⟨y, ?_, h2.fin⟩
  rw [h1, spec_l04Less.l0_eq]
  ((with_reducible repeat (first | refine go_pos (by first | assumption | omega | rfl | exact B_pos (by omega)) ?_ | refine go_neg (by first | assumption | omega | decide | exact B_not (by omega)) ?_ | refine go_bind (by first | assumption) ?_ | dsimp only)); first | done | (with_reducible rfl) | simp (disch := omega) only [w64] | (show False; done))
theorem clone_ (x : List Int) (h : x.length ≤ 1000000) : slices_Clone_int64.f x = some x := by
  rw [slices_Clone_int64.f_eq, List.nil_append, show ([] : List Int).length = 0 from rfl]
  by_cases h0 : x.length = 0
  · have := List.eq_nil_of_length_eq_zero h0
    subst this
    ((with_reducible repeat (first | refine go_pos (by first | assumption | omega | rfl | exact B_pos (by omega)) ?_ | refine go_neg (by first | assumption | omega | decide | exact B_not (by omega)) ?_ | refine go_bind (by first | assumption) ?_ | dsimp only)); first | done | (with_reducible rfl) | simp (disch := omega) only [w64] | (show False; done))
  · ((with_reducible repeat (first | refine go_pos (by first | assumption | omega | rfl | exact B_pos (by omega)) ?_ | refine go_neg (by first | assumption | omega | decide | exact B_not (by omega)) ?_ | refine go_bind (by first | assumption) ?_ | dsimp only)); first | done | (with_reducible rfl) | simp (disch := omega) only [w64] | (show False; done))
theorem least_ {m : Int} (m2 : 2 ≤ m) (m12 : m ≤ 12) {W : Nat} (hW : W ≤ 100000) {p : List (List Int)} {M : Vc → Prop} (hM : Lead m W p M) (d : Int) {x : List Int} (hx : x.length = W) (ha : AllIn m x) :
    ∃ y, impl_span_least.f m p d x = some (d, y, m, p) ∧ Least m W p M x y := by
  obtain ⟨y, t, h1, h2⟩ := rest_ m2 m12 hW hM hx ha
  have hc := clone_ x (by omega)
  refine ⟨y, ?_, h2.fin⟩
  rw [impl_span_least.f_eq]
  ((with_reducible repeat (first | refine go_pos (by first | assumption | omega | rfl | exact B_pos (by omega)) ?_ | refine go_neg (by first | assumption | omega | decide | exact B_not (by omega)) ?_ | refine go_bind (by first | assumption) ?_ | dsimp only)); first | done | (with_reducible rfl) | simp (disch := omega) only [w64] | (show False; done))
def Zr (x : List Int) : Prop := ∀ i : Int, 0 ≤ i → i < x.length → rd x i = 0
theorem Zero_ (x : List Int) (hl : x.length ≤ 1000000) : spec_l04Zero.f x = some (B (Zr x)) := by
  rw [spec_l04Zero.f_eq]
  refine scanT x.length (fun i => spec_l04Zero.l0 x i) (fun i => rd x i = 0) (fun i i0 i1 _ => ?_) (fun _ => by (rw [spec_l04Zero.l0_eq]); ((with_reducible repeat (first | refine go_pos (by first | assumption | omega | rfl | exact B_pos (by omega)) ?_ | refine go_neg (by first | assumption | omega | decide | exact B_not (by omega)) ?_ | refine go_bind (by first | assumption) ?_ | dsimp only)); first | done | (with_reducible rfl) | simp (disch := omega) only [w64] | (show False; done)))
  refine ⟨fun h => ?_, fun h => ?_⟩ <;> (rw [spec_l04Zero.l0_eq]) <;> ((with_reducible repeat (first | refine go_pos (by first | assumption | omega | rfl | exact B_pos (by omega)) ?_ | refine go_neg (by first | assumption | omega | decide | exact B_not (by omega)) ?_ | refine go_bind (by first | assumption) ?_ | dsimp only)); first | done | (with_reducible rfl) | simp (disch := omega) only [w64] | (show False; done))
theorem isZero_ (x : List Int) (hl : x.length ≤ 1000000) : impl_isZero.f x = some (B (Zr x)) := by
  have hf : (fun z0 => (impl_isZero_1.f z0).map fun z => z) = (fun z0 : Int => some (!decide (z0 = 0))) := by
    funext z; rw [impl_isZero_1.f_eq]; rfl
  have hp : (fun z0 => (impl_span_put_1.f z0).map fun z => z) = (fun z0 : Int => some (!decide (z0 = 0))) := by
    funext z; rw [impl_span_put_1.f_eq]; rfl
  have hI := indexFunc x hl
  rw [hp] at hI
  have hC : (fun z0 => ((fun z0 : Int => some (!decide (z0 = 0))) z0).map fun z => z) = (fun z0 : Int => some (!decide (z0 = 0))) := rfl
  rw [impl_isZero.f_eq, hf, slices_ContainsFunc_int64.f_eq, hC]
  rcases hI with ⟨hz, h⟩ | ⟨j, hj, _, hne, h⟩
  · rw [h, B_pos (show Zr x from fun i i0 i1 => by
      obtain ⟨n, rfl⟩ := Int.eq_ofNat_of_zero_le i0
      exact hz n (by omega))]
    rfl
  · rw [h, B_neg (show ¬ Zr x from fun k => hne (k j (by omega) (by omega)))]
    simp
theorem Least.zero_iff {m : Int} (m0 : 0 < m) {W : Nat} {p : List (List Int)} {M : Vc → Prop} (hM : Lead m W p M) {x y : List Int} (h : Least m W p M x y) : Zr y ↔ M (V x) := by
  have yl := h.len
  constructor
  · intro hz
    refine hM.sub.alike _ _ h.dif fun i hi => ?_
    rw [hz i (by omega) (by omega)]
    exact dvd_same (by simp [V])
  · intro hx
    have hz : Least m W p M x (List.replicate W 0) := ⟨List.length_replicate, zeros_in m0 W, hM.sub.alike _ _ hx fun i hi => dvd_same (by rw [rd_zeros]; simp [V]), fun j hj => by rw [rd_zeros]; exact (dv_bd m0 hM.tab hj).1⟩
    rw [h.same m0 hM hM hz]
    exact fun i _ _ => rd_zeros _ _
end Go.Proofs.Ytpppnoliogdkiaa.V
set_option linter.unusedVariables false
set_option linter.unusedSimpArgs false
set_option maxHeartbeats 4000000
set_option maxRecDepth 20000
namespace Go.Proofs.Ytpppnoliogdkiaa.V
open Go.RowKit Go.Proofs.Ytpppnoliogdkiaa.D Go.Proofs.Ytpppnoliogdkiaa.P
theorem isRanked_ {g : List (List Int)} (hg : Grp g) {k : Nat} (hk : k ≤ 4) : impl_isRanked.f g (k : Int) = some (B (nB g k ≤ 49)) := by
  obtain ⟨b1, b2⟩ := nA_bd hg hk
  have hc := cells_ hg (d := (k : Int)) (by omega) (by omega)
  rw [impl_isRanked.f_eq, hc, Option.bind_some, ← b2, B_decide, B_congr (show ((nB g k : Nat) : Int) ≤ 49 ↔ nB g k ≤ 49 by omega)]
theorem Code04 {g : List (List Int)} (hg : Grp g) {m : Int} {u : List Int} (hm : Mdl g m u) (hu : u.length ≤ maxLen) {k : Nat} (hk : k ≤ 3) : spec_l04Code.f g m u (k : Int) = some (ite_ (nB g k ≤ 49) 0 3) := by
  have hS := Is_ g
  have hM := Is02 hg m u hu
  rw [B_pos hg] at hS
  rw [B_pos hm] at hM
  have hI := In_ (k : Int) 0 3
  rw [B_pos (show (0 : Int) ≤ (k : Int) ∧ (k : Int) ≤ 3 by omega)] at hI
  obtain ⟨b1, b2⟩ := nA_bd hg (e := k) (by omega)
  have hC := Cells_ hg (d := (k : Int)) (by omega) (by omega)
  rw [spec_l04Code.f_eq]
  by_cases h3 : nB g k ≤ 49
  · rw [ite_pos h3]; ((with_reducible repeat (first | refine go_pos (by first | assumption | omega | rfl | exact B_pos (by omega)) ?_ | refine go_neg (by first | assumption | omega | decide | exact B_not (by omega)) ?_ | refine go_bind (by first | assumption) ?_ | dsimp only)); first | done | (with_reducible rfl) | simp (disch := omega) only [w64] | (show False; done))
  · rw [ite_neg h3]; ((with_reducible repeat (first | refine go_pos (by first | assumption | omega | rfl | exact B_pos (by omega)) ?_ | refine go_neg (by first | assumption | omega | decide | exact B_not (by omega)) ?_ | refine go_bind (by first | assumption) ?_ | dsimp only)); first | done | (with_reducible rfl) | simp (disch := omega) only [w64] | (show False; done))
theorem bounding1 {g : List (List Int)} (hl : g.length ≤ maxLen) (hr : ∀ r ∈ g, r.length ≤ maxLen) (m : Int) (u : List Int) (hu : u.length ≤ maxLen) (d : Int) (v : List Int) (hv : v.length ≤ maxLen) :
    (∃ k : Nat, d = (k : Int) ∧ k ≤ 3 ∧ Grp g ∧ Mdl g m u ∧ Co g m k v ∧ nB g k ≤ 49 ∧ impl_boundingCode.f g m u d v = some 0 ∧ spec_l04Given.f g m u false [(d, v)] = some 0) ∨
    ∃ c : Int, ¬ c = 0 ∧ impl_boundingCode.f g m u d v = some c ∧ spec_l04Given.f g m u false [(d, v)] = some c := by
  have r0 : (Ty.rd (.pr (.int .i64) (.sl 2 (.int .i64))) [(d, v)] 0) = (d, v) := rfl
  have l1 : ([(d, v)] : List (Int × List Int)).length = 1 := rfl
  rcases co_codes g hl hr m u hu d v hv with ⟨hg, hm, hc, cI, cS⟩ | ⟨_, cI, cS⟩
  rotate_left
  · exact .inr ⟨1, by omega, by rw [impl_boundingCode.f_eq]; ((with_reducible repeat (first | refine go_pos (by first | assumption | omega | rfl | exact B_pos (by omega)) ?_ | refine go_neg (by first | assumption | omega | decide | exact B_not (by omega)) ?_ | refine go_bind (by first | assumption) ?_ | dsimp only)); first | done | (with_reducible rfl) | simp (disch := omega) only [w64] | (show False; done)), by rw [spec_l04Given.f_eq]; ((with_reducible repeat (first | refine go_pos (by first | assumption | omega | rfl | exact B_pos (by omega)) ?_ | refine go_neg (by first | assumption | omega | decide | exact B_not (by omega)) ?_ | refine go_bind (by first | assumption) ?_ | dsimp only)); first | done | (with_reducible rfl) | simp (disch := omega) only [w64] | (show False; done))⟩
  obtain ⟨k, rfl⟩ := Int.eq_ofNat_of_zero_le hc.1.1
  have hk : k ≤ 3 := by have := hc.1.2; omega
  have h1 := isRanked_ hg (k := k) (by omega)
  have h2 := Code04 hg hm hu hk
  by_cases h3 : nB g k ≤ 49
  · rw [B_pos h3] at h1
    rw [ite_pos h3] at h2
    refine .inl ⟨k, rfl, hk, hg, hm, hc, h3, by rw [impl_boundingCode.f_eq]; ((with_reducible repeat (first | refine go_pos (by first | assumption | omega | rfl | exact B_pos (by omega)) ?_ | refine go_neg (by first | assumption | omega | decide | exact B_not (by omega)) ?_ | refine go_bind (by first | assumption) ?_ | dsimp only)); first | done | (with_reducible rfl) | simp (disch := omega) only [w64] | (show False; done)), ?_⟩
    rw [spec_l04Given.f_eq]
    (with_reducible repeat (first | refine go_pos (by first | assumption | omega | rfl | exact B_pos (by omega)) ?_ | refine go_neg (by first | assumption | omega | decide | exact B_not (by omega)) ?_ | refine go_bind (by first | assumption) ?_ | dsimp only))
    rw [spec_l04Given.l0_eq, l1, r0]
    (with_reducible repeat (first | refine go_pos (by first | assumption | omega | rfl | exact B_pos (by omega)) ?_ | refine go_neg (by first | assumption | omega | decide | exact B_not (by omega)) ?_ | refine go_bind (by first | assumption) ?_ | dsimp only))
    rw [spec_l04Given.l1_eq, l1]
    ((with_reducible repeat (first | refine go_pos (by first | assumption | omega | rfl | exact B_pos (by omega)) ?_ | refine go_neg (by first | assumption | omega | decide | exact B_not (by omega)) ?_ | refine go_bind (by first | assumption) ?_ | dsimp only)); first | done | (with_reducible rfl) | simp (disch := omega) only [w64] | (show False; done))
  · rw [B_neg h3] at h1
    rw [ite_neg h3] at h2
    refine .inr ⟨3, by omega, by rw [impl_boundingCode.f_eq]; ((with_reducible repeat (first | refine go_pos (by first | assumption | omega | rfl | exact B_pos (by omega)) ?_ | refine go_neg (by first | assumption | omega | decide | exact B_not (by omega)) ?_ | refine go_bind (by first | assumption) ?_ | dsimp only)); first | done | (with_reducible rfl) | simp (disch := omega) only [w64] | (show False; done)), ?_⟩
    rw [spec_l04Given.f_eq]
    (with_reducible repeat (first | refine go_pos (by first | assumption | omega | rfl | exact B_pos (by omega)) ?_ | refine go_neg (by first | assumption | omega | decide | exact B_not (by omega)) ?_ | refine go_bind (by first | assumption) ?_ | dsimp only))
    rw [spec_l04Given.l0_eq, l1, r0]
    ((with_reducible repeat (first | refine go_pos (by first | assumption | omega | rfl | exact B_pos (by omega)) ?_ | refine go_neg (by first | assumption | omega | decide | exact B_not (by omega)) ?_ | refine go_bind (by first | assumption) ?_ | dsimp only)); first | done | (with_reducible rfl) | simp (disch := omega) only [w64] | (show False; done))
theorem Co.nB {g : List (List Int)} (hg : Grp g) {m : Int} {k : Nat} {v : List Int} (h : Co g m k v) : v.length = nB g k := by
  have := h.2.1
  have hk := h.1.2
  obtain ⟨b1, b2⟩ := nA_bd hg (e := k) (by omega)
  omega
theorem isBounding_ {g : List (List Int)} (hg : Grp g) {m : Int} {u : List Int} (hm : Mdl g m u) {k : Nat} {v : List Int} (hc : Co g m k v) : impl_isBounding.f g m u (k : Int) v = some (B (Sp m (nB g k) (bdG g m u k) (V v))) := by
  have m2 := hm.m2; have m12 := hm.m12
  have hk := hc.1.2
  obtain ⟨b1, b2⟩ := nA_bd hg (e := k) (by omega)
  obtain ⟨p, h1, h2⟩ := boundings_ hg hm (n := k) (by omega)
  have h3 := h2.lead (by omega)
  obtain ⟨y, h4, h5⟩ := least_ m2 m12 (by omega) h3 (k : Int) (hc.nB hg) hc.2.2
  have yl := h5.len
  have h6 := isZero_ y (by omega)
  rw [B_congr (h5.zero_iff (by omega) h3)] at h6
  rw [impl_isBounding.f_eq]
  (with_reducible repeat (first | refine go_pos (by first | assumption | omega | rfl | exact B_pos (by omega)) ?_ | refine go_neg (by first | assumption | omega | decide | exact B_not (by omega)) ?_ | refine go_bind (by first | assumption) ?_ | dsimp only))
  simp
end Go.Proofs.Ytpppnoliogdkiaa.V
set_option linter.unusedVariables false
set_option linter.unusedSimpArgs false
set_option maxHeartbeats 2000000
set_option maxRecDepth 20000
namespace Go.Proofs.Ytpppnoliogdkiaa.V
open Go.RowKit Go.Proofs.Ytpppnoliogdkiaa.D Go.Proofs.Ytpppnoliogdkiaa.P
theorem same_IsBounding (g : List (List Int)) (m : Int) (u : List Int) (d : Int) (v : List Int) (hl : g.length ≤ maxLen) (hr : ∀ r ∈ g, r.length ≤ maxLen) (hu : u.length ≤ maxLen) (hv : v.length ≤ maxLen) :
    ∃ (b : Bool) (c : Int), spec_IsBounding.f g m u d v = some (b, c) ∧ impl_IsBounding.f g m u d v = some (b, c) := by
  rw [spec_IsBounding.f_eq, impl_IsBounding.f_eq]
  rcases bounding1 hl hr m u hu d v hv with ⟨k, rfl, k3, hg, hm, hc, hb, cI, cS⟩ | ⟨c, c0, cI, cS⟩
  rotate_left
  · exact ⟨false, c, by ((with_reducible repeat (first | refine go_pos (by first | assumption | omega | rfl | exact B_pos (by omega)) ?_ | refine go_neg (by first | assumption | omega | decide | exact B_not (by omega)) ?_ | refine go_bind (by first | assumption) ?_ | dsimp only)); first | done | (with_reducible rfl) | simp (disch := omega) only [w64] | (show False; done)), by ((with_reducible repeat (first | refine go_pos (by first | assumption | omega | rfl | exact B_pos (by omega)) ?_ | refine go_neg (by first | assumption | omega | decide | exact B_not (by omega)) ?_ | refine go_bind (by first | assumption) ?_ | dsimp only)); first | done | (with_reducible rfl) | simp (disch := omega) only [w64] | (show False; done))⟩
  have m2 := hm.m2; have m12 := hm.m12
  obtain ⟨p', q, h3, h4, _⟩ := Both_ hg hm k3
  obtain ⟨y', h8, h9⟩ := Less_ m2 m12 (by omega) h4 (hc.nB hg) hc.2.2
  have yl := h9.len
  have h10 := Zero_ y' (by omega)
  rw [B_congr (h9.zero_iff (by omega) h4)] at h10
  have h11 := isBounding_ hg hm hc
  exact ⟨decide (B (Sp m (nB g k) (bdG g m u k) (V v)) = true), 0, by ((with_reducible repeat (first | refine go_pos (by first | assumption | omega | rfl | exact B_pos (by omega)) ?_ | refine go_neg (by first | assumption | omega | decide | exact B_not (by omega)) ?_ | refine go_bind (by first | assumption) ?_ | dsimp only)); first | done | (with_reducible rfl) | simp (disch := omega) only [w64] | (show False; done)), by ((with_reducible repeat (first | refine go_pos (by first | assumption | omega | rfl | exact B_pos (by omega)) ?_ | refine go_neg (by first | assumption | omega | decide | exact B_not (by omega)) ?_ | refine go_bind (by first | assumption) ?_ | dsimp only)); first | done | (with_reducible rfl) | simp (disch := omega) only [w64] | (show False; done))⟩
end Go.Proofs.Ytpppnoliogdkiaa.V
set_option linter.unusedVariables false
set_option linter.unusedSimpArgs false
set_option maxHeartbeats 4000000
set_option maxRecDepth 20000
namespace Go.Proofs.Ytpppnoliogdkiaa.Pure
open Go.RowKit Go.Proofs.Ytpppnoliogdkiaa.D Go.Proofs.Ytpppnoliogdkiaa.P Go.Proofs.Ytpppnoliogdkiaa.V
theorem FnExactIsBounding_pure : ∀ (g0 : List (List Int)) (m1 : Int) (u1 : List Int) (m2 : Int) (u2 : List Int), g0.length ≤ maxLen → (∀ r ∈ g0, r.length ≤ maxLen ∧ ∀ x ∈ r, (Lit.int .i64 x).wf = true) → (Lit.int .i64 m1).wf = true → u1.length ≤ maxLen → (∀ x ∈ u1, (Lit.int .i64 x).wf = true) → (Lit.int .i64 m2).wf = true → u2.length ≤ maxLen → (∀ x ∈ u2, (Lit.int .i64 x).wf = true) → laws_FnExactIsBounding.f g0 m1 u1 m2 u2 = some true := by
  intro g0 m1 u1 m2 u2 hl0 hq0 hw1 hu1 hx1 hw2 hu2 hx2
  have hr0 : ∀ r ∈ g0, r.length ≤ maxLen := fun r h => (hq0 r h).1
  rw [laws_FnExactIsBounding.f_eq]
  obtain ⟨t0, e0, z0⟩ := szGroup g0 1048576 hl0 hr0 (by omega) (by omega)
  rcases z0 with z0 | ⟨ta0, tb0, kl0, kr0⟩
  · ((with_reducible repeat (first | refine go_pos (by first | assumption | omega | rfl | exact B_pos (by omega)) ?_ | refine go_neg (by first | assumption | omega | decide | exact B_not (by omega)) ?_ | refine go_bind (by first | assumption) ?_ | dsimp only)); first | done | (with_reducible rfl) | simp (disch := omega) only [w64] | (show False; done))
  obtain ⟨t1, e1, z1⟩ := szModule m1 u1 t0 hu1 (by omega) (by omega)
  rcases z1 with z1 | ⟨ta1, tb1, ku1⟩
  · ((with_reducible repeat (first | refine go_pos (by first | assumption | omega | rfl | exact B_pos (by omega)) ?_ | refine go_neg (by first | assumption | omega | decide | exact B_not (by omega)) ?_ | refine go_bind (by first | assumption) ?_ | dsimp only)); first | done | (with_reducible rfl) | simp (disch := omega) only [w64] | (show False; done))
  obtain ⟨t2, e2, z2⟩ := szCochain m2 u2 t1 hu2 (by omega) (by omega)
  rcases z2 with z2 | ⟨ta2, tb2, ku2⟩
  · ((with_reducible repeat (first | refine go_pos (by first | assumption | omega | rfl | exact B_pos (by omega)) ?_ | refine go_neg (by first | assumption | omega | decide | exact B_not (by omega)) ?_ | refine go_bind (by first | assumption) ?_ | dsimp only)); first | done | (with_reducible rfl) | simp (disch := omega) only [w64] | (show False; done))
  obtain ⟨c0, c1, hS, hI⟩ := same_IsBounding g0 m1 u1 m2 u2 hl0 hr0 hu1 hu2
  have eT0 := toGroup g0 kl0 kr0
  have eS0 := same_Group g0 hl0 hr0
  have eN0 := tot_small kl0 kr0
  have eK0 := markGroup g0 (1) (by omega) (by omega) (by omega)
  have eT1 := toModule m1 u1 ku1
  have eS1 := same_Module m1 u1 hu1
  have eK1 := markModule m1 u1 (1 + tot g0) (by omega) (by omega)
  have eT2 := toCochain m2 u2 ku2
  have eS2 := same_Cochain m2 u2 hu2
  have eK2 := markCochain m2 u2 (1 + tot g0 + u1.length) (by omega) (by omega)
  ((with_reducible repeat (first | refine go_pos (by first | assumption | omega | rfl | exact B_pos (by omega)) ?_ | refine go_neg (by first | assumption | omega | decide | exact B_not (by omega)) ?_ | refine go_bind (by first | assumption) ?_ | dsimp only)); first | done | (with_reducible rfl) | simp (disch := omega) only [w64] | (show False; done))
end Go.Proofs.Ytpppnoliogdkiaa.Pure
namespace Go.Proofs.Ytpppnoliogdkiaa.shut
theorem mayEnter : Try.pinned.checked.prog.mayEnter = true := by kernel_rfl
theorem lifted : (Rows.fnExactBoundingStepsRow.lifted == Try.pinned.checked.prog.liftsFinal) = true := by kernel_rfl
theorem make : (Try.pinned.checked.prog.make == some Rows.fnExactBoundingStepsRow.make) = true := by kernel_rfl
end Go.Proofs.Ytpppnoliogdkiaa.shut
