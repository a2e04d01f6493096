/- What the proof of the law LeastBounded stands on, part 6: words, each Go function's Lean function, and that the Go code comes to its answers; no condition. (Packed by wip/myprint/pack.py out of what the kit's printer wrote, its words among it, partly by our patches of it, and out of texts of this session.) -/
import Derived.Test.YtpppnoliogdkiaaKLeastBounded3
import Derived.Test.YtpppnoliogdkiaaKLeastBounded4
import Derived.Test.YtpppnoliogdkiaaKLeastBounded5
set_option linter.unusedVariables false
set_option linter.unusedSimpArgs false
set_option maxHeartbeats 2000000
set_option maxRecDepth 20000
namespace Go.Proofs.Ytpppnoliogdkiaa.V
open Go.RowKit Go.Proofs.Ytpppnoliogdkiaa.D Go.Proofs.Ytpppnoliogdkiaa.P
structure Mdl (g : List (List Int)) (m : Int) (u : List Int) : Prop where
  m2 : 2 ≤ m
  m12 : m ≤ 12
  len : u.length = g.length
  unit : ∀ i : Int, 0 ≤ i → i < u.length → 1 ≤ rd u i ∧ rd u i < m ∧ Int.gcd (rd u i) m = 1
  hom : ∀ i : Int, 0 ≤ i → i < u.length → ∀ j : Int, 0 ≤ j → j < u.length → rd u (T g i j) = rd u i * rd u j % m
theorem unit_one : ∀ m : Nat, m ≤ 12 → ∀ u : Nat, u < m → Nat.gcd u m = 1 → u = u * u % m → 1 ≤ u → u = 1 := by decide
theorem Mdl.one {g : List (List Int)} {m : Int} {u : List Int} (hg : Grp g) (h : Mdl g m u) : rd u 0 = 1 := by
  have n1 := hg.n1
  have hl := h.len
  obtain ⟨a1, a2, a3⟩ := h.unit 0 (by omega) (by omega)
  have e := h.hom 0 (by omega) (by omega) 0 (by omega) (by omega)
  rw [hg.one 0 (by omega) (by omega)] at e
  have m2 := h.m2; have m12 := h.m12
  obtain ⟨M, rfl⟩ := Int.eq_ofNat_of_zero_le (show 0 ≤ m by omega)
  obtain ⟨U, hU⟩ := Int.eq_ofNat_of_zero_le (show 0 ≤ rd u 0 by omega)
  rw [hU] at a1 a2 a3 e ⊢
  have := unit_one M (by omega) U (by omega) (by simpa [Int.gcd] using a3) (by exact_mod_cast e) (by omega)
  omega
theorem mul_lt_small {a b m : Int} (a0 : 0 ≤ a) (a1 : a < m) (b0 : 0 ≤ b) (b1 : b < m) (hm : m ≤ 1000) : 0 ≤ a * b ∧ a * b ≤ 1000000 := by
  refine ⟨Int.mul_nonneg a0 b0, ?_⟩
  have h1 : a * b ≤ 1000 * b := Int.mul_le_mul_of_nonneg_right (by omega) b0
  omega
theorem Mdl.at {g : List (List Int)} {m : Int} {u : List Int} (h : Mdl g m u) {x : Int} (x0 : 0 ≤ x) (x1 : x < g.length) : 1 ≤ rd u x ∧ rd u x < m := by
  have hl := h.len
  obtain ⟨a, b, _⟩ := h.unit x x0 (by omega)
  exact ⟨a, b⟩
theorem small_prod {m x : Int} {u : List Int} {g : List (List Int)} (hm : Mdl g m u) (x0 : 0 ≤ x) (x1 : x < g.length) {b : Int} (b0 : 0 ≤ b) (b1 : b < m) : 0 ≤ rd u x * b ∧ rd u x * b ≤ 1000000 := by
  have m12 := hm.m12
  have := hm.at x0 x1
  exact mul_lt_small (by omega) this.2 b0 b1 (by omega)
theorem isUnit {m x : Int} (m0 : 0 ≤ m) : impl_isUnit.f m x = some (B (1 ≤ x ∧ x < m ∧ Int.gcd x m = 1)) := by
  rw [impl_isUnit.f_eq]
  by_cases h1 : 1 ≤ x ∧ x < m
  · have h := gcd_ m0 (show 0 ≤ x by omega)
    (with_reducible repeat (first | refine go_pos (by first | assumption | omega | rfl | exact B_pos (by omega)) ?_ | refine go_neg (by first | assumption | omega | decide | exact B_not (by omega)) ?_ | refine go_bind (by first | assumption) ?_ | dsimp only))
    rw [Int.gcd_comm]
    by_cases h3 : Int.gcd x m = 1
    · rw [B_pos ⟨h1.1, h1.2, h3⟩]; simp [h3]
    · rw [B_neg fun h => h3 h.2.2]
      simp; omega
  · rw [B_neg fun h => h1 ⟨h.1, h.2.1⟩]
    by_cases h2 : 1 ≤ x <;> ((with_reducible repeat (first | refine go_pos (by first | assumption | omega | rfl | exact B_pos (by omega)) ?_ | refine go_neg (by first | assumption | omega | decide | exact B_not (by omega)) ?_ | refine go_bind (by first | assumption) ?_ | dsimp only)); first | done | (with_reducible rfl) | simp (disch := omega) only [w64] | (show False; done))
theorem isModulus (m : Int) : impl_isModulus.f m = some (B (2 ≤ m ∧ m ≤ 12)) := by
  rw [impl_isModulus.f_eq]
  by_cases h : m ≥ 2
  · rw [if_pos h, B_decide, B_congr (show m ≤ 12 ↔ (2 ≤ m ∧ m ≤ 12) from ⟨fun h' => ⟨h, h'⟩, fun h' => h'.2⟩)]
  · rw [if_neg h, B_neg (fun h' => h h'.1)]
theorem mdl_iff (g : List (List Int)) (m : Int) (u : List Int) : Mdl g m u ↔ (2 ≤ m ∧ m ≤ 12) ∧ u.length = g.length ∧ (∀ i : Int, 0 ≤ i → i < u.length → 1 ≤ rd u i ∧ rd u i < m ∧ Int.gcd (rd u i) m = 1) ∧ ∀ i : Int, 0 ≤ i → i < u.length → ∀ j : Int, 0 ≤ j → j < u.length → rd u (T g i j) = rd u i * rd u j % m :=
  ⟨fun h => ⟨⟨h.m2, h.m12⟩, h.len, h.unit, h.hom⟩, fun ⟨⟨a, b⟩, c, d, e⟩ => ⟨a, b, c, d, e⟩⟩
theorem isModule {g : List (List Int)} (hg : Grp g) (m : Int) (u : List Int) (hl : u.length ≤ maxLen) : impl_isModule.f g m u = some (B (Mdl g m u)) := by
  have hm := maxLen_le
  have n1 := hg.n1
  (rw [impl_isModule.f_eq])
  by_cases h1 : 2 ≤ m ∧ m ≤ 12
  rotate_left
  · rw [B_neg fun h => h1 ⟨h.m2, h.m12⟩]
    ((with_reducible repeat (first | refine go_pos (by first | assumption | omega | rfl | exact B_pos (by omega)) ?_ | refine go_neg (by first | assumption | omega | decide | exact B_not (by omega)) ?_ | refine go_bind (by first | assumption | exact isModulus _ | exact impl_order.f_eq _) ?_ | dsimp only)); first | done | (with_reducible rfl) | simp (disch := omega) only [w64] | (show False; done))
  by_cases h3 : (u.length : Int) = g.length
  rotate_left
  · rw [B_neg fun h => h3 (by rw [h.len])]
    ((with_reducible repeat (first | refine go_pos (by first | assumption | omega | rfl | exact B_pos (by omega)) ?_ | refine go_neg (by first | assumption | omega | decide | exact B_not (by omega)) ?_ | refine go_bind (by first | assumption | exact isModulus _ | exact impl_order.f_eq _) ?_ | dsimp only)); first | done | (with_reducible rfl) | simp (disch := omega) only [w64] | (show False; done))
  by_cases h5 : rd u 0 = 1
  rotate_left
  · rw [B_neg fun h => h5 (h.one hg)]
    ((with_reducible repeat (first | refine go_pos (by first | assumption | omega | rfl | exact B_pos (by omega)) ?_ | refine go_neg (by first | assumption | omega | decide | exact B_not (by omega)) ?_ | refine go_bind (by first | assumption | exact isModulus _ | exact impl_order.f_eq _) ?_ | dsimp only)); first | done | (with_reducible rfl) | simp (disch := omega) only [w64] | (show False; done))
  (with_reducible repeat (first | refine go_pos (by first | assumption | omega | rfl | exact B_pos (by omega)) ?_ | refine go_neg (by first | assumption | omega | decide | exact B_not (by omega)) ?_ | refine go_bind (by first | assumption | exact isModulus _ | exact impl_order.f_eq _) ?_ | dsimp only))
  rw [B_congr (mdl_iff g m u), B_congr (show ((2 ≤ m ∧ m ≤ 12) ∧ u.length = g.length ∧ (∀ i : Int, 0 ≤ i → i < u.length → 1 ≤ rd u i ∧ rd u i < m ∧ Int.gcd (rd u i) m = 1) ∧ ∀ i : Int, 0 ≤ i → i < u.length → ∀ j : Int, 0 ≤ j → j < u.length → rd u (T g i j) = rd u i * rd u j % m) ↔ _ from ⟨fun h => h.2.2, fun h => ⟨h1, by omega, h⟩⟩)]
  refine scanB u.length (fun i => impl_isModule.l0 u (u.length : Int) i g m u) (fun i => 1 ≤ rd u i ∧ rd u i < m ∧ Int.gcd (rd u i) m = 1) _ (fun i i0 i1 _ => ?_) (fun hu => ?_)
  · have hu := isUnit (m := m) (x := rd u i) (by omega)
    refine ⟨fun h => ?_, fun h => ?_⟩ <;> (rw [impl_isModule.l0_eq]) <;> ((with_reducible repeat (first | refine go_pos (by first | assumption | omega | rfl | exact B_pos (by omega)) ?_ | refine go_neg (by first | assumption | omega | decide | exact B_not (by omega)) ?_ | refine go_bind (by first | assumption) ?_ | dsimp only)); first | done | (with_reducible rfl) | simp (disch := omega) only [w64] | (show False; done))
  (rw [impl_isModule.l0_eq])
  (with_reducible repeat (first | refine go_pos (by first | assumption | omega | rfl | exact B_pos (by omega)) ?_ | refine go_neg (by first | assumption | omega | decide | exact B_not (by omega)) ?_ | refine go_bind (by first | assumption | exact impl_order.f_eq _) ?_ | dsimp only))
  rw [← h3]
  refine scanT u.length (fun i => impl_isModule.l1 (u.length : Int) i g m u) (fun i => ∀ j : Int, 0 ≤ j → j < u.length → rd u (T g i j) = rd u i * rd u j % m) (fun i i0 i1 _ => ?_) (fun _ => by (rw [impl_isModule.l1_eq]); ((with_reducible repeat (first | refine go_pos (by first | assumption | omega | rfl | exact B_pos (by omega)) ?_ | refine go_neg (by first | assumption | omega | decide | exact B_not (by omega)) ?_ | refine go_bind (by first | assumption) ?_ | dsimp only)); first | done | (with_reducible rfl) | simp (disch := omega) only [w64] | (show False; done)))
  have inner := scanI u.length (fun j => impl_isModule.l2 i (u.length : Int) i (u.length : Int) j g m u) (fun j => rd u (T g i j) = rd u i * rd u j % m) (some false) (impl_isModule.l1 (u.length : Int) (i + 1) g m u) (fun j j0 j1 _ => by
    have ht := times2 hg i0 (by omega) j0 (by omega)
    obtain ⟨e0, e1⟩ := hg.ent i j i0 (by omega) j0 (by omega)
    obtain ⟨p0, p1⟩ := mul_lt_small (show 0 ≤ rd u i by have := (hu i i0 i1).1; omega) (hu i i0 i1).2.1 (show 0 ≤ rd u j by have := (hu j j0 j1).1; omega) (hu j j0 j1).2.1 (by omega)
    have hwp : wrapI (rd u i * rd u j) = rd u i * rd u j := w64 (by omega) (by omega)
    have e := tmod_nn (m := m) p0
    refine ⟨fun h => ?_, fun h => ?_⟩ <;> (rw [impl_isModule.l2_eq, hwp, e]) <;> ((with_reducible repeat (first | refine go_pos (by first | assumption | omega | rfl | exact B_pos (by omega)) ?_ | refine go_neg (by first | assumption | omega | decide | exact B_not (by omega)) ?_ | refine go_bind (by first | assumption) ?_ | dsimp only)); first | done | (with_reducible rfl) | simp (disch := omega) only [w64] | (show False; done))) (fun _ => by (rw [impl_isModule.l2_eq]); ((with_reducible repeat (first | refine go_pos (by first | assumption | omega | rfl | exact B_pos (by omega)) ?_ | refine go_neg (by first | assumption | omega | decide | exact B_not (by omega)) ?_ | refine go_bind (by first | assumption) ?_ | dsimp only)); first | done | (with_reducible rfl) | simp (disch := omega) only [w64] | (show False; done)))
  refine ⟨fun h => ?_, fun h => ?_⟩ <;> (rw [impl_isModule.l1_eq]) <;> (with_reducible repeat (first | refine go_pos (by first | assumption | omega | rfl | exact B_pos (by omega)) ?_ | refine go_neg (by first | assumption | omega | decide | exact B_not (by omega)) ?_ | refine go_bind (by first | assumption | exact impl_order.f_eq _) ?_ | dsimp only)) <;> rw [← h3]
  · exact inner.1 h
  · exact inner.2 h
theorem Is02 {g : List (List Int)} (hg : Grp g) (m : Int) (u : List Int) (hl : u.length ≤ maxLen) : spec_l02Is.f g m u = some (B (Mdl g m u)) := by
  have hm := maxLen_le
  have n1 := hg.n1
  (rw [spec_l02Is.f_eq])
  by_cases h1 : 2 ≤ m ∧ m ≤ 12
  rotate_left
  · rw [B_neg fun h => h1 ⟨h.m2, h.m12⟩]
    ((with_reducible repeat (first | refine go_pos (by first | assumption | omega | rfl | exact B_pos (by omega)) ?_ | refine go_neg (by first | assumption | omega | decide | exact B_not (by omega)) ?_ | refine go_bind (by first | assumption | exact In_ _ _ _) ?_ | dsimp only)); first | done | (with_reducible rfl) | simp (disch := omega) only [w64] | (show False; done))
  by_cases h3 : (u.length : Int) = g.length
  rotate_left
  · rw [B_neg fun h => h3 (by rw [h.len])]
    ((with_reducible repeat (first | refine go_pos (by first | assumption | omega | rfl | exact B_pos (by omega)) ?_ | refine go_neg (by first | assumption | omega | decide | exact B_not (by omega)) ?_ | refine go_bind (by first | assumption | exact In_ _ _ _) ?_ | dsimp only)); first | done | (with_reducible rfl) | simp (disch := omega) only [w64] | (show False; done))
  (with_reducible repeat (first | refine go_pos (by first | assumption | omega | rfl | exact B_pos (by omega)) ?_ | refine go_neg (by first | assumption | omega | decide | exact B_not (by omega)) ?_ | refine go_bind (by first | assumption | exact In_ _ _ _) ?_ | dsimp only))
  rw [B_congr (mdl_iff g m u), B_congr (show ((2 ≤ m ∧ m ≤ 12) ∧ u.length = g.length ∧ (∀ i : Int, 0 ≤ i → i < u.length → 1 ≤ rd u i ∧ rd u i < m ∧ Int.gcd (rd u i) m = 1) ∧ ∀ i : Int, 0 ≤ i → i < u.length → ∀ j : Int, 0 ≤ j → j < u.length → rd u (T g i j) = rd u i * rd u j % m) ↔ _ from ⟨fun h => h.2.2, fun h => ⟨h1, by omega, h⟩⟩)]
  have hw1 : wrapI (m - 1) = m - 1 := w64 (by omega) (by omega)
  refine scanB u.length (fun i => spec_l02Is.l0 i g m u) (fun i => 1 ≤ rd u i ∧ rd u i < m ∧ Int.gcd (rd u i) m = 1) _ (fun i i0 i1 _ => ?_) (fun hu => ?_)
  · refine ⟨fun h => ?_, fun h => ?_⟩ <;> (rw [spec_l02Is.l0_eq, hw1])
    · have hgc := Gcd_ (a := rd u i) (b := m) (by omega) (by omega) (by omega) (by omega)
      ((with_reducible repeat (first | refine go_pos (by first | assumption | omega | rfl | exact B_pos (by omega)) ?_ | refine go_neg (by first | assumption | omega | decide | exact B_not (by omega)) ?_ | refine go_bind (by first | assumption | exact In_ _ _ _) ?_ | dsimp only)); first | done | (with_reducible rfl) | simp (disch := omega) only [w64] | (show False; done))
    · by_cases h6 : 1 ≤ rd u i ∧ rd u i < m
      · have hgc := Gcd_ (a := rd u i) (b := m) (by omega) (by omega) (by omega) (by omega)
        ((with_reducible repeat (first | refine go_pos (by first | assumption | omega | rfl | exact B_pos (by omega)) ?_ | refine go_neg (by first | assumption | omega | decide | exact B_not (by omega)) ?_ | refine go_bind (by first | assumption | exact In_ _ _ _) ?_ | dsimp only)); first | done | (with_reducible rfl) | simp (disch := omega) only [w64] | (show False; done))
      · ((with_reducible repeat (first | refine go_pos (by first | assumption | omega | rfl | exact B_pos (by omega)) ?_ | refine go_neg (by first | assumption | omega | decide | exact B_not (by omega)) ?_ | refine go_bind (by first | assumption | exact In_ _ _ _) ?_ | dsimp only)); first | done | (with_reducible rfl) | simp (disch := omega) only [w64] | (show False; done))
  (rw [spec_l02Is.l0_eq])
  (with_reducible repeat (first | refine go_pos (by first | assumption | omega | rfl | exact B_pos (by omega)) ?_ | refine go_neg (by first | assumption | omega | decide | exact B_not (by omega)) ?_ | refine go_bind (by first | assumption) ?_ | dsimp only))
  refine scanT u.length (fun i => spec_l02Is.l1 i g m u) (fun i => ∀ j : Int, 0 ≤ j → j < u.length → rd u (T g i j) = rd u i * rd u j % m) (fun i i0 i1 _ => ?_) (fun _ => by (rw [spec_l02Is.l1_eq]); ((with_reducible repeat (first | refine go_pos (by first | assumption | omega | rfl | exact B_pos (by omega)) ?_ | refine go_neg (by first | assumption | omega | decide | exact B_not (by omega)) ?_ | refine go_bind (by first | assumption) ?_ | dsimp only)); first | done | (with_reducible rfl) | simp (disch := omega) only [w64] | (show False; done)))
  have ri := hg.row i i0 (by omega)
  have inner := scanI u.length (fun j => spec_l02Is.l2 i j g m u) (fun j => rd u (T g i j) = rd u i * rd u j % m) (some false) (spec_l02Is.l1 (i + 1) g m u) (fun j j0 j1 _ => by
    obtain ⟨e0, e1⟩ := hg.ent i j i0 (by omega) j0 (by omega)
    obtain ⟨p0, p1⟩ := mul_lt_small (show 0 ≤ rd u i by have := (hu i i0 i1).1; omega) (hu i i0 i1).2.1 (show 0 ≤ rd u j by have := (hu j j0 j1).1; omega) (hu j j0 j1).2.1 (by omega)
    have hwp : wrapI (rd u i * rd u j) = rd u i * rd u j := w64 (by omega) (by omega)
    have e := tmod_nn (m := m) p0
    refine ⟨fun h => ?_, fun h => ?_⟩ <;> (rw [spec_l02Is.l2_eq, hwp, e]) <;> ((with_reducible repeat (first | refine go_pos (by first | assumption | omega | rfl | exact B_pos (by omega)) ?_ | refine go_neg (by first | assumption | omega | decide | exact B_not (by omega)) ?_ | refine go_bind (by first | assumption) ?_ | dsimp only)); first | done | (with_reducible rfl) | simp (disch := omega) only [w64] | (show False; done))) (fun _ => by (rw [spec_l02Is.l2_eq]); ((with_reducible repeat (first | refine go_pos (by first | assumption | omega | rfl | exact B_pos (by omega)) ?_ | refine go_neg (by first | assumption | omega | decide | exact B_not (by omega)) ?_ | refine go_bind (by first | assumption) ?_ | dsimp only)); first | done | (with_reducible rfl) | simp (disch := omega) only [w64] | (show False; done)))
  refine ⟨fun h => ?_, fun h => ?_⟩ <;> (rw [spec_l02Is.l1_eq]) <;> (with_reducible repeat (first | refine go_pos (by first | assumption | omega | rfl | exact B_pos (by omega)) ?_ | refine go_neg (by first | assumption | omega | decide | exact B_not (by omega)) ?_ | refine go_bind (by first | assumption) ?_ | dsimp only))
  · exact inner.1 h
  · exact inner.2 h
def GM (g : List (List Int)) (m : Int) (u : List Int) : Prop := Grp g ∧ Mdl g m u
theorem areModules1 (g : List (List Int)) (hl : g.length ≤ maxLen) (hr : ∀ r ∈ g, r.length ≤ maxLen) (m : Int) (u : List Int) (hu : u.length ≤ maxLen) : impl_areModules.f g [(m, u)] = some (B (GM g m u)) := by
  have hG := isGroup g hl hr
  rw [impl_areModules.f_eq]
  have st : impl_areModules.l0 [(m, u)] (([(m, u)] : List (Int × List Int)).length : Int) 1 g = some true := by (rw [impl_areModules.l0_eq]); exact if_neg (by simp)
  (rw [impl_areModules.l0_eq])
  rw [if_pos (by simp), if_pos (by simp), if_pos (by simp), hG]
  by_cases h1 : Grp g
  · have hM := isModule h1 m u hu
    rw [B_pos h1]
    show (Option.bind (impl_isModule.f g m u) _) = _
    rw [hM]
    by_cases h2 : Mdl g m u
    · rw [B_pos h2, B_pos ⟨h1, h2⟩]
      simpa [show wrapI 1 = 1 from w64 (by omega) (by omega)] using st
    · rw [B_neg h2, B_neg fun h => h2 h.2]
      rfl
  · rw [B_neg h1, B_neg fun h => h1 h.1]
    rfl
end Go.Proofs.Ytpppnoliogdkiaa.V
set_option linter.unusedVariables false
set_option linter.unusedSimpArgs false
set_option maxHeartbeats 2000000
set_option maxRecDepth 20000
namespace Go.Proofs.Ytpppnoliogdkiaa.V
open Go.RowKit Go.Proofs.Ytpppnoliogdkiaa.D Go.Proofs.Ytpppnoliogdkiaa.P
theorem Mod_ {a m : Int} (h0 : -1000000000 ≤ a) (h1 : a ≤ 1000000000) (m0 : 0 < m) (m1 : m ≤ 1000000) : spec_l01Mod.f a m = some (a % m) := by
  rw [spec_l01Mod.f_eq]
  have t0 := Int.tmod_lt_of_pos a m0
  have t1 : -m < Int.tmod a m := Int.lt_tmod_of_pos a m0
  have hq := Int.mul_tdiv_add_tmod a m
  have h5 : (m * a.tdiv m + a.tmod m) % m = a.tmod m % m := by rw [Int.add_comm, Int.add_mul_emod_self_left]
  rw [hq] at h5
  rw [w64 (by omega) (by omega), Int.tmod_eq_emod_of_nonneg (show 0 ≤ Int.tmod a m + m by omega), Int.add_emod_right, ← h5]
  ((with_reducible repeat (first | refine go_pos (by first | assumption | omega | rfl | exact B_pos (by omega)) ?_ | refine go_neg (by first | assumption | omega | decide | exact B_not (by omega)) ?_ | refine go_bind (by first | assumption) ?_ | dsimp only)); first | done | (with_reducible rfl) | simp (disch := omega) only [w64] | (show False; done))
theorem pow_nat : ∀ n : Nat, n ≤ 7 → ∀ i : Nat, i ≤ 5 → n ^ i ≤ 16807 := by decide
theorem pow_bd {a : Int} (h0 : 0 ≤ a) (h1 : a ≤ 7) (i : Nat) (hi : i ≤ 5) : 0 ≤ a ^ i ∧ a ^ i ≤ 16807 := by
  obtain ⟨n, rfl⟩ := Int.eq_ofNat_of_zero_le h0
  have h := pow_nat n (by omega) i hi
  rw [← Int.natCast_pow]
  omega
def cells (g : List (List Int)) (d : Int) : Int := ((g.length : Int) - 1) ^ d.toNat
theorem cells_bd {g : List (List Int)} (hg : Grp g) {d : Int} (h1 : d ≤ 5) : 0 ≤ cells g d ∧ cells g d ≤ 16807 := by
  have n8 := hg.n8; have n0 := hg.n1
  exact pow_bd (by omega) (by omega) _ (by omega)
theorem power {a d : Int} (h0 : 0 ≤ a) (h1 : a ≤ 7) (d0 : 0 ≤ d) (d1 : d ≤ 4) : impl_power.f a d = some (a ^ d.toNat) := by
  obtain ⟨n, rfl⟩ := Int.eq_ofNat_of_zero_le d0
  have := up n (fun j => impl_power.l0 a (a ^ j) (n : Int) (j : Int)) (fun j hj => by
    have hw : wrapI ((j : Int) + 1) = ((j + 1 : Nat) : Int) := by rw [w64 (by omega) (by omega)]; omega
    have b := pow_bd h0 h1 (j + 1) (by omega)
    have hp : wrapI (a ^ j * a) = a ^ (j + 1) := by rw [show a ^ j * a = a ^ (j + 1) from (Int.pow_succ a j).symm]; exact w64 (by omega) (by omega)
    rw [impl_power.l0_eq, hw, hp]
    ((with_reducible repeat (first | refine go_pos (by first | assumption | omega | rfl | exact B_pos (by omega)) ?_ | refine go_neg (by first | assumption | omega | decide | exact B_not (by omega)) ?_ | refine go_bind (by first | assumption) ?_ | dsimp only)); first | done | (with_reducible rfl) | simp (disch := omega) only [w64] | (show False; done)))
  simp only [Int.pow_zero, Int.natCast_zero] at this
  rw [impl_power.f_eq, this, impl_power.l0_eq, Int.toNat_natCast]
  ((with_reducible repeat (first | refine go_pos (by first | assumption | omega | rfl | exact B_pos (by omega)) ?_ | refine go_neg (by first | assumption | omega | decide | exact B_not (by omega)) ?_ | refine go_bind (by first | assumption) ?_ | dsimp only)); first | done | (with_reducible rfl) | simp (disch := omega) only [w64] | (show False; done))
theorem cells_ {g : List (List Int)} (hg : Grp g) {d : Int} (d0 : 0 ≤ d) (d1 : d ≤ 4) : impl_cells.f g d = some (cells g d) := by
  have n8 := hg.n8; have n0 := hg.n1
  have hw : wrapI ((g.length : Int) - 1) = g.length - 1 := w64 (by omega) (by omega)
  have hp := power (a := (g.length : Int) - 1) (by omega) (by omega) d0 d1
  show _ = some (((g.length : Int) - 1) ^ d.toNat)
  rw [impl_cells.f_eq, impl_order.f_eq, Option.bind_some, hw]
  ((with_reducible repeat (first | refine go_pos (by first | assumption | omega | rfl | exact B_pos (by omega)) ?_ | refine go_neg (by first | assumption | omega | decide | exact B_not (by omega)) ?_ | refine go_bind (by first | assumption) ?_ | dsimp only)); first | done | (with_reducible rfl) | simp (disch := omega) only [w64] | (show False; done))
theorem Cells_ {g : List (List Int)} (hg : Grp g) {d : Int} (d0 : 0 ≤ d) (d1 : d ≤ 4) : spec_l03Cells.f g d = some (cells g d) := by
  have n8 := hg.n8; have n0 := hg.n1
  unfold cells
  have hw : wrapI ((g.length : Int) - 1) = g.length - 1 := w64 (by omega) (by omega)
  obtain ⟨n, rfl⟩ := Int.eq_ofNat_of_zero_le d0
  suffices H : ∀ n j : Nat, n + j ≤ 4 → spec_l03Cells.l0 (n : Int) (((g.length : Int) - 1) ^ j) g = some (((g.length : Int) - 1) ^ (j + n)) by
    have := H n 0 (by omega)
    rw [spec_l03Cells.f_eq]
    simpa using this
  intro n
  induction n with
  | zero => intro j hj; rw [spec_l03Cells.l0_eq, Nat.add_zero]; ((with_reducible repeat (first | refine go_pos (by first | assumption | omega | rfl | exact B_pos (by omega)) ?_ | refine go_neg (by first | assumption | omega | decide | exact B_not (by omega)) ?_ | refine go_bind (by first | assumption) ?_ | dsimp only)); first | done | (with_reducible rfl) | simp (disch := omega) only [w64] | (show False; done))
  | succ n ih =>
    intro j hj
    have b := pow_bd (a := (g.length : Int) - 1) (by omega) (by omega) (j + 1) (by omega)
    have hp : wrapI (((g.length : Int) - 1) ^ j * ((g.length : Int) - 1)) = ((g.length : Int) - 1) ^ (j + 1) := by rw [show ((g.length : Int) - 1) ^ j * ((g.length : Int) - 1) = ((g.length : Int) - 1) ^ (j + 1) from (Int.pow_succ _ j).symm]; exact w64 (by omega) (by omega)
    have h1 : wrapI (((n + 1 : Nat) : Int) - 1) = (n : Int) := by rw [w64 (by omega) (by omega)]; omega
    have := ih (j + 1) (by omega)
    rw [show j + 1 + n = j + (n + 1) by omega] at this
    rw [spec_l03Cells.l0_eq, spec_l01N.f_eq, Option.bind_some, hw, hp, h1]
    (with_reducible repeat (first | refine go_pos (by first | assumption | omega | rfl | exact B_pos (by omega)) ?_ | refine go_neg (by first | assumption | omega | decide | exact B_not (by omega)) ?_ | refine go_bind (by first | assumption) ?_ | dsimp only))
    exact this
def Co (g : List (List Int)) (m d : Int) (v : List Int) : Prop := (0 ≤ d ∧ d ≤ 3) ∧ (v.length : Int) = cells g d ∧ AllIn m v
theorem isDegree (d : Int) : impl_isDegree.f d = some (B (0 ≤ d ∧ d ≤ 3)) := by
  rw [impl_isDegree.f_eq]
  by_cases h : d ≥ 0
  · rw [if_pos h, B_decide, B_congr (show d ≤ 3 ↔ (0 ≤ d ∧ d ≤ 3) from ⟨fun h' => ⟨h, h'⟩, fun h' => h'.2⟩)]
  · rw [if_neg h, B_neg (fun h' => h h'.1)]
theorem isCochain {g : List (List Int)} (hg : Grp g) (m : Int) (u : List Int) (d : Int) (v : List Int) (hv : v.length ≤ maxLen) : impl_isCochain.f g m u d v = some (B (Co g m d v)) := by
  rw [impl_isCochain.f_eq]
  by_cases h1 : 0 ≤ d ∧ d ≤ 3
  rotate_left
  · rw [B_neg fun h => h1 h.1]
    ((with_reducible repeat (first | refine go_pos (by first | assumption | omega | rfl | exact B_pos (by omega)) ?_ | refine go_neg (by first | assumption | omega | decide | exact B_not (by omega)) ?_ | refine go_bind (by first | assumption | exact isDegree _) ?_ | dsimp only)); first | done | (with_reducible rfl) | simp (disch := omega) only [w64] | (show False; done))
  have hc := cells_ hg h1.1 (by omega)
  have ha := areIn m v hv
  by_cases h2 : (v.length : Int) = cells g d
  rotate_left
  · rw [B_neg fun h => h2 h.2.1]
    ((with_reducible repeat (first | refine go_pos (by first | assumption | omega | rfl | exact B_pos (by omega)) ?_ | refine go_neg (by first | assumption | omega | decide | exact B_not (by omega)) ?_ | refine go_bind (by first | assumption | exact isDegree _) ?_ | dsimp only)); first | done | (with_reducible rfl) | simp (disch := omega) only [w64] | (show False; done))
  (with_reducible repeat (first | refine go_pos (by first | assumption | omega | rfl | exact B_pos (by omega)) ?_ | refine go_neg (by first | assumption | omega | decide | exact B_not (by omega)) ?_ | refine go_bind (by first | assumption | exact isDegree _) ?_ | dsimp only))
  rw [B_congr (show AllIn m v ↔ Co g m d v from ⟨fun h => ⟨h1, h2, h⟩, fun h => h.2.2⟩)]
  simp
theorem Is03 {g : List (List Int)} (hg : Grp g) {m : Int} {u : List Int} (hm : Mdl g m u) (d : Int) (v : List Int) (hv : v.length ≤ maxLen) : spec_l03Is.f g m u d v = some (B (Co g m d v)) := by
  have hml := maxLen_le
  have m2 := hm.m2; have m12 := hm.m12
  rw [spec_l03Is.f_eq]
  by_cases h1 : 0 ≤ d ∧ d ≤ 3
  rotate_left
  · rw [B_neg fun h => h1 h.1]
    ((with_reducible repeat (first | refine go_pos (by first | assumption | omega | rfl | exact B_pos (by omega)) ?_ | refine go_neg (by first | assumption | omega | decide | exact B_not (by omega)) ?_ | refine go_bind (by first | assumption | exact In_ _ _ _) ?_ | dsimp only)); first | done | (with_reducible rfl) | simp (disch := omega) only [w64] | (show False; done))
  have hc := Cells_ hg h1.1 (by omega)
  by_cases h2 : (v.length : Int) = cells g d
  rotate_left
  · rw [B_neg fun h => h2 h.2.1]
    ((with_reducible repeat (first | refine go_pos (by first | assumption | omega | rfl | exact B_pos (by omega)) ?_ | refine go_neg (by first | assumption | omega | decide | exact B_not (by omega)) ?_ | refine go_bind (by first | assumption | exact In_ _ _ _) ?_ | dsimp only)); first | done | (with_reducible rfl) | simp (disch := omega) only [w64] | (show False; done))
  (with_reducible repeat (first | refine go_pos (by first | assumption | omega | rfl | exact B_pos (by omega)) ?_ | refine go_neg (by first | assumption | omega | decide | exact B_not (by omega)) ?_ | refine go_bind (by first | assumption | exact In_ _ _ _) ?_ | dsimp only))
  rw [B_congr (show Co g m d v ↔ AllIn m v from ⟨fun h => h.2.2, fun h => ⟨h1, h2, h⟩⟩)]
  have hw : wrapI (m - 1) = m - 1 := w64 (by omega) (by omega)
  refine scanT v.length (fun i => spec_l03Is.l0 i m u d v) (fun i => 0 ≤ rd v i ∧ rd v i < m) (fun i i0 i1 _ => ?_) (fun _ => by (rw [spec_l03Is.l0_eq]); ((with_reducible repeat (first | refine go_pos (by first | assumption | omega | rfl | exact B_pos (by omega)) ?_ | refine go_neg (by first | assumption | omega | decide | exact B_not (by omega)) ?_ | refine go_bind (by first | assumption) ?_ | dsimp only)); first | done | (with_reducible rfl) | simp (disch := omega) only [w64] | (show False; done)))
  refine ⟨fun h => ?_, fun h => ?_⟩ <;> (rw [spec_l03Is.l0_eq, hw]) <;> ((with_reducible repeat (first | refine go_pos (by first | assumption | omega | rfl | exact B_pos (by omega)) ?_ | refine go_neg (by first | assumption | omega | decide | exact B_not (by omega)) ?_ | refine go_bind (by first | assumption | exact In_ _ _ _) ?_ | dsimp only)); first | done | (with_reducible rfl) | simp (disch := omega) only [w64] | (show False; done))
theorem co_codes (g : List (List Int)) (hl : g.length ≤ maxLen) (hr : ∀ r ∈ g, r.length ≤ maxLen) (m : Int) (u : List Int) (hu : u.length ≤ maxLen) (d : Int) (v : List Int) (hv : v.length ≤ maxLen) :
    (Grp g ∧ Mdl g m u ∧ Co g m d v ∧ impl_cochainCode.f g m u [(d, v)] = some 0 ∧ spec_l03Code.f g m u [(d, v)] = some 0) ∨
    (¬ (Grp g ∧ Mdl g m u ∧ Co g m d v) ∧ impl_cochainCode.f g m u [(d, v)] = some 1 ∧ spec_l03Code.f g m u [(d, v)] = some 1) := by
  have hA := areModules1 g hl hr m u hu
  have hS := Is_ g
  have w1 : wrapI (0 + 1) = 1 := w64 (by omega) (by omega)
  have stI : impl_cochainCode.l0 [(d, v)] (([(d, v)] : List (Int × List Int)).length : Int) 1 g m u = some 0 := by rw [impl_cochainCode.l0_eq]; exact if_neg (by simp)
  have stS : spec_l03Code.l0 [(d, v)] 1 g m u = some 0 := by rw [spec_l03Code.l0_eq]; exact if_neg (by simp)
  have r0 : Ty.rd (.pr (.int .i64) (.sl 2 (.int .i64))) [(d, v)] 0 = (d, v) := rfl
  rw [impl_cochainCode.f_eq, spec_l03Code.f_eq]
  by_cases h : GM g m u
  rotate_left
  · refine .inr ⟨fun k => h ⟨k.1, k.2.1⟩, ?_, ?_⟩
    · ((with_reducible repeat (first | refine go_pos (by first | assumption | omega | rfl | exact B_pos (by omega)) ?_ | refine go_neg (by first | assumption | omega | decide | exact B_not (by omega)) ?_ | refine go_bind (by first | assumption) ?_ | dsimp only)); first | done | (with_reducible rfl) | simp (disch := omega) only [w64] | (show False; done))
    · by_cases h1 : Grp g
      · have hM := Is02 h1 m u hu
        rw [B_neg fun k => h ⟨h1, k⟩] at hM
        ((with_reducible repeat (first | refine go_pos (by first | assumption | omega | rfl | exact B_pos (by omega)) ?_ | refine go_neg (by first | assumption | omega | decide | exact B_not (by omega)) ?_ | refine go_bind (by first | assumption) ?_ | dsimp only)); first | done | (with_reducible rfl) | simp (disch := omega) only [w64] | (show False; done))
      · ((with_reducible repeat (first | refine go_pos (by first | assumption | omega | rfl | exact B_pos (by omega)) ?_ | refine go_neg (by first | assumption | omega | decide | exact B_not (by omega)) ?_ | refine go_bind (by first | assumption) ?_ | dsimp only)); first | done | (with_reducible rfl) | simp (disch := omega) only [w64] | (show False; done))
  have hM := Is02 h.1 m u hu
  have hI := isCochain h.1 m u d v hv
  have hC := Is03 h.1 h.2 d v hv
  rw [impl_cochainCode.l0_eq, spec_l03Code.l0_eq, r0, w1]
  have k1 : (0 : Int) < (([(d, v)] : List (Int × List Int)).length : Int) := by simp
  have hB : B (GM g m u) = true := B_pos h
  have hGr := h.1
  have hMd := h.2
  by_cases h2 : Co g m d v
  · exact .inl ⟨h.1, h.2, h2, by (with_reducible repeat (first | refine go_pos (by first | assumption | omega | rfl | exact B_pos (by omega)) ?_ | refine go_neg (by first | assumption | omega | decide | exact B_not (by omega)) ?_ | refine go_bind (by first | assumption) ?_ | dsimp only)); exact stI, by (with_reducible repeat (first | refine go_pos (by first | assumption | omega | rfl | exact B_pos (by omega)) ?_ | refine go_neg (by first | assumption | omega | decide | exact B_not (by omega)) ?_ | refine go_bind (by first | assumption) ?_ | dsimp only)); exact stS⟩
  · exact .inr ⟨fun k => h2 k.2.2, by ((with_reducible repeat (first | refine go_pos (by first | assumption | omega | rfl | exact B_pos (by omega)) ?_ | refine go_neg (by first | assumption | omega | decide | exact B_not (by omega)) ?_ | refine go_bind (by first | assumption) ?_ | dsimp only)); first | done | (with_reducible rfl) | simp (disch := omega) only [w64] | (show False; done)), by ((with_reducible repeat (first | refine go_pos (by first | assumption | omega | rfl | exact B_pos (by omega)) ?_ | refine go_neg (by first | assumption | omega | decide | exact B_not (by omega)) ?_ | refine go_bind (by first | assumption) ?_ | dsimp only)); first | done | (with_reducible rfl) | simp (disch := omega) only [w64] | (show False; done))⟩
def idx (g : List (List Int)) (xs : List Int) : Int := xs.foldl (fun a x => a * ((g.length : Int) - 1) + x - 1) 0
theorem idx_snoc (g : List (List Int)) (xs : List Int) (x : Int) : idx g (xs ++ [x]) = idx g xs * ((g.length : Int) - 1) + x - 1 := by simp [idx]
theorem idx_take {g : List (List Int)} {xs : List Int} {i : Nat} (h : i < xs.length) : idx g (xs.take (i + 1)) = idx g (xs.take i) * ((g.length : Int) - 1) + rd xs (i : Int) - 1 := by
  rw [take_rd h, idx_snoc]
theorem idx_bd {g : List (List Int)} (hg : Grp g) {xs : List Int} (hx : AllIn g.length xs) : ∀ i : Nat, i ≤ xs.length → (∀ j : Int, 0 ≤ j → j < i → ¬ rd xs j = 0) → 0 ≤ idx g (xs.take i) ∧ idx g (xs.take i) + 1 ≤ ((g.length : Int) - 1) ^ i := by
  have n8 := hg.n8; have n1 := hg.n1
  intro i
  induction i with
  | zero => intro _ _; simp [idx]
  | succ i ih =>
    intro hi hz
    obtain ⟨a0, a1⟩ := ih (by omega) (fun j h0 h1 => hz j h0 (by omega))
    obtain ⟨x0, x1⟩ := hx i (by omega) (by omega)
    have x2 := hz i (by omega) (by omega)
    rw [idx_take (by omega), Int.pow_succ]
    have b1 : 0 ≤ idx g (xs.take i) * ((g.length : Int) - 1) := Int.mul_nonneg a0 (by omega)
    have b2 : (idx g (xs.take i) + 1) * ((g.length : Int) - 1) ≤ ((g.length : Int) - 1) ^ i * ((g.length : Int) - 1) := Int.mul_le_mul_of_nonneg_right a1 (by omega)
    rw [Int.add_mul, Int.one_mul] at b2
    omega
def NoUnit (xs : List Int) : Prop := ∀ j : Int, 0 ≤ j → j < xs.length → ¬ rd xs j = 0
noncomputable def At (g : List (List Int)) (v xs : List Int) : Int := ite_ (NoUnit xs) (rd v (idx g xs)) 0
theorem idx_step {g : List (List Int)} (hg : Grp g) {xs : List Int} (hx : AllIn g.length xs) (hl : xs.length ≤ 4) {n : Nat} (hn : n < xs.length) (hz : ∀ j : Int, 0 ≤ j → j < (n : Int) → ¬ rd xs j = 0) :
    wrapI (wrapI (wrapI (idx g (xs.take n) * wrapI ((g.length : Int) - 1)) + rd xs n) - 1) = idx g (xs.take (n + 1)) ∧ wrapI ((n : Int) + 1) = (n : Int) + 1 := by
  have n8 := hg.n8; have n1 := hg.n1
  obtain ⟨a0, a1⟩ := idx_bd hg hx n (by omega) hz
  obtain ⟨x0, x1⟩ := hx n (by omega) (by omega)
  have p := pow_bd (a := (g.length : Int) - 1) (by omega) (by omega) n (by omega)
  have b1 : 0 ≤ idx g (xs.take n) * ((g.length : Int) - 1) := Int.mul_nonneg a0 (by omega)
  have b2 : idx g (xs.take n) * ((g.length : Int) - 1) ≤ 16807 * 7 := Int.mul_le_mul (by omega) (by omega) (by omega) (by omega)
  rw [w64 (x := (g.length : Int) - 1) (by omega) (by omega), w64 (x := idx g (xs.take n) * ((g.length : Int) - 1)) (by omega) (by omega), w64 (x := idx g (xs.take n) * ((g.length : Int) - 1) + rd xs n) (by omega) (by omega), w64 (by omega) (by omega), w64 (by omega) (by omega), idx_take hn]
  exact ⟨rfl, rfl⟩
theorem cell_ {g : List (List Int)} (hg : Grp g) {xs : List Int} (hx : AllIn g.length xs) (hl : xs.length ≤ 4) :
    impl_cell.f g xs = some (ite_ (NoUnit xs) (idx g xs) (-1)) := by
  rw [impl_cell.f_eq]
  have := scan xs.length (fun i => impl_cell.l0 (idx g (xs.take i.toNat)) xs (xs.length : Int) i g) (fun j => ¬ rd xs j = 0) (some (-1)) (fun i i0 i1 hz => by
    obtain ⟨n, rfl⟩ := Int.eq_ofNat_of_zero_le i0
    obtain ⟨e1, e2⟩ := idx_step hg hx hl (n := n) (by omega) hz
    refine ⟨fun h => ?_, fun h => ?_⟩
    · rw [impl_cell.l0_eq, impl_order.f_eq, Option.bind_some, Int.toNat_natCast, e1, e2, show ((n : Int) + 1).toNat = n + 1 by omega]
      ((with_reducible repeat (first | refine go_pos (by first | assumption | omega | rfl | exact B_pos (by omega)) ?_ | refine go_neg (by first | assumption | omega | decide | exact B_not (by omega)) ?_ | refine go_bind (by first | assumption) ?_ | dsimp only)); first | done | (with_reducible rfl) | simp (disch := omega) only [w64] | (show False; done))
    · (rw [impl_cell.l0_eq])
      ((with_reducible repeat (first | refine go_pos (by first | assumption | omega | rfl | exact B_pos (by omega)) ?_ | refine go_neg (by first | assumption | omega | decide | exact B_not (by omega)) ?_ | refine go_bind (by first | assumption) ?_ | dsimp only)); first | done | (with_reducible rfl) | simp (disch := omega) only [w64] | (show False; done)))
  simp only [Int.toNat_zero, List.take_zero, Int.toNat_natCast, List.take_length] at this
  rcases this with ⟨h1, h2⟩ | ⟨j, j0, j1, _, h1, _, h2⟩
  · have h1 : NoUnit xs := h1
    rw [ite_pos h1, ← show impl_cell.l0 (idx g []) xs (xs.length : Int) 0 g = impl_cell.l0 0 xs (xs.length : Int) 0 g from rfl, h2]
    (rw [impl_cell.l0_eq])
    ((with_reducible repeat (first | refine go_pos (by first | assumption | omega | rfl | exact B_pos (by omega)) ?_ | refine go_neg (by first | assumption | omega | decide | exact B_not (by omega)) ?_ | refine go_bind (by first | assumption) ?_ | dsimp only)); first | done | (with_reducible rfl) | simp (disch := omega) only [w64] | (show False; done))
  · rw [ite_neg fun q => h1 (q j j0 j1)]
    exact h2
theorem idx_cells {g : List (List Int)} (hg : Grp g) {m d : Int} {v : List Int} (hc : Co g m d v) {xs : List Int} (hx : AllIn g.length xs) (hl : (xs.length : Int) = d) (h : NoUnit xs) : 0 ≤ idx g xs ∧ idx g xs < v.length := by
  obtain ⟨⟨d0, d1⟩, hv, ha⟩ := hc
  obtain ⟨a0, a1⟩ := idx_bd hg hx xs.length (by omega) h
  rw [List.take_length] at a0 a1
  have e : cells g d = ((g.length : Int) - 1) ^ xs.length := by unfold cells; rw [show d.toNat = xs.length by omega]
  omega
theorem at_ {g : List (List Int)} (hg : Grp g) {m d : Int} {v : List Int} (hc : Co g m d v) {xs : List Int} (hx : AllIn g.length xs) (hl : (xs.length : Int) = d) :
    impl_Cochain_at.f d v g xs = some (At g v xs) := by
  have hd := hc.1
  have h1 := cell_ hg hx (by omega)
  rw [impl_Cochain_at.f_eq]
  unfold At
  by_cases h : NoUnit xs
  · obtain ⟨a0, a1⟩ := idx_cells hg hc hx hl h
    rw [ite_pos h] at h1 ⊢
    ((with_reducible repeat (first | refine go_pos (by first | assumption | omega | rfl | exact B_pos (by omega)) ?_ | refine go_neg (by first | assumption | omega | decide | exact B_not (by omega)) ?_ | refine go_bind (by first | assumption) ?_ | dsimp only)); first | done | (with_reducible rfl) | simp (disch := omega) only [w64] | (show False; done))
  · rw [ite_neg h] at h1 ⊢
    ((with_reducible repeat (first | refine go_pos (by first | assumption | omega | rfl | exact B_pos (by omega)) ?_ | refine go_neg (by first | assumption | omega | decide | exact B_not (by omega)) ?_ | refine go_bind (by first | assumption) ?_ | dsimp only)); first | done | (with_reducible rfl) | simp (disch := omega) only [w64] | (show False; done))
theorem At_ {g : List (List Int)} (hg : Grp g) {m d : Int} {u v : List Int} (hc : Co g m d v) {xs : List Int} (hx : AllIn g.length xs) (hl : (xs.length : Int) = d) :
    spec_l03At.f g d v xs = some (At g v xs) := by
  have hd := hc.1
  rw [spec_l03At.f_eq]
  have := scan xs.length (fun i => spec_l03At.l0 xs (idx g (xs.take i.toNat)) i g d v) (fun j => ¬ rd xs j = 0) (some 0) (fun i i0 i1 hz => by
    obtain ⟨n, rfl⟩ := Int.eq_ofNat_of_zero_le i0
    obtain ⟨e1, e2⟩ := idx_step hg hx (by omega) (n := n) (by omega) hz
    refine ⟨fun h => ?_, fun h => ?_⟩
    · rw [spec_l03At.l0_eq, spec_l01N.f_eq, Option.bind_some, Int.toNat_natCast, e1, e2, show ((n : Int) + 1).toNat = n + 1 by omega]
      ((with_reducible repeat (first | refine go_pos (by first | assumption | omega | rfl | exact B_pos (by omega)) ?_ | refine go_neg (by first | assumption | omega | decide | exact B_not (by omega)) ?_ | refine go_bind (by first | assumption) ?_ | dsimp only)); first | done | (with_reducible rfl) | simp (disch := omega) only [w64] | (show False; done))
    · (rw [spec_l03At.l0_eq])
      ((with_reducible repeat (first | refine go_pos (by first | assumption | omega | rfl | exact B_pos (by omega)) ?_ | refine go_neg (by first | assumption | omega | decide | exact B_not (by omega)) ?_ | refine go_bind (by first | assumption) ?_ | dsimp only)); first | done | (with_reducible rfl) | simp (disch := omega) only [w64] | (show False; done)))
  simp only [Int.toNat_zero, List.take_zero, Int.toNat_natCast, List.take_length] at this
  unfold At
  rcases this with ⟨h1, h2⟩ | ⟨j, j0, j1, _, h1, _, h2⟩
  · have h1 : NoUnit xs := h1
    obtain ⟨a0, a1⟩ := idx_cells hg hc hx hl h1
    rw [ite_pos h1, ← show spec_l03At.l0 xs (idx g []) 0 g d v = spec_l03At.l0 xs 0 0 g d v from rfl, h2]
    (rw [spec_l03At.l0_eq])
    ((with_reducible repeat (first | refine go_pos (by first | assumption | omega | rfl | exact B_pos (by omega)) ?_ | refine go_neg (by first | assumption | omega | decide | exact B_not (by omega)) ?_ | refine go_bind (by first | assumption) ?_ | dsimp only)); first | done | (with_reducible rfl) | simp (disch := omega) only [w64] | (show False; done))
  · rw [ite_neg fun q => h1 (q j j0 j1)]
    exact h2
theorem At_bd {g : List (List Int)} (hg : Grp g) {m d : Int} {v : List Int} (m0 : 0 < m) (hc : Co g m d v) {xs : List Int} (hx : AllIn g.length xs) (hl : (xs.length : Int) = d) : 0 ≤ At g v xs ∧ At g v xs < m := by
  unfold At
  by_cases h : NoUnit xs
  · obtain ⟨a0, a1⟩ := idx_cells hg hc hx hl h
    rw [ite_pos h]
    exact hc.2.2 _ a0 a1
  · rw [ite_neg h]; omega
end Go.Proofs.Ytpppnoliogdkiaa.V
set_option linter.unusedVariables false
set_option linter.unusedSimpArgs false
set_option maxHeartbeats 2000000
set_option maxRecDepth 20000
namespace Go.Proofs.Ytpppnoliogdkiaa.V
open Go.RowKit Go.Proofs.Ytpppnoliogdkiaa.D Go.Proofs.Ytpppnoliogdkiaa.P
def lst (b : Int) : Nat → Int → List Int
  | 0, _ => []
  | n + 1, i => lst b n (i / b) ++ [i % b + 1]
theorem lst_length (b : Int) : ∀ n i, (lst b n i).length = n := by
  intro n
  induction n with
  | zero => intro i; rfl
  | succ n ih => intro i; simp [lst, ih]
theorem lst_in {b : Int} (hb : 0 < b) : ∀ n i, ∀ x ∈ lst b n i, 1 ≤ x ∧ x < b + 1 := by
  intro n
  induction n with
  | zero => intro i x hx; simp [lst] at hx
  | succ n ih =>
    intro i x hx
    have m0 := Int.emod_nonneg i (show b ≠ 0 by omega)
    have m1 := Int.emod_lt_of_pos i hb
    rcases List.mem_append.1 hx with h | h
    · exact ih _ x h
    · rw [List.mem_singleton] at h; omega
theorem set_last (n : Nat) (t : List Int) (x : Int) : (List.replicate (n + 1) 0 ++ t).set n x = List.replicate n 0 ++ (x :: t) := by
  rw [List.replicate_succ', List.append_assoc, List.set_append, if_neg (by simp)]
  simp
theorem listOf {g : List (List Int)} (hg : Grp g) (n : Nat) (h2 : n = 0 ∨ 2 ≤ g.length) (hn : n ≤ 4) {i : Int} (i0 : 0 ≤ i) (i1 : i ≤ 16807) :
    impl_listOf.f g (n : Int) i = some (lst ((g.length : Int) - 1) n i) ∧ spec_l03List.f g (n : Int) i = some (lst ((g.length : Int) - 1) n i) := by
  have n8 := hg.n8; have n1 := hg.n1
  obtain ⟨b, hb⟩ : ∃ b : Int, b = (g.length : Int) - 1 := ⟨_, rfl⟩
  have hw0 : wrapI ((g.length : Int) - 1) = b := by rw [hb]; exact w64 (by omega) (by omega)
  rw [← hb]
  have b1 : n = 0 ∨ 1 ≤ b := by omega
  have b7 : b ≤ 7 := by omega
  have fact : ∀ (n : Nat) (i : Int), n ≤ 4 → 1 ≤ b → 0 ≤ i → i ≤ 16807 → wrapI (Int.tdiv i b) = i / b ∧ wrapI (1 + Int.tmod i b) = i % b + 1 ∧ wrapI (Int.tmod i b + 1) = i % b + 1 ∧ wrapI ((n : Int) - 1) = (n : Int) - 1 ∧ 0 ≤ i / b ∧ i / b ≤ 16807 := by
    intro n i hn b1 i0 i1
    have m0 := Int.emod_nonneg i (show b ≠ 0 by omega)
    have m1 := Int.emod_lt_of_pos i (show 0 < b by omega)
    have d0 : 0 ≤ i / b := Int.ediv_nonneg i0 (by omega)
    have d1 : i / b ≤ i := Int.ediv_le_self _ i0
    rw [tdiv_nn i0, tmod_nn i0]
    exact ⟨w64 (by omega) (by omega), by rw [w64 (by omega) (by omega)]; omega, w64 (by omega) (by omega), w64 (by omega) (by omega), d0, by omega⟩
  have hwn : wrapI ((n : Int) - 1) = (n : Int) - 1 := w64 (by omega) (by omega)
  constructor
  · rw [impl_listOf.f_eq, impl_order.f_eq, Option.bind_some, hw0, hwn, Int.toNat_natCast]
    (with_reducible repeat (first | refine go_pos (by first | assumption | omega | rfl | exact B_pos (by omega)) ?_ | refine go_neg (by first | assumption | omega | decide | exact B_not (by omega)) ?_ | refine go_bind (by first | assumption) ?_ | dsimp only))
    suffices H : ∀ (n : Nat) (i : Int) (t : List Int), n ≤ 4 → (n = 0 ∨ 1 ≤ b) → 0 ≤ i → i ≤ 16807 → impl_listOf.l0 i b ((n : Int) - 1) (List.replicate n 0 ++ t) = some (lst b n i ++ t) by
      simpa using H n i [] hn b1 i0 i1
    intro n
    induction n with
    | zero => intro i t _ _ _ _; rw [impl_listOf.l0_eq]; (with_reducible repeat (first | refine go_pos (by first | assumption | omega | rfl | exact B_pos (by omega)) ?_ | refine go_neg (by first | assumption | omega | decide | exact B_not (by omega)) ?_ | refine go_bind (by first | assumption) ?_ | dsimp only)); rfl
    | succ n ih =>
      intro i t hn b1 i0 i1
      obtain ⟨f1, f2, f3, f5, f6, f7⟩ := fact n i (by omega) (by omega) i0 i1
      have h := ih (i / b) ((i % b + 1) :: t) (by omega) (by omega) f6 f7
      have e : ((n + 1 : Nat) : Int) - 1 = (n : Int) := by omega
      have l1 : (List.replicate (n + 1) (0 : Int) ++ t).length = n + 1 + t.length := by rw [List.length_append, List.length_replicate]
      rw [e, impl_listOf.l0_eq, f1, f2, f5, Int.toNat_natCast, set_last]
      (with_reducible repeat (first | refine go_pos (by first | assumption | omega | rfl | exact B_pos (by omega)) ?_ | refine go_neg (by first | assumption | omega | decide | exact B_not (by omega)) ?_ | refine go_bind (by first | assumption) ?_ | dsimp only))
      rw [h, lst, List.append_assoc, List.singleton_append]
  · rw [spec_l03List.f_eq, spec_l01N.f_eq, Option.bind_some, hw0, hwn, Int.toNat_natCast]
    (with_reducible repeat (first | refine go_pos (by first | assumption | omega | rfl | exact B_pos (by omega)) ?_ | refine go_neg (by first | assumption | omega | decide | exact B_not (by omega)) ?_ | refine go_bind (by first | assumption) ?_ | dsimp only))
    suffices H : ∀ (n : Nat) (i : Int) (t : List Int), n ≤ 4 → (n = 0 ∨ 1 ≤ b) → 0 ≤ i → i ≤ 16807 → spec_l03List.l0 i b ((n : Int) - 1) (List.replicate n 0 ++ t) = some (lst b n i ++ t) by
      simpa using H n i [] hn b1 i0 i1
    intro n
    induction n with
    | zero => intro i t _ _ _ _; rw [spec_l03List.l0_eq]; (with_reducible repeat (first | refine go_pos (by first | assumption | omega | rfl | exact B_pos (by omega)) ?_ | refine go_neg (by first | assumption | omega | decide | exact B_not (by omega)) ?_ | refine go_bind (by first | assumption) ?_ | dsimp only)); rfl
    | succ n ih =>
      intro i t hn b1 i0 i1
      obtain ⟨f1, f2, f3, f5, f6, f7⟩ := fact n i (by omega) (by omega) i0 i1
      have h := ih (i / b) ((i % b + 1) :: t) (by omega) (by omega) f6 f7
      have e : ((n + 1 : Nat) : Int) - 1 = (n : Int) := by omega
      have l1 : (List.replicate (n + 1) (0 : Int) ++ t).length = n + 1 + t.length := by rw [List.length_append, List.length_replicate]
      rw [e, spec_l03List.l0_eq, f1, f3, f5, Int.toNat_natCast, set_last]
      (with_reducible repeat (first | refine go_pos (by first | assumption | omega | rfl | exact B_pos (by omega)) ?_ | refine go_neg (by first | assumption | omega | decide | exact B_not (by omega)) ?_ | refine go_bind (by first | assumption) ?_ | dsimp only))
      rw [h, lst, List.append_assoc, List.singleton_append]
theorem cells_two {g : List (List Int)} (hg : Grp g) {n : Nat} (hc : 0 < cells g n) : n = 0 ∨ 2 ≤ g.length := by
  have n1 := hg.n1
  by_cases h : n = 0
  · exact .inl h
  by_cases h2 : 2 ≤ g.length
  · exact .inr h2
  · have : (g.length : Int) - 1 = 0 := by omega
    have e : cells g (n : Int) = 0 := by unfold cells; rw [this, Int.toNat_natCast]; exact Int.zero_pow h
    omega
theorem cell_list {g : List (List Int)} (hg : Grp g) {n i : Nat} (hn : n ≤ 4) (hi : (i : Int) < cells g n) : impl_listOf.f g (n : Int) i = some (lst ((g.length : Int) - 1) n i) ∧ spec_l03List.f g (n : Int) i = some (lst ((g.length : Int) - 1) n i) := by
  have hb := cells_bd hg (d := (n : Int)) (by omega)
  exact listOf hg n (cells_two hg (by omega)) hn (by omega) (by omega)
theorem lst_grp {g : List (List Int)} (hg : Grp g) {n i : Nat} (hi : (i : Int) < cells g n) : AllIn g.length (lst ((g.length : Int) - 1) n i) ∧ NoUnit (lst ((g.length : Int) - 1) n i) := by
  have n1 := hg.n1
  have H : ∀ x ∈ lst ((g.length : Int) - 1) n i, 1 ≤ x ∧ x < g.length := by
    rcases cells_two hg (show 0 < cells g n by omega) with h | g2
    · subst h; intro x hx; simp [lst] at hx
    · intro x hx
      have := lst_in (b := (g.length : Int) - 1) (by omega) n i x hx
      omega
  exact ⟨allIn_of fun x hx => by have := H x hx; omega, fun j j0 j1 h => by have := H _ (rd_mem j0 j1); omega⟩
theorem build_step (G : Nat → Int) (n i : Nat) (h : i < n) : ((List.range i).map G ++ List.replicate (n - i) 0).set i (G i) = (List.range (i + 1)).map G ++ List.replicate (n - (i + 1)) 0 := by
  rw [List.set_append, if_neg (by simp), List.length_map, List.length_range, Nat.sub_self, show n - i = (n - (i + 1)) + 1 by omega, List.replicate_succ, List.set_cons_zero, List.range_succ, List.map_append]
  simp
theorem build_len (G : Nat → Int) (n i : Nat) (h : i ≤ n) : ((List.range i).map G ++ List.replicate (n - i) 0).length = n := by rw [List.length_append, List.length_map, List.length_range, List.length_replicate]; omega
theorem mod_mod {a m : Int} (m0 : 0 < m) (m1 : m ≤ 1000000) : Int.tmod (wrapI (Int.tmod a m + m)) m = a % m := by
  have t0 := Int.tmod_lt_of_pos a m0
  have t1 : -m < Int.tmod a m := Int.lt_tmod_of_pos a m0
  have hq := Int.mul_tdiv_add_tmod a m
  have h5 : (m * a.tdiv m + a.tmod m) % m = a.tmod m % m := by rw [Int.add_comm, Int.add_mul_emod_self_left]
  rw [hq] at h5
  rw [w64 (by omega) (by omega), Int.tmod_eq_emod_of_nonneg (show 0 ≤ Int.tmod a m + m by omega), Int.add_emod_right, ← h5]
theorem zero_ {g : List (List Int)} (hg : Grp g) {n : Nat} (hn : n ≤ 4) : impl_zero.f g (n : Int) = some ((n : Int), List.replicate (cells g n).toNat 0) := by
  have hb := cells_bd hg (d := (n : Int)) (by omega)
  have hc := cells_ hg (d := (n : Int)) (by omega) (by omega)
  rw [impl_zero.f_eq]
  ((with_reducible repeat (first | refine go_pos (by first | assumption | omega | rfl | exact B_pos (by omega)) ?_ | refine go_neg (by first | assumption | omega | decide | exact B_not (by omega)) ?_ | refine go_bind (by first | assumption) ?_ | dsimp only)); first | done | (with_reducible rfl) | simp (disch := omega) only [w64] | (show False; done))
theorem told {g : List (List Int)} (hg : Grp g) {m : Int} (m2 : 2 ≤ m) (m12 : m ≤ 12) {n : Nat} (hn : n ≤ 4) {F : List Int → Option Int} {G : Nat → Int} (hF : ∀ i : Nat, (i : Int) < cells g n → F (lst ((g.length : Int) - 1) n i) = some (G i)) :
    impl_told.f g m (n : Int) F = some ((n : Int), (List.range (cells g n).toNat).map fun i => G i % m) := by
  have hb := cells_bd hg (d := (n : Int)) (by omega)
  have hz := zero_ hg hn
  obtain ⟨N, hN⟩ : ∃ N, N = (cells g n).toNat := ⟨_, rfl⟩
  rw [impl_told.f_eq, hz, Option.bind_some, ← hN]
  have := up N (fun j => impl_told.l0 m (n : Int) F (N : Int) (j : Int) g 0 (n : Int) ((List.range j).map (fun i => G i % m) ++ List.replicate (N - j) 0)) (fun j h => by
    have hw : wrapI ((j : Int) + 1) = ((j + 1 : Nat) : Int) := by rw [w64 (by omega) (by omega)]; omega
    have f := hF j (by omega)
    have hl := (cell_list hg hn (i := j) (by omega)).1
    have l1 := build_len (fun i => G i % m) N j (by omega)
    have e := mod_mod (a := G j) (m := m) (by omega) (by omega)
    rw [← build_step (fun i => G i % m) N j h, impl_told.l0_eq, hw, hl, Option.bind_some, f, Option.bind_some, e, Int.toNat_natCast]
    ((with_reducible repeat (first | refine go_pos (by first | assumption | omega | rfl | exact B_pos (by omega)) ?_ | refine go_neg (by first | assumption | omega | decide | exact B_not (by omega)) ?_ | refine go_bind (by first | assumption) ?_ | dsimp only)); first | done | (with_reducible rfl) | simp (disch := omega) only [w64] | (show False; done)))
  simp only [Int.natCast_zero, List.range_zero, List.map_nil, List.nil_append, Nat.sub_zero, Nat.sub_self, List.replicate_zero, List.append_nil] at this
  simp only [List.length_replicate]
  rw [this, impl_told.l0_eq]
  ((with_reducible repeat (first | refine go_pos (by first | assumption | omega | rfl | exact B_pos (by omega)) ?_ | refine go_neg (by first | assumption | omega | decide | exact B_not (by omega)) ?_ | refine go_bind (by first | assumption) ?_ | dsimp only)); first | done | (with_reducible rfl) | simp (disch := omega) only [w64] | (show False; done))
end Go.Proofs.Ytpppnoliogdkiaa.V
set_option linter.unusedVariables false
set_option linter.unusedSimpArgs false
set_option maxHeartbeats 2000000
set_option maxRecDepth 20000
namespace Go.Proofs.Ytpppnoliogdkiaa.V
open Go.RowKit Go.Proofs.Ytpppnoliogdkiaa.D Go.Proofs.Ytpppnoliogdkiaa.P
def join2 (g : List (List Int)) (xs : List Int) (j : Nat) : List Int := (xs.take j ++ [T g (rd xs j) (rd xs (j + 1 : Nat))]) ++ xs.drop (j + 2)
noncomputable def bsum (g : List (List Int)) (u v xs : List Int) : Nat → Int × Int
  | 0 => (rd u (rd xs 0) * At g v (xs.drop 1), -1)
  | j + 1 => ((bsum g u v xs j).1 + (bsum g u v xs j).2 * At g v (join2 g xs j), 0 - (bsum g u v xs j).2)
noncomputable def Bd (g : List (List Int)) (u v xs : List Int) (d : Nat) : Int := (bsum g u v xs d).1 + (bsum g u v xs d).2 * At g v (xs.take d)
theorem join2_in {g : List (List Int)} (hg : Grp g) {xs : List Int} (hx : AllIn g.length xs) {j : Nat} (hj : j + 1 < xs.length) : AllIn g.length (join2 g xs j) ∧ (join2 g xs j).length + 1 = xs.length := by
  obtain ⟨a0, a1⟩ := hx j (by omega) (by omega)
  obtain ⟨b0, b1⟩ := hx (j + 1 : Nat) (by omega) (by omega)
  obtain ⟨t0, t1⟩ := hg.ent _ _ a0 a1 b0 b1
  refine ⟨AllIn.append (AllIn.append (hx.take j) (allIn_one t0 t1)) (hx.drop _), ?_⟩
  simp only [join2, List.length_append, List.length_take, List.length_drop, List.length_singleton]
  omega
theorem bsum_bd {g : List (List Int)} (hg : Grp g) {m : Int} {u v xs : List Int} {d : Nat} (hm : Mdl g m u) (hc : Co g m d v) (hx : AllIn g.length xs) (hl : xs.length = d + 1) :
    ∀ j, j ≤ d → (-1000000 - 12 * (j : Int) ≤ (bsum g u v xs j).1 ∧ (bsum g u v xs j).1 ≤ 1000000 + 12 * (j : Int)) ∧ ((bsum g u v xs j).2 = 1 ∨ (bsum g u v xs j).2 = -1) := by
  have m2 := hm.m2; have m12 := hm.m12
  obtain ⟨x0, x1⟩ := hx 0 (by omega) (by omega)
  intro j
  induction j with
  | zero =>
    intro _
    have ha := At_bd hg (by omega) hc (hx.drop 1) (by rw [List.length_drop, hl]; simp)
    obtain ⟨c0, c1⟩ := small_prod hm x0 x1 ha.1 ha.2
    rw [show bsum g u v xs 0 = (rd u (rd xs 0) * At g v (xs.drop 1), -1) from rfl]
    exact ⟨⟨by dsimp only; omega, by dsimp only; omega⟩, .inr rfl⟩
  | succ j ih =>
    intro hj
    obtain ⟨⟨h1, h2⟩, h3⟩ := ih (by omega)
    obtain ⟨k1, k2⟩ := join2_in hg hx (j := j) (by omega)
    have ha := At_bd hg (by omega) hc k1 (by omega)
    simp only [bsum]
    rcases h3 with h3 | h3 <;> rw [h3] <;> refine ⟨⟨by omega, by omega⟩, ?_⟩
    · exact .inr rfl
    · exact .inl rfl
theorem bsum_w {g : List (List Int)} (hg : Grp g) {m : Int} {u v xs ys : List Int} {d : Nat} (hm : Mdl g m u) (hc : Co g m d v) (hx : AllIn g.length xs) (hl : xs.length = d + 1) {j : Nat} (hj : j ≤ d) (hy : AllIn g.length ys) (hyl : ys.length = d) :
    wrapI ((bsum g u v xs j).1 + wrapI ((bsum g u v xs j).2 * At g v ys)) = (bsum g u v xs j).1 + (bsum g u v xs j).2 * At g v ys ∧ wrapI (0 - (bsum g u v xs j).2) = 0 - (bsum g u v xs j).2 ∧ -2000000 ≤ (bsum g u v xs j).1 + (bsum g u v xs j).2 * At g v ys ∧ (bsum g u v xs j).1 + (bsum g u v xs j).2 * At g v ys ≤ 2000000 := by
  have m2 := hm.m2; have m12 := hm.m12; have d3 := hc.1.2
  obtain ⟨⟨s1, s2⟩, s3⟩ := bsum_bd hg hm hc hx hl j hj
  have hb := At_bd hg (by omega) hc hy (by omega)
  have p1 : -100 ≤ (bsum g u v xs j).2 * At g v ys ∧ (bsum g u v xs j).2 * At g v ys ≤ 100 := by rcases s3 with s3 | s3 <;> rw [s3] <;> omega
  rw [w64 (x := (bsum g u v xs j).2 * At g v ys) (by omega) (by omega)]
  exact ⟨w64 (by omega) (by omega), w64 (by omega) (by omega), by omega, by omega⟩
theorem head_w {g : List (List Int)} (hg : Grp g) {m : Int} {u v xs : List Int} {d : Nat} (hm : Mdl g m u) (hc : Co g m d v) (hx : AllIn g.length xs) (hl : xs.length = d + 1) :
    wrapI (rd u (rd xs 0) * At g v (xs.drop 1)) = rd u (rd xs 0) * At g v (xs.drop 1) := by
  have m2 := hm.m2; have m12 := hm.m12
  obtain ⟨x0, x1⟩ := hx 0 (by omega) (by omega)
  have ha := At_bd hg (by omega) hc (hx.drop 1) (by rw [List.length_drop, hl]; simp)
  obtain ⟨c0, c1⟩ := small_prod hm x0 x1 ha.1 ha.2
  exact w64 (by omega) (by omega)
theorem Own_ (xs : List Int) (hl : xs.length ≤ 1048576) : spec_l01Own.f xs = some xs := by
  rw [spec_l01Own.f_eq, List.nil_append, show ([] : List Int).length = 0 from rfl]
  ((with_reducible repeat (first | refine go_pos (by first | assumption | omega | rfl | exact B_pos (by omega)) ?_ | refine go_neg (by first | assumption | omega | decide | exact B_not (by omega)) ?_ | refine go_bind (by first | assumption) ?_ | dsimp only)); first | done | (with_reducible rfl) | simp (disch := omega) only [w64] | (show False; done))
theorem w2n {j : Nat} (h : j < 4611686018427387904) : wrapI ((j : Int) + 2) = ((j + 2 : Nat) : Int) := by rw [w64 (by omega) (by omega)]; omega
theorem boundaryAt {g : List (List Int)} (hg : Grp g) {m : Int} {u v xs : List Int} {d : Nat} (hm : Mdl g m u) (hc : Co g m d v) (hx : AllIn g.length xs) (hl : xs.length = d + 1) :
    impl_boundaryAt.f g m u d v xs = some (Bd g u v xs d) := by
  have hlu := hm.len; have n8 := hg.n8; have d3 := hc.1.2
  obtain ⟨x0, x1⟩ := hx 0 (by omega) (by omega)
  have h0 := at_ hg hc (hx.drop 1) (by rw [List.length_drop, hl]; simp)
  have hat := at_ hg hc (hx.take d) (by rw [List.length_take, hl]; omega)
  have loop := up d (fun i => impl_boundaryAt.l0 xs (d : Int) (bsum g u v xs i).1 (bsum g u v xs i).2 (d : Int) (i : Int) g d v) (fun j hj => by
    obtain ⟨a0, a1⟩ := hx j (by omega) (by omega)
    obtain ⟨b0, b1⟩ := hx (j + 1 : Nat) (by omega) (by omega)
    obtain ⟨k1, k2⟩ := join2_in hg hx (j := j) (by omega)
    have hv : impl_Cochain_at.f d v g (xs.take j ++ [T g (rd xs j) (rd xs (j + 1 : Nat))] ++ xs.drop (j + 2)) = some (At g v (join2 g xs j)) := show impl_Cochain_at.f d v g (join2 g xs j) = _ from at_ hg hc k1 (by omega)
    have ht := times2 hg a0 a1 b0 b1
    obtain ⟨w3, w4, _, _⟩ := bsum_w hg hm hc hx hl (j := j) (by omega) k1 (by omega)
    have z1 : (xs.take j).length = j := by rw [List.length_take]; omega
    have z0 : ([] : List Int).length = 0 := rfl
    have z2 : ∀ y : Int, ([y] : List Int).length = 1 := fun _ => rfl
    have z3 : (xs.drop (j + 2)).length = xs.length - (j + 2) := List.length_drop
    rw [impl_boundaryAt.l0_eq, wn (j := j) (by omega), w2n (j := j) (by omega), Int.toNat_natCast, Int.toNat_natCast, z0, List.nil_append, z1, ht, Option.bind_some, z2]
    rw [List.length_append, z1, z2, z3, hv, Option.bind_some, w3, w4]
    (with_reducible repeat (first | refine go_pos (by first | assumption | omega | rfl | exact B_pos (by omega)) ?_ | refine go_neg (by first | assumption | omega | decide | exact B_not (by omega)) ?_ | refine go_bind (by first | assumption) ?_ | dsimp only))
    rfl)
  have wl : wrapI ((xs.length : Int) - 1) = (d : Int) := by rw [w64 (by omega) (by omega)]; omega
  obtain ⟨w3, _, _, _⟩ := bsum_w hg hm hc hx hl (j := d) (by omega) (hx.take d) (by rw [List.length_take]; omega)
  have e1 : xs.drop (1 : Int).toNat = xs.drop 1 := rfl
  rw [impl_boundaryAt.f_eq, e1, h0, Option.bind_some, wl, head_w hg hm hc hx hl]
  (with_reducible repeat (first | refine go_pos (by first | assumption | omega | rfl | exact B_pos (by omega)) ?_ | refine go_neg (by first | assumption | omega | decide | exact B_not (by omega)) ?_ | refine go_bind (by first | assumption) ?_ | dsimp only))
  refine loop.trans ?_
  rw [impl_boundaryAt.l0_eq, Int.toNat_natCast, hat, Option.bind_some, w3]
  (with_reducible repeat (first | refine go_pos (by first | assumption | omega | rfl | exact B_pos (by omega)) ?_ | refine go_neg (by first | assumption | omega | decide | exact B_not (by omega)) ?_ | refine go_bind (by first | assumption) ?_ | dsimp only))
  rfl
theorem Side_ {g : List (List Int)} (hg : Grp g) {m : Int} {u v xs : List Int} {d : Nat} (hm : Mdl g m u) (hc : Co g m d v) (hx : AllIn g.length xs) (hl : xs.length = d + 1) :
    spec_l03Side.f g m u d v xs = some (Bd g u v xs d % m) := by
  have hlu := hm.len; have n8 := hg.n8; have d3 := hc.1.2; have m2 := hm.m2; have m12 := hm.m12
  obtain ⟨x0, x1⟩ := hx 0 (by omega) (by omega)
  have h0 := At_ (u := u) hg hc (hx.drop 1) (by rw [List.length_drop, hl]; simp)
  have hat := At_ (u := u) hg hc (hx.take d) (by rw [List.length_take, hl]; omega)
  have loop := up d (fun i => spec_l03Side.l0 xs (d : Int) (bsum g u v xs i).1 (bsum g u v xs i).2 (i : Int) g m u d v) (fun j hj => by
    obtain ⟨a0, a1⟩ := hx j (by omega) (by omega)
    obtain ⟨b0, b1⟩ := hx (j + 1 : Nat) (by omega) (by omega)
    obtain ⟨k1, k2⟩ := join2_in hg hx (j := j) (by omega)
    have hv : spec_l03At.f g d v (xs.take j ++ [T g (rd xs j) (rd xs (j + 1 : Nat))] ++ xs.drop (j + 2)) = some (At g v (join2 g xs j)) := show spec_l03At.f g d v (join2 g xs j) = _ from At_ (u := u) hg hc k1 (by omega)
    have ra := hg.row _ a0 a1
    obtain ⟨w3, w4, _, _⟩ := bsum_w hg hm hc hx hl (j := j) (by omega) k1 (by omega)
    have z1 : (xs.take j).length = j := by rw [List.length_take]; omega
    have z2 : ∀ y : Int, ([y] : List Int).length = 1 := fun _ => rfl
    have z3 : (xs.drop (j + 2)).length = xs.length - (j + 2) := List.length_drop
    have ho := Own_ (xs.take j) (by omega)
    rw [spec_l03Side.l0_eq, wn (j := j) (by omega), w2n (j := j) (by omega), Int.toNat_natCast, Int.toNat_natCast, ho, Option.bind_some, z2]
    rw [List.length_append, z1, z2, z3, hv, Option.bind_some, w3, w4]
    (with_reducible repeat (first | refine go_pos (by first | assumption | omega | rfl | exact B_pos (by omega)) ?_ | refine go_neg (by first | assumption | omega | decide | exact B_not (by omega)) ?_ | refine go_bind (by first | assumption) ?_ | dsimp only))
    rfl)
  have wl : wrapI ((xs.length : Int) - 1) = (d : Int) := by rw [w64 (by omega) (by omega)]; omega
  obtain ⟨w3, _, b1, b2⟩ := bsum_w hg hm hc hx hl (j := d) (by omega) (hx.take d) (by rw [List.length_take]; omega)
  have e1 : xs.drop (1 : Int).toNat = xs.drop 1 := rfl
  have hmod := Mod_ (a := (bsum g u v xs d).1 + (bsum g u v xs d).2 * At g v (xs.take d)) (m := m) (by omega) (by omega) (by omega) (by omega)
  rw [spec_l03Side.f_eq, e1, h0, Option.bind_some, wl, head_w hg hm hc hx hl]
  (with_reducible repeat (first | refine go_pos (by first | assumption | omega | rfl | exact B_pos (by omega)) ?_ | refine go_neg (by first | assumption | omega | decide | exact B_not (by omega)) ?_ | refine go_bind (by first | assumption) ?_ | dsimp only))
  refine loop.trans ?_
  rw [spec_l03Side.l0_eq, Int.toNat_natCast, hat, Option.bind_some, w3, hmod]
  (with_reducible repeat (first | refine go_pos (by first | assumption | omega | rfl | exact B_pos (by omega)) ?_ | refine go_neg (by first | assumption | omega | decide | exact B_not (by omega)) ?_ | refine go_bind (by first | assumption) ?_ | dsimp only))
  rfl
noncomputable def bdV (g : List (List Int)) (u v : List Int) (d i : Nat) : Int := Bd g u v (lst ((g.length : Int) - 1) (d + 1) (i : Int)) d
noncomputable def bdL (g : List (List Int)) (m : Int) (u v : List Int) (d : Nat) : List Int := (List.range (cells g ((d + 1 : Nat) : Int)).toNat).map fun i => bdV g u v d i % m
theorem boundary_ {g : List (List Int)} (hg : Grp g) {m : Int} {u v : List Int} {d : Nat} (hm : Mdl g m u) (hc : Co g m d v) : impl_boundary.f g m u d v = some (((d + 1 : Nat) : Int), bdL g m u v d) := by
  have d3 := hc.1.2
  have hT := told hg hm.m2 hm.m12 (n := d + 1) (by omega) (F := fun z0 => (impl_boundary_1.f z0 g m u d v).map fun z => z) (G := bdV g u v d) (fun i hi => by
    obtain ⟨hx, _⟩ := lst_grp hg (n := d + 1) (i := i) hi
    have hll := lst_length ((g.length : Int) - 1) (d + 1) i
    have e : impl_boundary_1.f (lst ((g.length : Int) - 1) (d + 1) i) g m u d v = some (bdV g u v d i) := by
      rw [impl_boundary_1.f_eq, boundaryAt hg hm hc hx hll]; rfl
    show Option.map _ (impl_boundary_1.f _ g m u d v) = _
    rw [e]; rfl)
  rw [impl_boundary.f_eq, wn (j := d) (by omega), hT]
  rfl
end Go.Proofs.Ytpppnoliogdkiaa.V
set_option linter.unusedVariables false
set_option linter.unusedSimpArgs false
namespace Go.Proofs.Ytpppnoliogdkiaa.V
open Go.RowKit Go.Proofs.Ytpppnoliogdkiaa.D
abbrev Vc := Nat → Int
inductive Sp (m : Int) (W : Nat) (G : Vc → Prop) : Vc → Prop
  | nil : Sp m W G (fun _ => 0)
  | add {x g : Vc} (c : Int) : Sp m W G x → G g → Sp m W G (fun i => x i + c * g i)
  | alike {x y : Vc} : Sp m W G x → (∀ i, i < W → m ∣ x i - y i) → Sp m W G y
section
variable {m : Int} {W : Nat} {G G' : Vc → Prop} {x y : Vc}
theorem dvd_same {m a b : Int} (h : a = b) : m ∣ a - b := ⟨0, by omega⟩
theorem Sp.plus (hx : Sp m W G x) (hy : Sp m W G y) : Sp m W G (fun i => x i + y i) := by
  induction hy with
  | nil => exact .alike hx fun i _ => dvd_same (by dsimp only; omega)
  | add c _ hg ih => exact .alike (.add c ih hg) fun i _ => dvd_same (by dsimp only; omega)
  | alike _ h ih =>
    refine .alike ih fun i hi => ?_
    have := h i hi
    rwa [show ∀ a b c : Int, a + b - (a + c) = b - c from fun a b c => by omega]
theorem Sp.mul (c : Int) (hx : Sp m W G x) : Sp m W G (fun i => c * x i) := by
  induction hx with
  | nil => exact .alike .nil fun i _ => dvd_same (by simp)
  | add d _ hg ih => exact .alike (.add (c * d) ih hg) fun i _ => dvd_same (by rw [Int.mul_add, Int.mul_assoc])
  | alike _ h ih =>
    refine .alike ih fun i hi => ?_
    rw [← Int.mul_sub]
    exact Int.dvd_mul_of_dvd_right (h i hi)
theorem Sp.gen {g : Vc} (h : G g) : Sp m W G g := .alike (.add 1 .nil h) fun i _ => dvd_same (by omega)
theorem Sp.mono (h : ∀ g, G g → Sp m W G' g) (hx : Sp m W G x) : Sp m W G' x := by
  induction hx with
  | nil => exact .nil
  | add c _ hg ih => exact ih.plus ((h _ hg).mul c)
  | alike _ h' ih => exact .alike ih h'
theorem Sp.two {a b : Int} (hx : Sp m W G x) (hy : Sp m W G y) {z : Vc} (h : ∀ i, i < W → m ∣ a * x i + b * y i - z i) : Sp m W G z := .alike ((hx.mul a).plus (hy.mul b)) h
theorem Sp.dvd {d : Int} (hd : d ∣ m) {i : Nat} (hi : i < W) (h : ∀ g, G g → d ∣ g i) (hx : Sp m W G x) : d ∣ x i := by
  induction hx with
  | nil => exact Int.dvd_zero d
  | add c _ hg ih => exact Int.dvd_add ih (Int.dvd_mul_of_dvd_right (h _ hg))
  | alike _ h' ih =>
    have := Int.dvd_sub ih (Int.dvd_trans hd (h' i hi))
    rwa [show ∀ a b : Int, a - (a - b) = b from fun a b => by omega] at this
structure Sub (m : Int) (W : Nat) (M : Vc → Prop) : Prop where
  zero : M fun _ => 0
  lin : ∀ x y, M x → M y → ∀ c, M fun i => x i + c * y i
  alike : ∀ x y, M x → (∀ i, i < W → m ∣ x i - y i) → M y
theorem Sp.sub : Sub m W (Sp m W G) := ⟨.nil, fun _ _ hx hy c => hx.plus (hy.mul c), fun _ _ hx h => .alike hx h⟩
theorem Sub.all {M : Vc → Prop} (hM : Sub m W M) (h : ∀ g, G g → M g) (hx : Sp m W G x) : M x := by
  induction hx with
  | nil => exact hM.zero
  | add c _ hg ih => exact hM.lin _ _ ih (h _ hg) c
  | alike _ h' ih => exact hM.alike _ _ ih h'
end
def V (x : List Int) : Vc := fun i => rd x (i : Int)
structure PRow (m : Int) (W j : Nat) (r : List Int) : Prop where
  len : r.length = W
  ent : AllIn m r
  zero : ∀ i : Nat, i < j → rd r (i : Int) = 0
  pos : 0 < rd r (j : Int)
  lt : rd r (j : Int) < m
  dvd : rd r (j : Int) ∣ m
structure PTab (m : Int) (W : Nat) (p : List (List Int)) : Prop where
  len : p.length = W
  rws : ∀ j : Nat, j < W → row p (j : Int) = [] ∨ PRow m W j (row p (j : Int))
def Rws (W : Nat) (p : List (List Int)) (k : Nat) : Vc → Prop := fun g => ∃ j : Nat, k ≤ j ∧ j < W ∧ row p (j : Int) ≠ [] ∧ g = V (row p (j : Int))
def GT (W : Nat) (p st : List (List Int)) (k : Nat) : Vc → Prop := fun g => Rws W p k g ∨ ∃ s ∈ st, (∀ i : Nat, i < k → rd s (i : Int) = 0) ∧ g = V s
def How (m : Int) (W : Nat) (p : List (List Int)) (G : Nat → Vc → Prop) : Prop := ∀ j : Nat, j < W → row p (j : Int) ≠ [] → Sp m W (G (j + 1)) (fun i => m / rd (row p (j : Int)) (j : Int) * rd (row p (j : Int)) (i : Int))
structure Inv (m : Int) (W : Nat) (p st : List (List Int)) : Prop where
  tab : PTab m W p
  sts : ∀ s ∈ st, s.length = W ∧ AllIn m s
  how : How m W p (GT W p st)
def dv (m : Int) (p : List (List Int)) (j : Nat) : Int := if row p (j : Int) = [] then m else rd (row p (j : Int)) (j : Int)
structure Lead (m : Int) (W : Nat) (p : List (List Int)) (M : Vc → Prop) : Prop where
  tab : PTab m W p
  sub : Sub m W M
  own : ∀ j : Nat, j < W → row p (j : Int) ≠ [] → M (V (row p (j : Int)))
  lead : ∀ x, M x → ∀ j : Nat, j < W → (∀ i : Nat, i < j → m ∣ x i) → dv m p j ∣ x j
section
variable {m : Int} {W : Nat} {p : List (List Int)}
theorem PTab.prow (h : PTab m W p) {j : Nat} (hj : j < W) (hr : row p (j : Int) ≠ []) : PRow m W j (row p (j : Int)) := (h.rws j hj).resolve_left hr
theorem Rws.zero (h : PTab m W p) {k j : Nat} {g : Vc} (hg : Rws W p k g) (hj : j < k) : g j = 0 := by
  obtain ⟨i, h1, h2, h3, rfl⟩ := hg
  exact (h.prow h2 h3).zero j (by omega)
theorem Rws.part {k : Nat} (hk : k < W) (hr : row p (k : Int) ≠ []) {x : Vc} (hx : Sp m W (Rws W p k) x) : ∃ (c : Int) (w : Vc), Sp m W (Rws W p (k + 1)) w ∧ ∀ i, i < W → m ∣ c * V (row p (k : Int)) i + w i - x i := by
  induction hx with
  | nil => exact ⟨0, _, .nil, fun i _ => dvd_same (by simp)⟩
  | add d _ hg ih =>
    obtain ⟨c, w, h1, h2⟩ := ih
    obtain ⟨j, j1, j2, j3, rfl⟩ := hg
    by_cases e : j = k
    · subst e
      refine ⟨c + d, w, h1, fun i hi => ?_⟩
      have := h2 i hi
      rw [Int.add_mul]
      rwa [show ∀ a b c d : Int, a + b + c - (d + b) = a + c - d from fun a b c d => by omega]
    · refine ⟨c, _, .add d h1 ⟨j, by omega, j2, j3, rfl⟩, fun i hi => ?_⟩
      have := h2 i hi
      dsimp only
      rwa [show ∀ a b c d : Int, a + (b + c) - (d + c) = a + b - d from fun a b c d => by omega]
  | alike _ h ih =>
    obtain ⟨c, w, h1, h2⟩ := ih
    refine ⟨c, w, h1, fun i hi => ?_⟩
    have := Int.dvd_add (h2 i hi) (h i hi)
    rwa [show ∀ a b c : Int, a - b + (b - c) = a - c from fun a b c => by omega] at this
theorem Rws.next {k : Nat} (hr : row p (k : Int) = []) {x : Vc} (hx : Sp m W (Rws W p k) x) : Sp m W (Rws W p (k + 1)) x := hx.mono fun g ⟨j, j1, j2, j3, e⟩ => .gen ⟨j, by
  rcases Nat.lt_or_eq_of_le j1 with h | rfl
  · exact h
  · exact absurd hr j3, j2, j3, e⟩
theorem Rws.down (m0 : 0 < m) (ht : PTab m W p) (hh : How m W p (Rws W p)) {x : Vc} (hx : Sp m W (Rws W p 0) x) {j : Nat} (hj : j ≤ W) (hz : ∀ i : Nat, i < j → m ∣ x i) : ∀ k, k ≤ j → Sp m W (Rws W p k) x := by
  intro k
  induction k with
  | zero => exact fun _ => hx
  | succ k ih =>
    intro hk
    have h := ih (by omega)
    by_cases hr : row p (k : Int) = []
    · exact Rws.next hr h
    have hp := ht.prow (by omega) hr
    obtain ⟨c, w, h1, h2⟩ := Rws.part (by omega) hr h
    have hw : m ∣ w k := h1.dvd (Int.dvd_refl m) (by omega) fun g hg => by rw [Rws.zero ht hg (by omega)]; exact Int.dvd_zero m
    have hc : m ∣ c * rd (row p (k : Int)) (k : Int) := by
      have := Int.dvd_add (h2 k (by omega)) (hz k (by omega))
      rw [show ∀ a b c : Int, a + b - c + c = a + b from fun a b c => by omega] at this
      have := Int.dvd_sub this hw
      rwa [show ∀ a b : Int, a + b - b = a from fun a b => by omega] at this
    obtain ⟨q, hq⟩ := hp.dvd
    have hd := hp.pos
    have hmd : m / rd (row p (k : Int)) (k : Int) = q := by rw [hq]; exact Int.mul_ediv_cancel_left _ (by omega)
    obtain ⟨t, ht'⟩ : q ∣ c := by
      obtain ⟨t, ht'⟩ := hc
      refine ⟨t, Int.eq_of_mul_eq_mul_left (show rd (row p (k : Int)) (k : Int) ≠ 0 by omega) ?_⟩
      rw [Int.mul_comm, ht', hq, Int.mul_assoc]
    have hH := hh k (by omega) hr
    rw [hmd] at hH
    refine .alike ((hH.mul t).plus h1) fun i hi => ?_
    have := h2 i hi
    rwa [show t * (q * rd (row p (k : Int)) (i : Int)) = c * V (row p (k : Int)) i by rw [ht', ← Int.mul_assoc, Int.mul_comm t q]; rfl]
theorem lead_of (m0 : 0 < m) (ht : PTab m W p) (hh : How m W p (Rws W p)) {M : Vc → Prop} (hM : ∀ x, Sp m W (Rws W p 0) x ↔ M x) : Lead m W p M where
  tab := ht
  sub := by rw [show M = Sp m W (Rws W p 0) from funext fun x => propext (hM x).symm]; exact Sp.sub
  own := fun j hj hr => (hM _).1 (.gen ⟨j, Nat.zero_le _, hj, hr, rfl⟩)
  lead := fun x hx j hj hz => by
    have h := Rws.down m0 ht hh ((hM x).2 hx) (Nat.le_of_lt hj) hz j (Nat.le_refl _)
    unfold dv
    by_cases hr : row p (j : Int) = []
    · rw [if_pos hr]
      exact (Rws.next hr h).dvd (Int.dvd_refl m) hj fun g hg => by rw [Rws.zero ht hg (by omega)]; exact Int.dvd_zero m
    · rw [if_neg hr]
      have hp := ht.prow hj hr
      refine h.dvd hp.dvd hj fun g hg => ?_
      obtain ⟨i, i1, i2, i3, rfl⟩ := hg
      by_cases e : i = j
      · subst e; exact Int.dvd_refl _
      · have : V (row p (i : Int)) j = 0 := (ht.prow i2 i3).zero j (by omega)
        rw [this]; exact Int.dvd_zero _
theorem dv_bd (m0 : 0 < m) (ht : PTab m W p) {j : Nat} (hj : j < W) : 0 < dv m p j ∧ dv m p j ≤ m ∧ dv m p j ∣ m := by
  unfold dv
  by_cases hr : row p (j : Int) = []
  · rw [if_pos hr]; exact ⟨m0, Int.le_refl _, Int.dvd_refl _⟩
  · rw [if_neg hr]
    have hp := ht.prow hj hr
    exact ⟨hp.pos, by have := hp.lt; omega, hp.dvd⟩
theorem dvd_pos {a b : Int} (ha : 0 < a) (hb : 0 < b) (h : a ∣ b) : a ≤ b := Int.le_of_dvd hb h
theorem dv_same (m0 : 0 < m) {p' : List (List Int)} {M : Vc → Prop} (h : Lead m W p M) (h' : Lead m W p' M) {j : Nat} (hj : j < W) : dv m p j = dv m p' j := by
  have key : ∀ {p p' : List (List Int)}, Lead m W p M → Lead m W p' M → dv m p j ∣ dv m p' j := fun {p p'} h h' => by
    by_cases hr : row p' (j : Int) = []
    · rw [show dv m p' j = m from if_pos hr]; exact (dv_bd m0 h.tab hj).2.2
    · rw [show dv m p' j = rd (row p' (j : Int)) (j : Int) from if_neg hr]
      have hp := h'.tab.prow hj hr
      exact h.lead _ (h'.own j hj hr) j hj fun i hi => by rw [show V (row p' (j : Int)) i = 0 from hp.zero i hi]; exact Int.dvd_zero m
  have a := dvd_pos (dv_bd m0 h.tab hj).1 (dv_bd m0 h'.tab hj).1 (key h h')
  have b := dvd_pos (dv_bd m0 h'.tab hj).1 (dv_bd m0 h.tab hj).1 (key h' h)
  omega
structure Least (m : Int) (W : Nat) (p : List (List Int)) (M : Vc → Prop) (x y : List Int) : Prop where
  len : y.length = W
  ent : AllIn m y
  dif : M fun i => rd x (i : Int) - rd y (i : Int)
  lt : ∀ j : Nat, j < W → rd y (j : Int) < dv m p j
theorem Least.same (m0 : 0 < m) {p' : List (List Int)} {M : Vc → Prop} (h : Lead m W p M) (h' : Lead m W p' M) {x y y' : List Int} (hy : Least m W p M x y) (hy' : Least m W p' M x y') : y = y' := by
  have hd : M fun i => rd y (i : Int) - rd y' (i : Int) := by
    refine h.sub.alike _ _ (h.sub.lin _ _ hy'.dif hy.dif (-1)) fun i _ => dvd_same ?_
    omega
  have hall : ∀ n, n ≤ W → ∀ i : Nat, i < n → rd y (i : Int) = rd y' (i : Int) := by
    intro n
    induction n with
    | zero => intro _ i hi; omega
    | succ n ih =>
      intro hn i hi
      have ih := ih (by omega)
      by_cases e : i = n
      · subst e
        have hl := h.lead _ hd i (by omega) fun k hk => by rw [ih k hk]; exact ⟨0, by omega⟩
        have a1 := hy.lt i (by omega)
        have a2 := hy'.lt i (by omega)
        rw [← dv_same m0 h h' (show i < W by omega)] at a2
        obtain ⟨b1, _⟩ := hy.ent i (by omega) (by rw [hy.len]; omega)
        obtain ⟨b2, _⟩ := hy'.ent i (by omega) (by rw [hy'.len]; omega)
        have hd0 := (dv_bd m0 h.tab (show i < W by omega)).1
        obtain ⟨q, hq⟩ := hl
        have q0 : q = 0 := by
          rcases Int.lt_trichotomy q 0 with h | h | h
          · have := Int.mul_le_mul_of_nonneg_left (show q ≤ -1 by omega) (Int.le_of_lt hd0)
            omega
          · exact h
          · have := Int.mul_le_mul_of_nonneg_left (show 1 ≤ q by omega) (Int.le_of_lt hd0)
            omega
        rw [q0] at hq
        omega
      · exact ih i (by omega)
  refine ext_rd (by rw [hy.len, hy'.len]) fun i i0 i1 => ?_
  obtain ⟨n, rfl⟩ := Int.eq_ofNat_of_zero_le i0
  exact hall W (Nat.le_refl _) n (by have := hy.len; omega)
end
end Go.Proofs.Ytpppnoliogdkiaa.V
set_option linter.unusedVariables false
set_option linter.unusedSimpArgs false
set_option maxHeartbeats 2000000
set_option maxRecDepth 20000
namespace Go.Proofs.Ytpppnoliogdkiaa.V
open Go.RowKit Go.Proofs.Ytpppnoliogdkiaa.D Go.Proofs.Ytpppnoliogdkiaa.P
theorem ModW {a m : Int} (h0 : -4000000000000000000 ≤ a) (h1 : a ≤ 4000000000000000000) (m0 : 0 < m) (m1 : m ≤ 1000000) : spec_l01Mod.f a m = some (a % m) := by
  rw [spec_l01Mod.f_eq]
  have t0 := Int.tmod_lt_of_pos a m0
  have t1 : -m < Int.tmod a m := Int.lt_tmod_of_pos a m0
  have hq := Int.mul_tdiv_add_tmod a m
  have h5 : (m * a.tdiv m + a.tmod m) % m = a.tmod m % m := by rw [Int.add_comm, Int.add_mul_emod_self_left]
  rw [hq] at h5
  rw [w64 (by omega) (by omega), Int.tmod_eq_emod_of_nonneg (show 0 ≤ Int.tmod a m + m by omega), Int.add_emod_right, ← h5]
  ((with_reducible repeat (first | refine go_pos (by first | assumption | omega | rfl | exact B_pos (by omega)) ?_ | refine go_neg (by first | assumption | omega | decide | exact B_not (by omega)) ?_ | refine go_bind (by first | assumption) ?_ | dsimp only)); first | done | (with_reducible rfl) | simp (disch := omega) only [w64] | (show False; done))
def mix (m x : Int) (a : List Int) (y : Int) (b : List Int) : List Int := (List.range a.length).map fun (i : Nat) => (x * rd a (i : Int) + y * rd b (i : Int)) % m
theorem mix_length (m x : Int) (a : List Int) (y : Int) (b : List Int) : (mix m x a y b).length = a.length := by simp [mix]
theorem mix_rd {m x : Int} {a : List Int} {y : Int} {b : List Int} {i : Nat} (h : i < a.length) : rd (mix m x a y b) (i : Int) = (x * rd a (i : Int) + y * rd b (i : Int)) % m := by
  rw [rd_get (by rw [mix_length]; exact h)]
  simp [mix]
theorem mix_in {m x : Int} {a : List Int} {y : Int} {b : List Int} (m0 : 0 < m) : AllIn m (mix m x a y b) := by
  refine allIn_of fun z hz => ?_
  obtain ⟨i, _, rfl⟩ := List.mem_map.1 hz
  exact ⟨Int.emod_nonneg _ (by omega), Int.emod_lt_of_pos _ m0⟩
theorem mix_dvd {m x : Int} {a : List Int} {y : Int} {b : List Int} {i : Nat} (h : i < a.length) : m ∣ x * rd a (i : Int) + y * rd b (i : Int) - rd (mix m x a y b) (i : Int) := by
  rw [mix_rd h]
  exact Int.dvd_self_sub_emod
theorem mul_bd {x a B m : Int} (x0 : -B ≤ x) (x1 : x ≤ B) (a0 : 0 ≤ a) (a1 : a < m) (m1 : m ≤ 12) (B0 : 0 ≤ B) : -(12 * B) ≤ x * a ∧ x * a ≤ 12 * B := by
  have h1 : x * a ≤ B * a := Int.mul_le_mul_of_nonneg_right x1 a0
  have h2 : (-B) * a ≤ x * a := Int.mul_le_mul_of_nonneg_right x0 a0
  have h3 : B * a ≤ B * 12 := Int.mul_le_mul_of_nonneg_left (by omega) B0
  rw [Int.neg_mul] at h2
  constructor <;> omega
theorem set_take {xs ys : List Int} {j : Nat} (hl : ys.length = xs.length) (hj : j < xs.length) {z : Int} (hz : z = rd ys (j : Int)) : (ys.take j ++ xs.drop j).set j z = ys.take (j + 1) ++ xs.drop (j + 1) := by
  subst hz
  rw [rd_get (by omega)]
  apply List.ext_getElem
  · simp; omega
  · intro i h1 h2
    rw [List.getElem_set]
    by_cases e : j = i
    · subst e
      rw [if_pos rfl, List.getElem_append_left (by simp; omega)]
      simp
    · rw [if_neg e]
      by_cases e2 : i < j
      · rw [List.getElem_append_left (by simp; omega), List.getElem_append_left (by simp; omega)]
        simp
      · have : (List.take j ys).length = j := by simp; omega
        have : (List.take (j + 1) ys).length = j + 1 := by simp; omega
        rw [List.getElem_append_right (by omega), List.getElem_append_right (by omega)]
        simp only [List.getElem_drop]
        congr 1
        omega
theorem combined {m : Int} (m2 : 2 ≤ m) (m12 : m ≤ 12) {p : List (List Int)} {x y : Int} {a b : List Int} (ha : AllIn m a) (hb : AllIn m b) (hl : b.length = a.length) (hW : a.length ≤ 1000000) (x0 : -100000000000000 ≤ x) (x1 : x ≤ 100000000000000) (y0 : -100000000000000 ≤ y) (y1 : y ≤ 100000000000000) :
    impl_span_combined.f m p x a y b = some (mix m x a y b) := by
  have hz : (List.replicate a.length (0 : Int)).length = a.length := List.length_replicate
  have hml := mix_length m x a y b
  have loop := up a.length (fun j => impl_span_combined.l0 x y b a (a.length : Int) (j : Int) m p ((mix m x a y b).take j ++ (List.replicate a.length (0 : Int)).drop j)) (fun j hj => by
    obtain ⟨a0, a1⟩ := ha j (by omega) (by omega)
    obtain ⟨b0, b1⟩ := hb j (by omega) (by omega)
    have p1 := mul_bd x0 x1 a0 a1 m12 (by omega)
    have p2 := mul_bd y0 y1 b0 b1 m12 (by omega)
    have t0 := Int.tmod_lt_of_pos (x * rd a (j : Int) + y * rd b (j : Int)) (show 0 < m by omega)
    have t1 : -m < Int.tmod (x * rd a (j : Int) + y * rd b (j : Int)) m := Int.lt_tmod_of_pos _ (by omega)
    have hq := Int.mul_tdiv_add_tmod (x * rd a (j : Int) + y * rd b (j : Int)) m
    have h5 : (m * (x * rd a (j : Int) + y * rd b (j : Int)).tdiv m + (x * rd a (j : Int) + y * rd b (j : Int)).tmod m) % m = (x * rd a (j : Int) + y * rd b (j : Int)).tmod m % m := by rw [Int.add_comm, Int.add_mul_emod_self_left]
    rw [hq] at h5
    have hv : (wrapI ((wrapI (wrapI (x * rd a (j : Int)) + wrapI (y * rd b (j : Int)))).tmod m + m)).tmod m = rd (mix m x a y b) (j : Int) := by
      rw [w64 (x := x * rd a (j : Int)) (by omega) (by omega), w64 (x := y * rd b (j : Int)) (by omega) (by omega), w64 (x := x * rd a (j : Int) + y * rd b (j : Int)) (by omega) (by omega), w64 (by omega) (by omega), mix_rd hj, Int.tmod_eq_emod_of_nonneg (by omega), Int.add_emod_right, ← h5]
    have hs := set_take (xs := List.replicate a.length (0 : Int)) (ys := mix m x a y b) (by omega) (by omega) (j := j) hv
    have hll : (((mix m x a y b).take j ++ (List.replicate a.length (0 : Int)).drop j).length : Int) = a.length := by simp; omega
    rw [impl_span_combined.l0_eq, wn (j := j) (by omega), Int.toNat_natCast, hs, hll]
    ((with_reducible repeat (first | refine go_pos (by first | assumption | omega | rfl | exact B_pos (by omega)) ?_ | refine go_neg (by first | assumption | omega | decide | exact B_not (by omega)) ?_ | refine go_bind (by first | assumption) ?_ | dsimp only)); first | done | (with_reducible rfl) | simp (disch := omega) only [w64] | (show False; done)))
  rw [impl_span_combined.f_eq, Int.toNat_natCast]
  rw [List.take_zero, List.nil_append, List.drop_zero, Int.natCast_zero] at loop
  rw [loop, impl_span_combined.l0_eq, show (mix m x a y b).take a.length = mix m x a y b from List.take_of_length_le (by omega), List.drop_of_length_le (by simp), List.append_nil]
  ((with_reducible repeat (first | refine go_pos (by first | assumption | omega | rfl | exact B_pos (by omega)) ?_ | refine go_neg (by first | assumption | omega | decide | exact B_not (by omega)) ?_ | refine go_bind (by first | assumption) ?_ | dsimp only)); first | done | (with_reducible rfl) | simp (disch := omega) only [w64] | (show False; done))
theorem Mix_ {m : Int} (m2 : 2 ≤ m) (m12 : m ≤ 12) {x y : Int} {a b : List Int} (ha : AllIn m a) (hb : AllIn m b) (hl : b.length = a.length) (hW : a.length ≤ 1000000) (x0 : -100000000000000 ≤ x) (x1 : x ≤ 100000000000000) (y0 : -100000000000000 ≤ y) (y1 : y ≤ 100000000000000) :
    spec_l04Mix.f a b x y m = some (mix m x a y b) := by
  have hz : (List.replicate a.length (0 : Int)).length = a.length := List.length_replicate
  have hml := mix_length m x a y b
  have loop := up a.length (fun j => spec_l04Mix.l0 a b x y m (j : Int) ((mix m x a y b).take j ++ (List.replicate a.length (0 : Int)).drop j)) (fun j hj => by
    obtain ⟨a0, a1⟩ := ha j (by omega) (by omega)
    obtain ⟨b0, b1⟩ := hb j (by omega) (by omega)
    have p1 := mul_bd x0 x1 a0 a1 m12 (by omega)
    have p2 := mul_bd y0 y1 b0 b1 m12 (by omega)
    have hM := ModW (a := x * rd a (j : Int) + y * rd b (j : Int)) (m := m) (by omega) (by omega) (by omega) (by omega)
    have hs := set_take (xs := List.replicate a.length (0 : Int)) (ys := mix m x a y b) (by omega) (by omega) (j := j) (mix_rd hj).symm
    have hll : (((mix m x a y b).take j ++ (List.replicate a.length (0 : Int)).drop j).length : Int) = a.length := by simp; omega
    rw [spec_l04Mix.l0_eq, wn (j := j) (by omega), w64 (x := x * rd a (j : Int)) (by omega) (by omega), w64 (x := y * rd b (j : Int)) (by omega) (by omega), w64 (by omega) (by omega), hM, Option.bind_some, Int.toNat_natCast, hs, hll]
    ((with_reducible repeat (first | refine go_pos (by first | assumption | omega | rfl | exact B_pos (by omega)) ?_ | refine go_neg (by first | assumption | omega | decide | exact B_not (by omega)) ?_ | refine go_bind (by first | assumption) ?_ | dsimp only)); first | done | (with_reducible rfl) | simp (disch := omega) only [w64] | (show False; done)))
  rw [spec_l04Mix.f_eq, Int.toNat_natCast]
  rw [List.take_zero, List.nil_append, List.drop_zero, Int.natCast_zero] at loop
  rw [loop, spec_l04Mix.l0_eq, show (mix m x a y b).take a.length = mix m x a y b from List.take_of_length_le (by omega), List.drop_of_length_le (by simp), List.append_nil]
  ((with_reducible repeat (first | refine go_pos (by first | assumption | omega | rfl | exact B_pos (by omega)) ?_ | refine go_neg (by first | assumption | omega | decide | exact B_not (by omega)) ?_ | refine go_bind (by first | assumption) ?_ | dsimp only)); first | done | (with_reducible rfl) | simp (disch := omega) only [w64] | (show False; done))
end Go.Proofs.Ytpppnoliogdkiaa.V
set_option linter.unusedVariables false
set_option linter.unusedSimpArgs false
set_option maxHeartbeats 2000000
set_option maxRecDepth 20000
namespace Go.Proofs.Ytpppnoliogdkiaa.V
open Go.RowKit Go.Proofs.Ytpppnoliogdkiaa.D Go.Proofs.Ytpppnoliogdkiaa.P
theorem bez (a b : Nat) : ∃ s t : Int, s * a + t * b = ((Nat.gcd a b : Nat) : Int) := by
  induction a, b using Nat.gcd.induction with
  | H0 n => exact ⟨0, 1, by simp⟩
  | H1 a b ha ih =>
    obtain ⟨s, t, h⟩ := ih
    refine ⟨t - s * ((b / a : Nat) : Int), s, ?_⟩
    rw [Nat.gcd_rec a b, ← h]
    have h1 : (b : Int) = (a : Int) * ((b / a : Nat) : Int) + ((b % a : Nat) : Int) := by exact_mod_cast (Nat.div_add_mod b a).symm
    rw [Int.sub_mul, Int.mul_assoc, Int.mul_comm ((b / a : Nat) : Int) (a : Int)]
    have h2 : s * (b : Int) = s * ((a : Int) * ((b / a : Nat) : Int)) + s * ((b % a : Nat) : Int) := by rw [← Int.mul_add, ← h1]
    omega
theorem bez_mod {m a b : Int} (m0 : 0 < m) (a0 : 0 ≤ a) (b0 : 0 ≤ b) : ∃ x y : Int, (0 ≤ x ∧ x < m) ∧ (0 ≤ y ∧ y < m) ∧ m ∣ x * a + y * b - ((Int.gcd ((Int.gcd a b : Nat) : Int) m : Nat) : Int) := by
  obtain ⟨A, rfl⟩ := Int.eq_ofNat_of_zero_le a0
  obtain ⟨C, rfl⟩ := Int.eq_ofNat_of_zero_le b0
  obtain ⟨M, rfl⟩ := Int.eq_ofNat_of_zero_le (Int.le_of_lt m0)
  obtain ⟨s, t, h1⟩ := bez A C
  obtain ⟨s', t', h2⟩ := bez (Nat.gcd A C) M
  refine ⟨(s' * s) % M, (s' * t) % M, ⟨Int.emod_nonneg _ (by omega), Int.emod_lt_of_pos _ m0⟩, ⟨Int.emod_nonneg _ (by omega), Int.emod_lt_of_pos _ m0⟩, ?_⟩
  show (M : Int) ∣ (s' * s) % M * A + (s' * t) % M * C - ((Nat.gcd (Nat.gcd A C) M : Nat) : Int)
  have e1 : (s' * s) % (M : Int) = s' * s - M * (s' * s / M) := by have := Int.mul_ediv_add_emod (s' * s) M; omega
  have e2 : (s' * t) % (M : Int) = s' * t - M * (s' * t / M) := by have := Int.mul_ediv_add_emod (s' * t) M; omega
  rw [e1, e2]
  refine ⟨-(s' * s / M * A) - (s' * t / M * C) - t', ?_⟩
  have h3 : s' * (s * (A : Int) + t * (C : Int)) = s' * ((Nat.gcd A C : Nat) : Int) := by rw [h1]
  rw [Int.mul_add, ← Int.mul_assoc, ← Int.mul_assoc] at h3
  rw [Int.sub_mul, Int.sub_mul, Int.mul_sub, Int.mul_sub, Int.mul_neg, Int.mul_assoc (M : Int), Int.mul_assoc (M : Int), Int.mul_comm (M : Int) t']
  omega
theorem tmod_zero {a m : Int} : Int.tmod a m = 0 ↔ m ∣ a := ⟨Int.dvd_of_tmod_eq_zero, Int.tmod_eq_zero_of_dvd⟩
theorem bezout {m : Int} (m2 : 2 ≤ m) (m12 : m ≤ 12) {p : List (List Int)} {a b : Int} (a0 : 0 ≤ a) (a1 : a ≤ 12) (b0 : 0 ≤ b) (b1 : b ≤ 12) :
    ∃ x y : Int, impl_span_bezout.f m p a b = some (x, y, ((Int.gcd ((Int.gcd a b : Nat) : Int) m : Nat) : Int)) ∧ (0 ≤ x ∧ x < m) ∧ (0 ≤ y ∧ y < m) ∧ m ∣ x * a + y * b - ((Int.gcd ((Int.gcd a b : Nat) : Int) m : Nat) : Int) := by
  have hg1 := gcd_ a0 b0
  have hg2 := gcd_ (a := ((Int.gcd a b : Nat) : Int)) (b := m) (by omega) (by omega)
  have hd : 0 ≤ ((Int.gcd ((Int.gcd a b : Nat) : Int) m : Nat) : Int) ∧ ((Int.gcd ((Int.gcd a b : Nat) : Int) m : Nat) : Int) ≤ m := by
    constructor
    · omega
    · exact Int.le_of_dvd (by omega) (Int.gcd_dvd_right ..)
  obtain ⟨x0, y0, hx0, hy0, h0⟩ := bez_mod (m := m) (by omega) a0 b0
  rw [impl_span_bezout.f_eq, hg1, Option.bind_some, hg2, Option.bind_some]
  generalize ((Int.gcd ((Int.gcd a b : Nat) : Int) m : Nat) : Int) = d at hd h0 ⊢
  have inner : ∀ (n : Nat) (x y : Int), 0 ≤ x → x < m → 0 ≤ y → y + n = m → (∃ y', (0 ≤ y' ∧ y' < m) ∧ m ∣ x * a + y' * b - d ∧ impl_span_bezout.l1 a b d x m x m y m p = some (x, y', d)) ∨ ((∀ y', y ≤ y' → y' < m → ¬ m ∣ x * a + y' * b - d) ∧ impl_span_bezout.l1 a b d x m x m y m p = impl_span_bezout.l0 a b d m (x + 1) m p) := by
    intro n
    induction n with
    | zero =>
      intro x y hx hx' hy hn
      refine .inr ⟨fun y' h1 h2 => by omega, ?_⟩
      rw [impl_span_bezout.l1_eq, w64 (x := x + 1) (by omega) (by omega)]
      ((with_reducible repeat (first | refine go_pos (by first | assumption | omega | rfl | exact B_pos (by omega)) ?_ | refine go_neg (by first | assumption | omega | decide | exact B_not (by omega)) ?_ | refine go_bind (by first | assumption) ?_ | dsimp only)); first | done | (with_reducible rfl) | simp (disch := omega) only [w64] | (show False; done))
    | succ n ih =>
      intro x y hx hx' hy hn
      have p1 := mul_bd (x := x) (a := a) (B := 12) (m := 13) (by omega) (by omega) a0 (by omega)
      have q1 : 0 ≤ x * a := Int.mul_nonneg hx a0
      have q2 : x * a ≤ 12 * 12 := Int.mul_le_mul (by omega) a1 a0 (by omega)
      have q3 : 0 ≤ y * b := Int.mul_nonneg hy b0
      have q4 : y * b ≤ 12 * 12 := Int.mul_le_mul (by omega) b1 b0 (by omega)
      have hv : wrapI (wrapI (wrapI (x * a) + wrapI (y * b)) - d) = x * a + y * b - d := by
        rw [w64 (x := x * a) (by omega) (by omega), w64 (x := y * b) (by omega) (by omega), w64 (x := x * a + y * b) (by omega) (by omega), w64 (by omega) (by omega)]
      by_cases h : m ∣ x * a + y * b - d
      · refine .inl ⟨y, ⟨hy, by omega⟩, h, ?_⟩
        have ht := tmod_zero.2 h
        rw [impl_span_bezout.l1_eq, hv]
        ((with_reducible repeat (first | refine go_pos (by first | assumption | omega | rfl | exact B_pos (by omega)) ?_ | refine go_neg (by first | assumption | omega | decide | exact B_not (by omega)) ?_ | refine go_bind (by first | assumption) ?_ | dsimp only)); first | done | (with_reducible rfl) | simp (disch := omega) only [w64] | (show False; done))
      · have ht : ¬ Int.tmod (x * a + y * b - d) m = 0 := fun k => h (tmod_zero.1 k)
        have hl : impl_span_bezout.l1 a b d x m x m y m p = impl_span_bezout.l1 a b d x m x m (y + 1) m p := by
          rw [impl_span_bezout.l1_eq, hv, w64 (x := y + 1) (by omega) (by omega)]
          ((with_reducible repeat (first | refine go_pos (by first | assumption | omega | rfl | exact B_pos (by omega)) ?_ | refine go_neg (by first | assumption | omega | decide | exact B_not (by omega)) ?_ | refine go_bind (by first | assumption) ?_ | dsimp only)); first | done | (with_reducible rfl) | simp (disch := omega) only [w64] | (show False; done))
        rcases ih x (y + 1) hx hx' (by omega) (by omega) with ⟨y', h1, h2, h3⟩ | ⟨h1, h2⟩
        · exact .inl ⟨y', h1, h2, hl.trans h3⟩
        · refine .inr ⟨fun y' k1 k2 => ?_, hl.trans h2⟩
          by_cases e : y' = y
          · rw [e]; exact h
          · exact h1 y' (by omega) k2
  have outer : ∀ (n : Nat) (x : Int), 0 ≤ x → x + n = m → x ≤ x0 → ∃ x' y', impl_span_bezout.l0 a b d m x m p = some (x', y', d) ∧ (0 ≤ x' ∧ x' < m) ∧ (0 ≤ y' ∧ y' < m) ∧ m ∣ x' * a + y' * b - d := by
    intro n
    induction n with
    | zero => intro x hx hn hx0'; omega
    | succ n ih =>
      intro x hx hn hx0'
      have hl : impl_span_bezout.l0 a b d m x m p = impl_span_bezout.l1 a b d x m x m 0 m p := by
        rw [impl_span_bezout.l0_eq]
        ((with_reducible repeat (first | refine go_pos (by first | assumption | omega | rfl | exact B_pos (by omega)) ?_ | refine go_neg (by first | assumption | omega | decide | exact B_not (by omega)) ?_ | refine go_bind (by first | assumption) ?_ | dsimp only)); first | done | (with_reducible rfl) | simp (disch := omega) only [w64] | (show False; done))
      rw [hl]
      rcases inner m.toNat x 0 hx (by omega) (by omega) (by omega) with ⟨y', h1, h2, h3⟩ | ⟨h1, h2⟩
      · exact ⟨x, y', h3, ⟨hx, by omega⟩, h1, h2⟩
      · rw [h2]
        refine ih (x + 1) (by omega) (by omega) ?_
        by_cases e : x = x0
        · exact absurd (e ▸ h0) (h1 y0 hy0.1 hy0.2)
        · omega
  exact outer m.toNat 0 (by omega) (by omega) hx0.1
theorem Bezout_ {a b : Int} (a0 : 0 ≤ a) (a1 : a ≤ 12) (b0 : 0 ≤ b) (b1 : b ≤ 12) :
    ∃ s t : Int, spec_l04Bezout.f a b = some (((Int.gcd a b : Nat) : Int), s, t) ∧ s * a + t * b = ((Int.gcd a b : Nat) : Int) ∧ (-100000000000000 ≤ s ∧ s ≤ 100000000000000) ∧ (-100000000000000 ≤ t ∧ t ≤ 100000000000000) := by
  have key : ∀ (k : Nat) (x y : Nat) (s t u v K : Int), x ≤ 12 → y ≤ 12 → y ≤ k → (-K ≤ s ∧ s ≤ K) → (-K ≤ t ∧ t ≤ K) → (-K ≤ u ∧ u ≤ K) → (-K ≤ v ∧ v ≤ K) → 0 ≤ K → K * 13 ^ k ≤ 100000000000000 → s * a + t * b = x → u * a + v * b = y →
      ∃ s' t' : Int, spec_l04Bezout.l0 (x : Int) (y : Int) s t u v = some (((Nat.gcd x y : Nat) : Int), s', t') ∧ s' * a + t' * b = ((Nat.gcd x y : Nat) : Int) ∧ (-100000000000000 ≤ s' ∧ s' ≤ 100000000000000) ∧ (-100000000000000 ≤ t' ∧ t' ≤ 100000000000000) := by
    intro k
    induction k with
    | zero =>
      intro x y s t u v K hx hy12 hy hs ht hu hv hK hKk h1 h2
      obtain rfl : y = 0 := by omega
      rw [Int.pow_zero, Int.mul_one] at hKk
      refine ⟨s, t, ?_, by rw [Nat.gcd_zero_right]; exact h1, by omega, by omega⟩
      rw [spec_l04Bezout.l0_eq, Nat.gcd_zero_right]
      ((with_reducible repeat (first | refine go_pos (by first | assumption | omega | rfl | exact B_pos (by omega)) ?_ | refine go_neg (by first | assumption | omega | decide | exact B_not (by omega)) ?_ | refine go_bind (by first | assumption) ?_ | dsimp only)); first | done | (with_reducible rfl) | simp (disch := omega) only [w64] | (show False; done))
    | succ k ih =>
      intro x y s t u v K hx hy12 hy hs ht hu hv hK hKk h1 h2
      have hpow : (1 : Int) ≤ 13 ^ k := Int.pow_pos (by decide)
      rw [Int.pow_succ, Int.mul_comm (13 ^ k) 13, ← Int.mul_assoc] at hKk
      have hK1 : K * 13 ≤ K * 13 * 13 ^ k := by
        have := Int.mul_le_mul_of_nonneg_left hpow (show 0 ≤ K * 13 by omega)
        rwa [Int.mul_one] at this
      by_cases e : y = 0
      · subst e
        refine ⟨s, t, ?_, by rw [Nat.gcd_zero_right]; exact h1, by omega, by omega⟩
        rw [spec_l04Bezout.l0_eq, Nat.gcd_zero_right]
        ((with_reducible repeat (first | refine go_pos (by first | assumption | omega | rfl | exact B_pos (by omega)) ?_ | refine go_neg (by first | assumption | omega | decide | exact B_not (by omega)) ?_ | refine go_bind (by first | assumption) ?_ | dsimp only)); first | done | (with_reducible rfl) | simp (disch := omega) only [w64] | (show False; done))
      · have hq : (x : Int).tdiv (y : Int) = ((x / y : Nat) : Int) := by rw [Int.tdiv_eq_ediv_of_nonneg (by omega)]; rfl
        have hq12 : x / y ≤ 12 := Nat.le_trans (Nat.div_le_self _ _) hx
        have hm := Nat.div_add_mod x y
        have hlt := Nat.mod_lt x (show 0 < y by omega)
        generalize x / y = Q at hq hq12 hm
        have hqy : (Q : Int) * (y : Int) = (x : Int) - ((x % y : Nat) : Int) := by
          have : (y : Int) * (Q : Int) + ((x % y : Nat) : Int) = (x : Int) := by exact_mod_cast hm
          rw [Int.mul_comm]; omega
        have bd : ∀ z : Int, (-K ≤ z ∧ z ≤ K) → -(12 * K) ≤ (Q : Int) * z ∧ (Q : Int) * z ≤ 12 * K := fun z hz => by
          have h1 : (Q : Int) * z ≤ (Q : Int) * K := Int.mul_le_mul_of_nonneg_left hz.2 (by omega)
          have h2 : (Q : Int) * (-K) ≤ (Q : Int) * z := Int.mul_le_mul_of_nonneg_left hz.1 (by omega)
          have h3 : (Q : Int) * K ≤ 12 * K := Int.mul_le_mul_of_nonneg_right (by omega) hK
          rw [Int.mul_neg] at h2
          omega
        have bu := bd u hu
        have bv := bd v hv
        have hmod : ((x % y : Nat) : Int) = (x : Int) - (Q : Int) * y := by omega
        obtain ⟨s', t', k1, k2, k3, k4⟩ := ih y (x % y) u v (s - (Q : Int) * u) (t - (Q : Int) * v) (K * 13) (by omega) (by omega) (by omega) ⟨by omega, by omega⟩ ⟨by omega, by omega⟩ ⟨by omega, by omega⟩ ⟨by omega, by omega⟩ (by omega) hKk h2 (by
          rw [Int.sub_mul, Int.sub_mul, hmod, ← h1, ← h2, Int.mul_add, Int.mul_assoc, Int.mul_assoc]
          omega)
        have hgc : Nat.gcd y (x % y) = Nat.gcd x y := by rw [Nat.gcd_comm x y, Nat.gcd_rec y x, Nat.gcd_comm]
        rw [hgc] at k1 k2
        refine ⟨s', t', ?_, k2, k3, k4⟩
        have w1 : wrapI (Q : Int) = (Q : Int) := w64 (by omega) (by omega)
        rw [spec_l04Bezout.l0_eq, hq, w1, hqy, w64 (x := (x : Int) - ((x % y : Nat) : Int)) (by omega) (by omega), w64 (x := (x : Int) - ((x : Int) - ((x % y : Nat) : Int))) (by omega) (by omega), w64 (x := (Q : Int) * u) (by omega) (by omega), w64 (x := (Q : Int) * v) (by omega) (by omega), w64 (x := s - (Q : Int) * u) (by omega) (by omega), w64 (x := t - (Q : Int) * v) (by omega) (by omega), show (x : Int) - ((x : Int) - ((x % y : Nat) : Int)) = ((x % y : Nat) : Int) by omega]
        (with_reducible repeat (first | refine go_pos (by first | assumption | omega | rfl | exact B_pos (by omega)) ?_ | refine go_neg (by first | assumption | omega | decide | exact B_not (by omega)) ?_ | refine go_bind (by first | assumption) ?_ | dsimp only))
        exact k1
  obtain ⟨A, rfl⟩ := Int.eq_ofNat_of_zero_le a0
  obtain ⟨C, rfl⟩ := Int.eq_ofNat_of_zero_le b0
  rw [spec_l04Bezout.f_eq]
  exact key 12 A C 1 0 0 1 1 (by omega) (by omega) (by omega) (by omega) (by omega) (by omega) (by omega) (by omega) (by decide) (by omega) (by omega)
theorem unit_tab : ∀ m : Nat, m ≤ 12 → ∀ x : Nat, x < m → 0 < x → ((List.range 13).any fun u => decide (1 ≤ u) && decide (Nat.gcd u m = 1) && decide (x * u % m = Nat.gcd x m % m)) = true := by decide
theorem inv_tab : ∀ m : Nat, m ≤ 12 → ∀ u : Nat, u ≤ 12 → 2 ≤ m → Nat.gcd u m = 1 → ((List.range 13).any fun v => decide (u * v % m = 1)) = true := by decide
theorem unit_inv {m u : Int} (m2 : 2 ≤ m) (m12 : m ≤ 12) (u0 : 0 ≤ u) (u1 : u ≤ 12) (h : Int.gcd u m = 1) : ∃ v : Int, m ∣ u * v - 1 := by
  obtain ⟨M, rfl⟩ := Int.eq_ofNat_of_zero_le (show 0 ≤ m by omega)
  obtain ⟨U, rfl⟩ := Int.eq_ofNat_of_zero_le u0
  have := inv_tab M (by omega) U (by omega) (by omega) (by simpa [Int.gcd] using h)
  obtain ⟨v, _, hv⟩ := List.any_eq_true.1 this
  have hv := of_decide_eq_true hv
  refine ⟨(v : Int), ((U * v / M : Nat) : Int), ?_⟩
  have h1 := Nat.div_add_mod (U * v) M
  rw [hv] at h1
  have : (M : Int) * ((U * v / M : Nat) : Int) + 1 = (U : Int) * (v : Int) := by exact_mod_cast h1
  omega
theorem Unit_ {m : Int} (m2 : 2 ≤ m) (m12 : m ≤ 12) {own : List Int} (ho : AllIn m own) (hW : own.length ≤ 1000000) {j : Nat} (hj : j < own.length) (hx : ¬ rd own (j : Int) = 0) :
    ∃ u : Int, (1 ≤ u ∧ u ≤ 12) ∧ Int.gcd u m = 1 ∧ m ∣ u * rd own (j : Int) - ((Int.gcd (rd own (j : Int)) m : Nat) : Int) ∧ spec_l04Unit.f own (j : Int) m = some (mix m u own 0 own) := by
  obtain ⟨x0, x1⟩ := ho j (by omega) (by omega)
  have hG := Gcd_ (a := rd own (j : Int)) (b := m) (by omega) (by omega) (by omega) (by omega)
  rw [spec_l04Unit.f_eq]
  have hex : ∃ u : Nat, 1 ≤ u ∧ u ≤ 12 ∧ Int.gcd (u : Int) m = 1 ∧ (rd own (j : Int) * u) % m = ((Int.gcd (rd own (j : Int)) m : Nat) : Int) % m := by
    obtain ⟨X, hX⟩ := Int.eq_ofNat_of_zero_le x0
    obtain ⟨M, rfl⟩ := Int.eq_ofNat_of_zero_le (show 0 ≤ m by omega)
    have := unit_tab M (by omega) X (by omega) (by omega)
    obtain ⟨u, hu1, hu2⟩ := List.any_eq_true.1 this
    have hu1 := List.mem_range.1 hu1
    simp only [Bool.and_eq_true, decide_eq_true_eq] at hu2
    refine ⟨u, hu2.1.1, by omega, by simpa [Int.gcd] using hu2.1.2, ?_⟩
    rw [hX]
    have h2 := hu2.2
    have e : Int.gcd (X : Int) (M : Int) = Nat.gcd X M := by simp [Int.gcd]
    rw [e]
    exact_mod_cast h2
  obtain ⟨u0, u1, u2, u3, u4⟩ := hex
  have hd : 0 < ((Int.gcd (rd own (j : Int)) m : Nat) : Int) ∧ ((Int.gcd (rd own (j : Int)) m : Nat) : Int) < m := by
    have h1 : ((Int.gcd (rd own (j : Int)) m : Nat) : Int) ≤ rd own (j : Int) := Int.le_of_dvd (by omega) (Int.gcd_dvd_left ..)
    have h2 : 0 < Int.gcd (rd own (j : Int)) m := Int.gcd_pos_of_ne_zero_left _ hx
    omega
  generalize ((Int.gcd (rd own (j : Int)) m : Nat) : Int) = d at hd u4 hG ⊢
  have hdm : d.tmod m = d := by rw [Int.tmod_eq_emod_of_nonneg (by omega), Int.emod_eq_of_lt (by omega) (by omega)]
  rw [Int.emod_eq_of_lt (a := d) (by omega) (by omega)] at u4
  have loop : ∀ (n u : Nat), 1 ≤ u → u + n = u0 → ∃ u' : Int, (1 ≤ u' ∧ u' ≤ 12) ∧ Int.gcd u' m = 1 ∧ m ∣ u' * rd own (j : Int) - d ∧ spec_l04Unit.l0 own (j : Int) m d (u : Int) = some (mix m u' own 0 own) := by
    intro n
    induction n with
    | zero =>
      intro u hu hn
      obtain rfl : u = u0 := by omega
      have hg := Gcd_ (a := (u : Int)) (b := m) (by omega) (by omega) (by omega) (by omega)
      rw [u3] at hg
      have hmix := Mix_ m2 m12 (x := (u : Int)) (y := 0) ho ho rfl hW (by omega) (by omega) (by omega) (by omega)
      have p1 := mul_bd (x := (u : Int)) (a := rd own (j : Int)) (B := 12) (by omega) (by omega) x0 x1 m12 (by omega)
      have p2 : 0 ≤ (u : Int) * rd own (j : Int) := Int.mul_nonneg (by omega) x0
      have e1 : wrapI (rd own (j : Int) * (u : Int)) = (u : Int) * rd own (j : Int) := by rw [Int.mul_comm, w64 (by omega) (by omega)]
      have e2 : ((u : Int) * rd own (j : Int)).tmod m = d.tmod m := by rw [hdm, Int.tmod_eq_emod_of_nonneg p2, Int.mul_comm, u4]
      refine ⟨(u : Int), by omega, u3, ?_, ?_⟩
      · rw [← u4, Int.mul_comm]; exact Int.dvd_self_sub_emod
      · rw [spec_l04Unit.l0_eq, e1]
        ((with_reducible repeat (first | refine go_pos (by first | assumption | omega | rfl | exact B_pos (by omega)) ?_ | refine go_neg (by first | assumption | omega | decide | exact B_not (by omega)) ?_ | refine go_bind (by first | assumption) ?_ | dsimp only)); first | done | (with_reducible rfl) | simp (disch := omega) only [w64] | (show False; done))
    | succ n ih =>
      intro u hu hn
      have hg := Gcd_ (a := (u : Int)) (b := m) (by omega) (by omega) (by omega) (by omega)
      have p1 := mul_bd (x := (u : Int)) (a := rd own (j : Int)) (B := 12) (by omega) (by omega) x0 x1 m12 (by omega)
      have p2 : 0 ≤ (u : Int) * rd own (j : Int) := Int.mul_nonneg (by omega) x0
      have e1 : wrapI (rd own (j : Int) * (u : Int)) = (u : Int) * rd own (j : Int) := by rw [Int.mul_comm, w64 (by omega) (by omega)]
      by_cases h1 : Int.gcd (u : Int) m = 1
      · rw [h1] at hg
        by_cases h2 : ((u : Int) * rd own (j : Int)).tmod m = d.tmod m
        · have hmix := Mix_ m2 m12 (x := (u : Int)) (y := 0) ho ho rfl hW (by omega) (by omega) (by omega) (by omega)
          refine ⟨(u : Int), by omega, h1, ?_, ?_⟩
          · rw [hdm, Int.tmod_eq_emod_of_nonneg p2] at h2
            rw [← h2]; exact Int.dvd_self_sub_emod
          · rw [spec_l04Unit.l0_eq, e1]
            ((with_reducible repeat (first | refine go_pos (by first | assumption | omega | rfl | exact B_pos (by omega)) ?_ | refine go_neg (by first | assumption | omega | decide | exact B_not (by omega)) ?_ | refine go_bind (by first | assumption) ?_ | dsimp only)); first | done | (with_reducible rfl) | simp (disch := omega) only [w64] | (show False; done))
        · obtain ⟨u', k1, k2, k3, k4⟩ := ih (u + 1) (by omega) (by omega)
          refine ⟨u', k1, k2, k3, ?_⟩
          rw [spec_l04Unit.l0_eq, e1, wn (j := u) (by omega)]
          (with_reducible repeat (first | refine go_pos (by first | assumption | omega | rfl | exact B_pos (by omega)) ?_ | refine go_neg (by first | assumption | omega | decide | exact B_not (by omega)) ?_ | refine go_bind (by first | assumption) ?_ | dsimp only))
          exact k4
      · have h1' : ¬ ((Int.gcd (u : Int) m : Nat) : Int) = 1 := by omega
        obtain ⟨u', k1, k2, k3, k4⟩ := ih (u + 1) (by omega) (by omega)
        refine ⟨u', k1, k2, k3, ?_⟩
        rw [spec_l04Unit.l0_eq, wn (j := u) (by omega)]
        (with_reducible repeat (first | refine go_pos (by first | assumption | omega | rfl | exact B_pos (by omega)) ?_ | refine go_neg (by first | assumption | omega | decide | exact B_not (by omega)) ?_ | refine go_bind (by first | assumption) ?_ | dsimp only))
        exact k4
  obtain ⟨u', k1, k2, k3, k4⟩ := loop (u0 - 1) 1 (by omega) (by omega)
  refine ⟨u', k1, k2, k3, ?_⟩
  (with_reducible repeat (first | refine go_pos (by first | assumption | omega | rfl | exact B_pos (by omega)) ?_ | refine go_neg (by first | assumption | omega | decide | exact B_not (by omega)) ?_ | refine go_bind (by first | assumption) ?_ | dsimp only))
  exact k4
end Go.Proofs.Ytpppnoliogdkiaa.V
set_option linter.unusedVariables false
set_option linter.unusedSimpArgs false
namespace Go.Proofs.Ytpppnoliogdkiaa.V
open Go.RowKit Go.Proofs.Ytpppnoliogdkiaa.D
theorem row_set_same {p : List (List Int)} {j : Nat} {n : List Int} (h : j < p.length) : row (p.set j n) (j : Int) = n := by
  rw [row_get (by rw [List.length_set]; exact h)]
  simp
theorem row_set_ne {p : List (List Int)} {i j : Nat} {n : List Int} (h : i ≠ j) : row (p.set j n) (i : Int) = row p (i : Int) := by
  simp only [row, Int.toNat_natCast, List.getD_eq_getElem?_getD, List.getElem?_set, if_neg (show ¬ j = i from fun e => h e.symm)]
def Zb (k : Nat) (s : List Int) : Prop := ∀ i : Nat, i < k → rd s (i : Int) = 0
section
variable {m : Int} {W : Nat} {p p' st st' : List (List Int)} {M : Vc → Prop}
theorem PTab.set (h : PTab m W p) {j : Nat} {n : List Int} (hj : j < W) (hn : PRow m W j n) : PTab m W (p.set j n) where
  len := by rw [List.length_set]; exact h.len
  rws := fun i hi => by
    by_cases e : i = j
    · subst e; rw [row_set_same (by rw [h.len]; exact hj)]; exact .inr hn
    · rw [row_set_ne e]; exact h.rws i hi
theorem PRow.ne {j : Nat} {n : List Int} (h : PRow m W j n) : n ≠ [] := fun e => by
  have := h.pos
  rw [e] at this
  simp [rd] at this
def dsum (m : Int) (p : List (List Int)) : Nat → Int
  | 0 => 0
  | k + 1 => dsum m p k + dv m p k
theorem dv_set_same (hl : p.length = W) {j : Nat} {n : List Int} (hj : j < W) (hn : n ≠ []) : dv m (p.set j n) j = rd n (j : Int) := by
  unfold dv; rw [row_set_same (by omega), if_neg hn]
theorem dv_set_ne {i j : Nat} {n : List Int} (h : i ≠ j) : dv m (p.set j n) i = dv m p i := by
  unfold dv; rw [row_set_ne h]
theorem dsum_set (hl : p.length = W) {j : Nat} {n : List Int} (hj : j < W) : ∀ k, dsum m (p.set j n) k = dsum m p k + if j < k then dv m (p.set j n) j - dv m p j else 0 := by
  intro k
  induction k with
  | zero => simp [dsum]
  | succ k ih =>
    rw [dsum, dsum, ih]
    by_cases e : j = k
    · subst e
      rw [if_neg (Nat.lt_irrefl j), if_pos (Nat.lt_succ_self j)]; omega
    · rw [dv_set_ne (fun q => e q.symm)]
      by_cases h : j < k
      · rw [if_pos h, if_pos (by omega)]; omega
      · rw [if_neg h, if_neg (by omega)]; omega
theorem dsum_bd (m0 : 0 < m) (ht : PTab m W p) : ∀ k, k ≤ W → 0 ≤ dsum m p k ∧ dsum m p k ≤ m * k := by
  intro k
  induction k with
  | zero => intro _; simp [dsum]
  | succ k ih =>
    intro hk
    obtain ⟨a, b⟩ := ih (by omega)
    obtain ⟨c, d, _⟩ := dv_bd m0 ht (show k < W by omega)
    rw [dsum, show m * ((k + 1 : Nat) : Int) = m * (k : Int) + m by rw [Int.natCast_add, Int.mul_add]; simp]
    omega
structure Pst (m : Int) (W : Nat) (p st : List (List Int)) (M : Vc → Prop) : Prop where
  inv : Inv m W p st
  spn : ∀ x, Sp m W (GT W p st 0) x ↔ M x
theorem Pst.step (h : Pst m W p st M) (ht : PTab m W p') (hs : ∀ s ∈ st', s.length = W ∧ AllIn m s)
    (ha : ∀ k g, GT W p st k g → Sp m W (GT W p' st' k) g) (hb : ∀ g, GT W p' st' 0 g → Sp m W (GT W p st 0) g)
    (hn : ∀ j : Nat, j < W → row p' (j : Int) ≠ [] → row p' (j : Int) ≠ row p (j : Int) → Sp m W (GT W p' st' (j + 1)) (fun i => m / rd (row p' (j : Int)) (j : Int) * rd (row p' (j : Int)) (i : Int))) : Pst m W p' st' M where
  inv := ⟨ht, hs, fun j hj hr => by
    by_cases e : row p' (j : Int) = row p (j : Int)
    · have := h.inv.how j hj (by rw [← e]; exact hr)
      rw [e]
      exact this.mono (ha (j + 1))
    · exact hn j hj hr e⟩
  spn := fun x => by
    rw [← h.spn x]
    exact ⟨fun hx => hx.mono hb, fun hx => hx.mono (ha 0)⟩
theorem GT.zb {k : Nat} {s : List Int} (hs : s ∈ st) (hz : Zb k s) : GT W p st k (V s) := .inr ⟨s, hs, hz, rfl⟩
theorem Pst.drop {v : List Int} (h : Pst m W p (st ++ [v]) M) (hz : Zb W v) : Pst m W p st M := by
  refine h.step h.inv.tab (fun s hs => h.inv.sts s (List.mem_append_left _ hs)) (fun k g hg => ?_) (fun g hg => .gen ?_) (fun j _ _ e => absurd rfl e)
  · rcases hg with hg | ⟨s, hs, hk, rfl⟩
    · exact .gen (.inl hg)
    · rcases List.mem_append.1 hs with hs | hs
      · exact .gen (.inr ⟨s, hs, hk, rfl⟩)
      · rw [List.mem_singleton] at hs
        subst hs
        exact .alike .nil fun i hi => by rw [show V s i = 0 from hz i hi]; exact ⟨0, by omega⟩
  · rcases hg with hg | ⟨s, hs, hk, rfl⟩
    · exact .inl hg
    · exact .inr ⟨s, List.mem_append_left _ hs, hk, rfl⟩
theorem Pst.less {v w : List Int} {c : Int} (h : Pst m W p (st ++ [v]) M) {j : Nat} (hj : j < W) (hr : row p (j : Int) ≠ []) (hvj : rd v (j : Int) ≠ 0) (hw : w.length = W ∧ AllIn m w) (hz : Zb j w)
    (he : ∀ i : Nat, i < W → m ∣ 1 * rd v (i : Int) + (-c) * rd (row p (j : Int)) (i : Int) - rd w (i : Int)) : Pst m W p (st ++ [w]) M := by
  refine h.step h.inv.tab (fun s hs => ?_) (fun k g hg => ?_) (fun g hg => ?_) (fun j _ _ e => absurd rfl e)
  · rcases List.mem_append.1 hs with hs | hs
    · exact h.inv.sts s (List.mem_append_left _ hs)
    · rw [List.mem_singleton] at hs; subst hs; exact hw
  · rcases hg with hg | ⟨s, hs, hk, rfl⟩
    · exact .gen (.inl hg)
    · rcases List.mem_append.1 hs with hs | hs
      · exact .gen (.inr ⟨s, List.mem_append_left _ hs, hk, rfl⟩)
      · rw [List.mem_singleton] at hs
        subst hs
        have hkj : k ≤ j := by
          by_cases q : k ≤ j
          · exact q
          · exact absurd (hk j (by omega)) hvj
        refine Sp.two (a := 1) (b := c) (x := V w) (y := V (row p (j : Int))) (.gen (GT.zb (List.mem_append_right _ (List.mem_singleton.2 rfl)) fun i hi => hz i (by omega))) (.gen (.inl ⟨j, hkj, hj, hr, rfl⟩)) fun i hi => ?_
        obtain ⟨q, hq⟩ := he i hi
        refine ⟨-q, ?_⟩
        rw [Int.mul_neg, ← hq, Int.neg_mul]
        show 1 * rd w (i : Int) + c * rd (row p (j : Int)) (i : Int) - rd s (i : Int) = _
        omega
  · rcases hg with hg | ⟨s, hs, hk, rfl⟩
    · exact .gen (.inl hg)
    · rcases List.mem_append.1 hs with hs | hs
      · exact .gen (.inr ⟨s, List.mem_append_left _ hs, hk, rfl⟩)
      · rw [List.mem_singleton] at hs
        subst hs
        exact Sp.two (a := 1) (b := -c) (x := V v) (y := V (row p (j : Int))) (.gen (GT.zb (List.mem_append_right _ (List.mem_singleton.2 rfl)) fun i hi => by omega)) (.gen (.inl ⟨j, Nat.zero_le _, hj, hr, rfl⟩)) fun i hi => he i hi
theorem Pst.swap {v n : List Int} {ws : List (List Int)} (h : Pst m W p (st ++ [v]) M) {j : Nat} (hj : j < W) (hvj : rd v (j : Int) ≠ 0) (hn : PRow m W j n) (hws : ∀ w ∈ ws, (w.length = W ∧ AllIn m w) ∧ Zb (j + 1) w)
    (ho : row p (j : Int) ≠ [] → Sp m W (fun g => g = V n ∨ ∃ w ∈ ws, g = V w) (V (row p (j : Int))))
    (hv : Sp m W (fun g => g = V n ∨ ∃ w ∈ ws, g = V w) (V v))
    (hd : Sp m W (fun g => ∃ w ∈ ws, g = V w) (fun i => m / rd n (j : Int) * rd n (i : Int)))
    (hb : ∀ g, (g = V n ∨ ∃ w ∈ ws, g = V w) → Sp m W (fun g => g = V v ∨ (row p (j : Int) ≠ [] ∧ g = V (row p (j : Int)))) g) : Pst m W (p.set j n) (st ++ ws) M := by
  have hpl : j < p.length := by rw [h.inv.tab.len]; exact hj
  have hsame : row (p.set j n) (j : Int) = n := row_set_same hpl
  have new : ∀ k, k ≤ j → ∀ g, (g = V n ∨ ∃ w ∈ ws, g = V w) → Sp m W (GT W (p.set j n) (st ++ ws) k) g := fun k hk g hg => by
    rcases hg with rfl | ⟨w, hw, rfl⟩
    · exact .gen (.inl ⟨j, hk, hj, by rw [hsame]; exact hn.ne, by rw [hsame]⟩)
    · exact .gen (GT.zb (List.mem_append_right _ hw) fun i hi => (hws w hw).2 i (by omega))
  have old : ∀ g, (g = V v ∨ (row p (j : Int) ≠ [] ∧ g = V (row p (j : Int)))) → Sp m W (GT W p (st ++ [v]) 0) g := fun g hg => by
    rcases hg with rfl | ⟨hr, rfl⟩
    · exact .gen (GT.zb (List.mem_append_right _ (List.mem_singleton.2 rfl)) fun i hi => by omega)
    · exact .gen (.inl ⟨j, Nat.zero_le _, hj, hr, rfl⟩)
  refine h.step (h.inv.tab.set hj hn) (fun s hs => ?_) (fun k g hg => ?_) (fun g hg => ?_) (fun i hi hr e => ?_)
  · rcases List.mem_append.1 hs with hs | hs
    · exact h.inv.sts s (List.mem_append_left _ hs)
    · exact (hws s hs).1
  · rcases hg with ⟨i, hk, hi, hr, rfl⟩ | ⟨s, hs, hk, rfl⟩
    · by_cases e : i = j
      · subst e
        exact (ho hr).mono (new k hk)
      · exact .gen (.inl ⟨i, hk, hi, by rw [row_set_ne e]; exact hr, by rw [row_set_ne e]⟩)
    · rcases List.mem_append.1 hs with hs | hs
      · exact .gen (.inr ⟨s, List.mem_append_left _ hs, hk, rfl⟩)
      · rw [List.mem_singleton] at hs
        subst hs
        have hkj : k ≤ j := by
          by_cases q : k ≤ j
          · exact q
          · exact absurd (hk j (by omega)) hvj
        exact hv.mono (new k hkj)
  · rcases hg with ⟨i, hk, hi, hr, rfl⟩ | ⟨s, hs, hk, rfl⟩
    · by_cases e : i = j
      · subst e
        rw [hsame]
        exact (hb _ (.inl rfl)).mono old
      · rw [row_set_ne e] at hr ⊢
        exact .gen (.inl ⟨i, hk, hi, hr, rfl⟩)
    · rcases List.mem_append.1 hs with hs | hs
      · exact .gen (.inr ⟨s, List.mem_append_left _ hs, hk, rfl⟩)
      · exact (hb _ (.inr ⟨s, hs, rfl⟩)).mono old
  · by_cases q : i = j
    · subst q
      rw [hsame]
      exact hd.mono fun g hg => by
        obtain ⟨w, hw, rfl⟩ := hg
        exact .gen (GT.zb (List.mem_append_right _ hw) (hws w hw).2)
    · exact absurd (row_set_ne q) e
end
end Go.Proofs.Ytpppnoliogdkiaa.V
set_option linter.unusedVariables false
set_option linter.unusedSimpArgs false
set_option maxHeartbeats 4000000
set_option maxRecDepth 20000
namespace Go.Proofs.Ytpppnoliogdkiaa.V
open Go.RowKit Go.Proofs.Ytpppnoliogdkiaa.D Go.Proofs.Ytpppnoliogdkiaa.P
theorem indexFunc (v : List Int) (hl : v.length ≤ 1000000) : (Zb v.length v ∧ slices_IndexFunc_int64.f v (fun z0 => (impl_span_put_1.f z0).map fun z => z) = some (-1)) ∨
    ∃ j : Nat, j < v.length ∧ Zb j v ∧ ¬ rd v (j : Int) = 0 ∧ slices_IndexFunc_int64.f v (fun z0 => (impl_span_put_1.f z0).map fun z => z) = some (j : Int) := by
  rw [slices_IndexFunc_int64.f_eq]
  obtain ⟨F, hF⟩ : ∃ F : Int → Option Bool, F = fun z0 => (impl_span_put_1.f z0).map fun z => z := ⟨_, rfl⟩
  rw [← hF]
  have hf : ∀ x, F x = some (!decide (x = 0)) := fun x => by rw [hF]; show Option.map _ (impl_span_put_1.f x) = _; rw [impl_span_put_1.f_eq]; rfl
  suffices H : ∀ d k : Nat, k + d = v.length → Zb k v → (Zb v.length v ∧ slices_IndexFunc_int64.l0 v F (v.length : Int) (k : Int) = some (-1)) ∨
      ∃ j : Nat, j < v.length ∧ Zb j v ∧ ¬ rd v (j : Int) = 0 ∧ slices_IndexFunc_int64.l0 v F (v.length : Int) (k : Int) = some (j : Int) from
    H v.length 0 (by omega) (fun i hi => by omega)
  intro d
  induction d with
  | zero =>
    intro k hd hz
    obtain rfl : k = v.length := by omega
    refine .inl ⟨hz, ?_⟩
    (rw [slices_IndexFunc_int64.l0_eq])
    ((with_reducible repeat (first | refine go_pos (by first | assumption | omega | rfl | exact B_pos (by omega)) ?_ | refine go_neg (by first | assumption | omega | decide | exact B_not (by omega)) ?_ | refine go_bind (by first | assumption) ?_ | dsimp only)); first | done | (with_reducible rfl) | simp (disch := omega) only [w64] | (show False; done))
  | succ d ih =>
    intro k hd hz
    have hfk := hf (rd v (k : Int))
    by_cases h : rd v (k : Int) = 0
    · have st : slices_IndexFunc_int64.l0 v F (v.length : Int) (k : Int) = slices_IndexFunc_int64.l0 v F (v.length : Int) ((k + 1 : Nat) : Int) := by
        rw [h] at hfk
        rw [slices_IndexFunc_int64.l0_eq, wn (j := k) (by omega), h]
        (with_reducible repeat (first | refine go_pos (by first | assumption | omega | rfl | exact B_pos (by omega)) ?_ | refine go_neg (by first | assumption | omega | decide | exact B_not (by omega)) ?_ | refine go_bind (by first | assumption) ?_ | dsimp only))
      rw [st]
      refine ih (k + 1) (by omega) fun i hi => ?_
      by_cases e : i = k
      · rw [e]; exact h
      · exact hz i (by omega)
    · refine .inr ⟨k, by omega, hz, h, ?_⟩
      rw [slices_IndexFunc_int64.l0_eq]
      (with_reducible repeat (first | refine go_pos (by first | assumption | omega | rfl | exact B_pos (by omega)) ?_ | refine go_neg (by first | assumption | omega | decide | exact B_not (by omega)) ?_ | refine go_bind (by first | assumption) ?_ | dsimp only))
      rw [decide_eq_false h]
      rfl
theorem rd_zeros (n : Nat) (i : Int) : rd (List.replicate n (0 : Int)) i = 0 := by
  simp only [rd, List.getD_eq_getElem?_getD, List.getElem?_replicate]
  split <;> rfl
theorem zeros_in {m : Int} (m0 : 0 < m) (n : Nat) : AllIn m (List.replicate n (0 : Int)) := fun i _ _ => by rw [rd_zeros]; omega
theorem lin_back {m a b c e : Int} (h : m ∣ 1 * a + (-e) * b - c) : m ∣ 1 * c + e * b - a := by
  obtain ⟨q, hq⟩ := h
  refine ⟨-q, ?_⟩
  rw [Int.mul_neg, ← hq, Int.neg_mul]
  omega
theorem tdiv_neg {d e : Int} (d0 : 0 < d) : Int.tdiv (0 - d * e) d = -e := by
  rw [show 0 - d * e = d * (-e) by rw [Int.mul_neg]; omega]
  exact Int.mul_tdiv_cancel_left _ (by omega)
theorem last_row (st : List (List Int)) (v : List Int) : row (st ++ [v]) (st.length : Int) = v := by simp [row, List.getD_eq_getElem?_getD]
theorem take_init (st : List (List Int)) (v : List Int) : (st ++ [v]).take st.length = st := by simp
theorem quot_bd {d e x : Int} (d0 : 0 < d) (h : x = d * e) (x0 : 0 ≤ x) (x1 : x ≤ 12) : 0 ≤ e ∧ e ≤ 12 := by
  constructor
  · by_cases q : 0 ≤ e
    · exact q
    · have := Int.mul_le_mul_of_nonneg_left (show e ≤ -1 by omega) (Int.le_of_lt d0)
      omega
  · by_cases q : e ≤ 12
    · exact q
    · have h1 := Int.mul_le_mul_of_nonneg_right (show 1 ≤ d by omega) (show 0 ≤ e by omega)
      omega
theorem put_top {m : Int} (m2 : 2 ≤ m) (m12 : m ≤ 12) {W : Nat} (hW : W ≤ 100000) {M : Vc → Prop} : ∀ (n j : Nat) (v : List Int) (p st : List (List Int)), W ≤ j + n → Zb j v → Pst m W p (st ++ [v]) M → st.length ≤ 1000000000 →
    (impl_span_put.l0 m p (st ++ [v]) = impl_span_put.l0 m p st ∧ Pst m W p st M) ∨
    ∃ p' ws, impl_span_put.l0 m p (st ++ [v]) = impl_span_put.l0 m p' (st ++ ws) ∧ ws.length = 3 ∧ Pst m W p' (st ++ ws) M ∧ dsum m p' W < dsum m p W := by
  intro n
  induction n with
  | zero =>
    intro j v p st hj hz h hst
    obtain ⟨hvl, hva⟩ := h.inv.sts v (List.mem_append_right _ (List.mem_singleton.2 rfl))
    have e0 : (st ++ [v]).length = st.length + 1 := by simp
    have e1 : wrapI (((st ++ [v]).length : Int) - 1) = (st.length : Int) := by rw [w64 (by omega) (by omega)]; omega
    rcases indexFunc v (by omega) with ⟨hzz, hI⟩ | ⟨i, hi, hzi, hne, hI⟩
    · rw [hvl] at hzz
      refine .inl ⟨?_, h.drop hzz⟩
      rw [impl_span_put.l0_eq, e1, last_row, Int.toNat_natCast, take_init]
      ((with_reducible repeat (first | refine go_pos (by first | assumption | omega | rfl | exact B_pos (by omega)) ?_ | refine go_neg (by first | assumption | omega | decide | exact B_not (by omega)) ?_ | refine go_bind (by first | assumption) ?_ | dsimp only)); first | done | (with_reducible rfl) | simp (disch := omega) only [w64] | (show False; done))
    · exact absurd (hz i (by omega)) hne
  | succ n ih =>
    intro j v p st hj hz h hst
    obtain ⟨hvl, hva⟩ := h.inv.sts v (List.mem_append_right _ (List.mem_singleton.2 rfl))
    have e0 : (st ++ [v]).length = st.length + 1 := by simp
    have e1 : wrapI (((st ++ [v]).length : Int) - 1) = (st.length : Int) := by rw [w64 (by omega) (by omega)]; omega
    rcases indexFunc v (by omega) with ⟨hzz, hI⟩ | ⟨i, hi, hzi, hne, hI⟩
    · rw [hvl] at hzz
      refine .inl ⟨?_, h.drop hzz⟩
      rw [impl_span_put.l0_eq, e1, last_row, Int.toNat_natCast, take_init]
      ((with_reducible repeat (first | refine go_pos (by first | assumption | omega | rfl | exact B_pos (by omega)) ?_ | refine go_neg (by first | assumption | omega | decide | exact B_not (by omega)) ?_ | refine go_bind (by first | assumption) ?_ | dsimp only)); first | done | (with_reducible rfl) | simp (disch := omega) only [w64] | (show False; done))
    have hij : j ≤ i := by
      by_cases q : j ≤ i
      · exact q
      · exact absurd (hz i (by omega)) hne
    have hpl := h.inv.tab.len
    have hiW : i < W := by omega
    obtain ⟨v0, v1⟩ := hva i (by omega) (by omega)
    have swap : ∀ o : List Int, (row p (i : Int) = [] ∧ o = List.replicate v.length 0 ∨ row p (i : Int) ≠ [] ∧ o = row p (i : Int)) → (¬ rd o (i : Int) = 0 → ¬ Int.tmod (rd v (i : Int)) (rd o (i : Int)) = 0) →
        ∃ p' ws, impl_span_put.j1 v i o m p st = impl_span_put.l0 m p' (st ++ ws) ∧ ws.length = 3 ∧ Pst m W p' (st ++ ws) M ∧ dsum m p' W < dsum m p W := by
      intro o ho hnd
      have ol : o.length = W := by
        rcases ho with ⟨_, rfl⟩ | ⟨hr, rfl⟩
        · rw [List.length_replicate]; exact hvl
        · exact (h.inv.tab.prow hiW hr).len
      have oa : AllIn m o := by
        rcases ho with ⟨_, rfl⟩ | ⟨hr, rfl⟩
        · exact zeros_in (by omega) _
        · exact (h.inv.tab.prow hiW hr).ent
      have oz : Zb i o := by
        rcases ho with ⟨_, rfl⟩ | ⟨hr, rfl⟩
        · exact fun k _ => rd_zeros _ _
        · exact (h.inv.tab.prow hiW hr).zero
      obtain ⟨o0, o1⟩ := oa i (by omega) (by omega)
      obtain ⟨x, y, hbz, hx, hy, hxy⟩ := bezout m2 m12 (p := p) (a := rd o (i : Int)) (b := rd v (i : Int)) o0 (by omega) v0 (by omega)
      have dm : ((Int.gcd ((Int.gcd (rd o (i : Int)) (rd v (i : Int)) : Nat) : Int) m : Nat) : Int) ∣ m := Int.gcd_dvd_right ..
      have dg : ((Int.gcd ((Int.gcd (rd o (i : Int)) (rd v (i : Int)) : Nat) : Int) m : Nat) : Int) ∣ ((Int.gcd (rd o (i : Int)) (rd v (i : Int)) : Nat) : Int) := Int.gcd_dvd_left ..
      have dO := Int.dvd_trans dg (Int.gcd_dvd_left (a := rd o (i : Int)) (b := rd v (i : Int)))
      have dV := Int.dvd_trans dg (Int.gcd_dvd_right (a := rd o (i : Int)) (b := rd v (i : Int)))
      have d0 : 0 < ((Int.gcd ((Int.gcd (rd o (i : Int)) (rd v (i : Int)) : Nat) : Int) m : Nat) : Int) := by
        have : 0 < Int.gcd ((Int.gcd (rd o (i : Int)) (rd v (i : Int)) : Nat) : Int) m := Int.gcd_pos_of_ne_zero_right _ (by omega)
        omega
      generalize ((Int.gcd ((Int.gcd (rd o (i : Int)) (rd v (i : Int)) : Nat) : Int) m : Nat) : Int) = d at hbz hxy dm dO dV d0
      clear dg
      have dv1 : d ≤ rd v (i : Int) := Int.le_of_dvd (by omega) dV
      obtain ⟨eo, heo⟩ := dO
      obtain ⟨ev, hev⟩ := dV
      obtain ⟨eo0, eo1⟩ := quot_bd d0 heo o0 (by omega)
      obtain ⟨ev0, ev1⟩ := quot_bd d0 hev v0 (by omega)
      obtain ⟨md, hmd⟩ := dm
      obtain ⟨md0, md1⟩ := quot_bd d0 hmd (by omega) m12
      have hmdd : Int.tdiv m d = md := by rw [hmd]; exact Int.mul_tdiv_cancel_left _ (by omega)
      have hmde : m / d = md := by rw [hmd]; exact Int.mul_ediv_cancel_left _ (by omega)
      have c1 := combined m2 m12 (p := p) (x := x) (y := y) oa hva (by omega) (by omega) (by omega) (by omega) (by omega) (by omega)
      obtain ⟨nx, hnx⟩ : ∃ nx, nx = mix m x o y v := ⟨_, rfl⟩
      have nl : nx.length = W := by rw [hnx, mix_length, ol]
      have na : AllIn m nx := by rw [hnx]; exact mix_in (by omega)
      have nz : Zb i nx := fun k hk => by
        rw [hnx, mix_rd (by omega), oz k hk, hzi k hk]; simp
      have nd : rd nx (i : Int) = d := by
        rw [hnx, mix_rd (by omega)]
        have : (x * rd o (i : Int) + y * rd v (i : Int)) % m = d % m := by
          obtain ⟨q, hq⟩ := hxy
          rw [show x * rd o (i : Int) + y * rd v (i : Int) = d + m * q by omega, Int.add_mul_emod_self_left]
        rw [this, Int.emod_eq_of_lt (by omega) (by omega)]
      have nP : PRow m W i nx := ⟨nl, na, nz, by omega, by omega, by rw [nd]; exact ⟨md, hmd⟩⟩
      rw [← hnx] at c1
      have c2 := combined m2 m12 (p := p.set i nx) (x := 1) (y := -eo) oa na (by omega) (by omega) (by omega) (by omega) (by omega) (by omega)
      have c3 := combined m2 m12 (p := p.set i nx) (x := 1) (y := -ev) hva na (by omega) (by omega) (by omega) (by omega) (by omega) (by omega)
      have c4 := combined m2 m12 (p := p.set i nx) (x := md) (y := 0) na na rfl (by omega) (by omega) (by omega) (by omega) (by omega)
      have f1 : wrapI ((wrapI (0 - rd o (i : Int))).tdiv d) = -eo := by rw [w64 (x := 0 - rd o (i : Int)) (by omega) (by omega), heo, tdiv_neg d0, w64 (by omega) (by omega)]
      have f2 : wrapI ((wrapI (0 - rd v (i : Int))).tdiv d) = -ev := by rw [w64 (x := 0 - rd v (i : Int)) (by omega) (by omega), hev, tdiv_neg d0, w64 (by omega) (by omega)]
      have f3 : wrapI (Int.tdiv m d) = md := by rw [hmdd]; exact w64 (by omega) (by omega)
      have l3 : ∀ a b c : List Int, ([a, b, c] : List (List Int)).length = 3 := fun _ _ _ => rfl
      have hset : (p.set i nx).length = W := by rw [List.length_set]; exact hpl
      refine ⟨p.set i nx, [mix m 1 o (-eo) nx, mix m 1 v (-ev) nx, mix m md nx 0 nx], ?_, rfl, ?_, ?_⟩
      · rw [impl_span_put.j1_eq]
        by_cases q : rd o (i : Int) = 0
        · (with_reducible repeat (first | refine go_pos (by first | assumption | omega | rfl | exact B_pos (by omega)) ?_ | refine go_neg (by first | assumption | omega | decide | exact B_not (by omega)) ?_ | refine go_bind (by first | assumption) ?_ | dsimp only))
          rw [Int.toNat_natCast, f1]
          (with_reducible repeat (first | refine go_pos (by first | assumption | omega | rfl | exact B_pos (by omega)) ?_ | refine go_neg (by first | assumption | omega | decide | exact B_not (by omega)) ?_ | refine go_bind (by first | assumption) ?_ | dsimp only))
          rw [f2]
          (with_reducible repeat (first | refine go_pos (by first | assumption | omega | rfl | exact B_pos (by omega)) ?_ | refine go_neg (by first | assumption | omega | decide | exact B_not (by omega)) ?_ | refine go_bind (by first | assumption) ?_ | dsimp only))
          rw [f3]
          (with_reducible repeat (first | refine go_pos (by first | assumption | omega | rfl | exact B_pos (by omega)) ?_ | refine go_neg (by first | assumption | omega | decide | exact B_not (by omega)) ?_ | refine go_bind (by first | assumption) ?_ | dsimp only))
          rw [l3]
          (with_reducible repeat (first | refine go_pos (by first | assumption | omega | rfl | exact B_pos (by omega)) ?_ | refine go_neg (by first | assumption | omega | decide | exact B_not (by omega)) ?_ | refine go_bind (by first | assumption) ?_ | dsimp only))
        · have q2 := hnd q
          (with_reducible repeat (first | refine go_pos (by first | assumption | omega | rfl | exact B_pos (by omega)) ?_ | refine go_neg (by first | assumption | omega | decide | exact B_not (by omega)) ?_ | refine go_bind (by first | assumption) ?_ | dsimp only))
          rw [Int.toNat_natCast, f1]
          (with_reducible repeat (first | refine go_pos (by first | assumption | omega | rfl | exact B_pos (by omega)) ?_ | refine go_neg (by first | assumption | omega | decide | exact B_not (by omega)) ?_ | refine go_bind (by first | assumption) ?_ | dsimp only))
          rw [f2]
          (with_reducible repeat (first | refine go_pos (by first | assumption | omega | rfl | exact B_pos (by omega)) ?_ | refine go_neg (by first | assumption | omega | decide | exact B_not (by omega)) ?_ | refine go_bind (by first | assumption) ?_ | dsimp only))
          rw [f3]
          (with_reducible repeat (first | refine go_pos (by first | assumption | omega | rfl | exact B_pos (by omega)) ?_ | refine go_neg (by first | assumption | omega | decide | exact B_not (by omega)) ?_ | refine go_bind (by first | assumption) ?_ | dsimp only))
          rw [l3]
          (with_reducible repeat (first | refine go_pos (by first | assumption | omega | rfl | exact B_pos (by omega)) ?_ | refine go_neg (by first | assumption | omega | decide | exact B_not (by omega)) ?_ | refine go_bind (by first | assumption) ?_ | dsimp only))
      · have g0 : ∀ k : Nat, k < W → m ∣ 1 * rd o (k : Int) + (-eo) * rd nx (k : Int) - rd (mix m 1 o (-eo) nx) (k : Int) := fun k hk => mix_dvd (by omega)
        have g1 : ∀ k : Nat, k < W → m ∣ 1 * rd v (k : Int) + (-ev) * rd nx (k : Int) - rd (mix m 1 v (-ev) nx) (k : Int) := fun k hk => mix_dvd (by omega)
        have g2 : ∀ k : Nat, k < W → m ∣ md * rd nx (k : Int) + 0 * rd nx (k : Int) - rd (mix m md nx 0 nx) (k : Int) := fun k hk => mix_dvd (by omega)
        have zb : ∀ (a b : Int) (r : List Int), r.length = W → Zb i r → a * rd r (i : Int) + b * d = 0 ∨ a * rd r (i : Int) + b * d = m → Zb (i + 1) (mix m a r b nx) := fun a b r hr hz hab k hk => by
          rw [mix_rd (by omega)]
          by_cases e : k = i
          · subst e
            rw [nd]
            rcases hab with hab | hab <;> rw [hab]
            · exact Int.zero_emod m
            · exact Int.emod_self
          · rw [hz k (by omega), nz k (by omega)]; simp
        refine h.swap hiW hne nP (fun w hw => ?_) (fun hr => ?_) ?_ ?_ ?_
        · simp only [List.mem_cons, List.not_mem_nil, or_false] at hw
          rcases hw with rfl | rfl | rfl
          · exact ⟨⟨by rw [mix_length]; exact ol, mix_in (by omega)⟩, zb 1 (-eo) o ol oz (.inl (by rw [heo, Int.neg_mul, Int.mul_comm eo d]; omega))⟩
          · exact ⟨⟨by rw [mix_length]; exact hvl, mix_in (by omega)⟩, zb 1 (-ev) v hvl hzi (.inl (by rw [hev, Int.neg_mul, Int.mul_comm ev d]; omega))⟩
          · exact ⟨⟨by rw [mix_length]; exact nl, mix_in (by omega)⟩, zb md 0 nx nl nz (.inr (by rw [nd, hmd, Int.mul_comm md d]; omega))⟩
        · have ho' : o = row p (i : Int) := by
            rcases ho with ⟨e, _⟩ | ⟨_, e⟩
            · exact absurd e hr
            · exact e
          rw [← ho']
          exact Sp.two (a := 1) (b := eo) (x := V (mix m 1 o (-eo) nx)) (y := V nx) (.gen (.inr ⟨_, List.mem_cons_self .., rfl⟩)) (.gen (.inl rfl)) fun k hk => lin_back (g0 k hk)
        · exact Sp.two (a := 1) (b := ev) (x := V (mix m 1 v (-ev) nx)) (y := V nx) (.gen (.inr ⟨_, List.mem_cons_of_mem _ (List.mem_cons_self ..), rfl⟩)) (.gen (.inl rfl)) fun k hk => lin_back (g1 k hk)
        · refine .alike (.gen ⟨_, List.mem_cons_of_mem _ (List.mem_cons_of_mem _ (List.mem_cons_self ..)), rfl⟩) fun k hk => ?_
          obtain ⟨q, hq⟩ := g2 k hk
          refine ⟨-q, ?_⟩
          rw [nd, hmde, Int.mul_neg, ← hq]
          show rd (mix m md nx 0 nx) (k : Int) - md * rd nx (k : Int) = _
          omega
        · have hov : ∀ G : Vc → Prop, (row p (i : Int) ≠ [] → G (V (row p (i : Int)))) → Sp m W G (V o) := fun G hG => by
            rcases ho with ⟨_, rfl⟩ | ⟨hr, rfl⟩
            · exact .alike .nil fun k hk => by
                show m ∣ 0 - rd (List.replicate v.length (0 : Int)) (k : Int)
                rw [rd_zeros]; exact ⟨0, by omega⟩
            · exact .gen (hG hr)
          have ho2 := hov (fun g => g = V v ∨ (row p (i : Int) ≠ [] ∧ g = V (row p (i : Int)))) fun hr => .inr ⟨hr, rfl⟩
          have hn2 : Sp m W (fun g => g = V v ∨ (row p (i : Int) ≠ [] ∧ g = V (row p (i : Int)))) (V nx) := Sp.two (a := x) (b := y) (x := V o) (y := V v) ho2 (.gen (.inl rfl)) fun k hk => by
            have : m ∣ x * rd o (k : Int) + y * rd v (k : Int) - rd (mix m x o y v) (k : Int) := mix_dvd (by omega)
            rwa [← hnx] at this
          intro g hg
          rcases hg with rfl | ⟨w, hw, rfl⟩
          · exact hn2
          simp only [List.mem_cons, List.not_mem_nil, or_false] at hw
          rcases hw with rfl | rfl | rfl
          · exact Sp.two (a := 1) (b := -eo) ho2 hn2 fun k hk => g0 k hk
          · exact Sp.two (a := 1) (b := -ev) (x := V v) (.gen (.inl rfl)) hn2 fun k hk => g1 k hk
          · exact Sp.two (a := md) (b := 0) hn2 hn2 fun k hk => g2 k hk
      · rw [dsum_set hpl hiW, if_pos hiW, dv_set_same hpl hiW nP.ne, nd]
        unfold dv
        rcases ho with ⟨e, _⟩ | ⟨hr, e⟩
        · rw [if_pos e]; omega
        · rw [if_neg hr, ← e]
          have hO := (h.inv.tab.prow hiW hr).pos
          rw [← e] at hO
          have q2 := hnd (by omega)
          have : d ≤ rd o (i : Int) := Int.le_of_dvd hO ⟨eo, heo⟩
          by_cases q : d = rd o (i : Int)
          · exact absurd (tmod_zero.2 ⟨ev, by rw [← q]; exact hev⟩) q2
          · omega
    have start : ∀ o : List Int, (row p (i : Int) = [] ∧ o = List.replicate v.length 0 ∨ row p (i : Int) ≠ [] ∧ o = row p (i : Int)) → impl_span_put.l0 m p (st ++ [v]) = impl_span_put.j1 v i o m p st := by
      intro o ho
      rw [impl_span_put.l0_eq, e1, last_row, Int.toNat_natCast, take_init, Int.toNat_natCast]
      rcases ho with ⟨e, rfl⟩ | ⟨hr, rfl⟩
      · have e' : (row p (i : Int)).length = 0 := by rw [e]; rfl
        ((with_reducible repeat (first | refine go_pos (by first | assumption | omega | rfl | exact B_pos (by omega)) ?_ | refine go_neg (by first | assumption | omega | decide | exact B_not (by omega)) ?_ | refine go_bind (by first | assumption) ?_ | dsimp only)); first | done | (with_reducible rfl) | simp (disch := omega) only [w64] | (show False; done))
      · have e' : 0 < (row p (i : Int)).length := List.length_pos_iff.2 hr
        ((with_reducible repeat (first | refine go_pos (by first | assumption | omega | rfl | exact B_pos (by omega)) ?_ | refine go_neg (by first | assumption | omega | decide | exact B_not (by omega)) ?_ | refine go_bind (by first | assumption) ?_ | dsimp only)); first | done | (with_reducible rfl) | simp (disch := omega) only [w64] | (show False; done))
    by_cases hr : row p (i : Int) = []
    · have hs := start _ (.inl ⟨hr, rfl⟩)
      obtain ⟨p', ws, k1, k2, k3, k4⟩ := swap _ (.inl ⟨hr, rfl⟩) (fun q => absurd (rd_zeros _ _) q)
      exact .inr ⟨p', ws, hs.trans k1, k2, k3, k4⟩
    have hs := start _ (.inr ⟨hr, rfl⟩)
    by_cases hd : Int.tmod (rd v (i : Int)) (rd (row p (i : Int)) (i : Int)) = 0
    rotate_left
    · obtain ⟨p', ws, k1, k2, k3, k4⟩ := swap _ (.inr ⟨hr, rfl⟩) (fun _ => hd)
      exact .inr ⟨p', ws, hs.trans k1, k2, k3, k4⟩
    have hP := h.inv.tab.prow hiW hr
    have pl := hP.len
    have p0 := hP.pos
    have p1 := hP.lt
    obtain ⟨e, he⟩ := tmod_zero.1 hd
    obtain ⟨ee0, ee1⟩ := quot_bd p0 he v0 (by omega)
    have c1 := combined m2 m12 (p := p) (x := 1) (y := -e) hva hP.ent (by omega) (by omega) (by omega) (by omega) (by omega) (by omega)
    have f1 : wrapI ((wrapI (0 - rd v (i : Int))).tdiv (rd (row p (i : Int)) (i : Int))) = -e := by rw [w64 (x := 0 - rd v (i : Int)) (by omega) (by omega), he, tdiv_neg p0, w64 (by omega) (by omega)]
    have hpne : ¬ rd (row p (i : Int)) (i : Int) = 0 := by omega
    have l1 : ∀ a : List Int, ([a] : List (List Int)).length = 1 := fun _ => rfl
    have hstep : impl_span_put.j1 v i (row p (i : Int)) m p st = impl_span_put.l0 m p (st ++ [mix m 1 v (-e) (row p (i : Int))]) := by
      rw [impl_span_put.j1_eq, f1]
      (with_reducible repeat (first | refine go_pos (by first | assumption | omega | rfl | exact B_pos (by omega)) ?_ | refine go_neg (by first | assumption | omega | decide | exact B_not (by omega)) ?_ | refine go_bind (by first | assumption) ?_ | dsimp only))
      rw [l1]
      ((with_reducible repeat (first | refine go_pos (by first | assumption | omega | rfl | exact B_pos (by omega)) ?_ | refine go_neg (by first | assumption | omega | decide | exact B_not (by omega)) ?_ | refine go_bind (by first | assumption) ?_ | dsimp only)); first | done | (with_reducible rfl) | simp (disch := omega) only [w64] | (show False; done))
    have wl : (mix m 1 v (-e) (row p (i : Int))).length = W := by rw [mix_length]; exact hvl
    have wz : Zb (i + 1) (mix m 1 v (-e) (row p (i : Int))) := fun k hk => by
      rw [mix_rd (by omega)]
      by_cases q : k = i
      · subst q
        rw [he, show 1 * (rd (row p (k : Int)) (k : Int) * e) + -e * rd (row p (k : Int)) (k : Int) = 0 by rw [Int.neg_mul, Int.mul_comm e]; omega]
        exact Int.zero_emod m
      · rw [hzi k (by omega), hP.zero k (by omega)]; simp
    have h' := h.less (c := e) hiW hr hne ⟨wl, mix_in (by omega)⟩ (fun k hk => wz k (by omega)) fun k hk => mix_dvd (by omega)
    rcases ih (i + 1) _ p st (by omega) wz h' hst with ⟨k1, k2⟩ | ⟨p', ws, k1, k2, k3, k4⟩
    · exact .inl ⟨(hs.trans hstep).trans k1, k2⟩
    · exact .inr ⟨p', ws, (hs.trans hstep).trans k1, k2, k3, k4⟩
theorem put_ {m : Int} (m2 : 2 ≤ m) (m12 : m ≤ 12) {W : Nat} (hW : W ≤ 100000) {M : Vc → Prop} {p : List (List Int)} {r : List Int} (h : Pst m W p [r] M) : ∃ p', impl_span_put.f m p r = some (m, p') ∧ Pst m W p' [] M := by
  rw [impl_span_put.f_eq]
  have key : ∀ (D : Nat) (k : Nat) (p st : List (List Int)), st.length = k → dsum m p W ≤ D → (st.length : Int) + 3 * dsum m p W ≤ 100000000 → Pst m W p st M → ∃ p', impl_span_put.l0 m p st = some (m, p') ∧ Pst m W p' [] M := by
    intro D
    induction D with
    | zero =>
      intro k
      induction k with
      | zero =>
        intro p st hl _ _ h
        obtain rfl := List.length_eq_zero_iff.1 hl
        refine ⟨p, ?_, h⟩
        rw [impl_span_put.l0_eq]
        ((with_reducible repeat (first | refine go_pos (by first | assumption | omega | rfl | exact B_pos (by omega)) ?_ | refine go_neg (by first | assumption | omega | decide | exact B_not (by omega)) ?_ | refine go_bind (by first | assumption) ?_ | dsimp only)); first | done | (with_reducible rfl) | simp (disch := omega) only [w64] | (show False; done))
      | succ k ih =>
        intro p st hl hD hK h
        obtain ⟨st', v, rfl⟩ : ∃ st' v, st = st' ++ [v] := ⟨st.dropLast, st.getLast (fun e => by rw [e] at hl; simp at hl), (List.dropLast_concat_getLast _).symm⟩
        have e0 : (st' ++ [v]).length = st'.length + 1 := by simp
        obtain ⟨s0, _⟩ := dsum_bd (show 0 < m by omega) h.inv.tab W (Nat.le_refl _)
        rcases put_top m2 m12 hW W 0 v p st' (by omega) (fun i hi => by omega) h (by omega) with ⟨k1, k2⟩ | ⟨p', ws, k1, k2, k3, k4⟩
        · rw [k1]
          exact ih p st' (by omega) hD (by omega) k2
        · obtain ⟨s1, _⟩ := dsum_bd (show 0 < m by omega) k3.inv.tab W (Nat.le_refl _)
          omega
    | succ D ihD =>
      intro k
      induction k with
      | zero =>
        intro p st hl _ _ h
        obtain rfl := List.length_eq_zero_iff.1 hl
        refine ⟨p, ?_, h⟩
        rw [impl_span_put.l0_eq]
        ((with_reducible repeat (first | refine go_pos (by first | assumption | omega | rfl | exact B_pos (by omega)) ?_ | refine go_neg (by first | assumption | omega | decide | exact B_not (by omega)) ?_ | refine go_bind (by first | assumption) ?_ | dsimp only)); first | done | (with_reducible rfl) | simp (disch := omega) only [w64] | (show False; done))
      | succ k ih =>
        intro p st hl hD hK h
        obtain ⟨st', v, rfl⟩ : ∃ st' v, st = st' ++ [v] := ⟨st.dropLast, st.getLast (fun e => by rw [e] at hl; simp at hl), (List.dropLast_concat_getLast _).symm⟩
        have e0 : (st' ++ [v]).length = st'.length + 1 := by simp
        obtain ⟨s0, _⟩ := dsum_bd (show 0 < m by omega) h.inv.tab W (Nat.le_refl _)
        rcases put_top m2 m12 hW W 0 v p st' (by omega) (fun i hi => by omega) h (by omega) with ⟨k1, k2⟩ | ⟨p', ws, k1, k2, k3, k4⟩
        · rw [k1]
          exact ih p st' (by omega) hD (by omega) k2
        · rw [k1]
          have e1 : (st' ++ ws).length = st'.length + 3 := by rw [List.length_append, k2]
          exact ihD _ p' (st' ++ ws) rfl (by omega) (by omega) k3
  obtain ⟨s0, s1⟩ := dsum_bd (show 0 < m by omega) h.inv.tab W (Nat.le_refl _)
  have hb : m * (W : Int) ≤ 12 * 100000 := Int.mul_le_mul (by omega) (by omega) (by omega) (by omega)
  exact key (dsum m p W).toNat 1 p [r] rfl (by omega) (by show (1 : Int) + _ ≤ _; omega) h
end Go.Proofs.Ytpppnoliogdkiaa.V
