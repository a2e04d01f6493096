/- What the proof of the law CrossedClasses stands on, part 8: words, each Go function's Lean function, and that the Go code comes to its answers; no condition. (Packed by wip/myprint/pack.py out of what the kit's printer wrote, its words among it, partly by our patches of it, and out of texts of this session.) -/
import Derived.Test.YtjknpaplgclflaaKCrossedClasses4
import Derived.Test.YtjknpaplgclflaaKCrossedClasses6
import Derived.Test.YtjknpaplgclflaaKCrossedClasses7
set_option linter.unusedVariables false
set_option linter.unusedSimpArgs false
set_option maxHeartbeats 2000000
set_option maxRecDepth 20000
namespace Go.Proofs.Ytjknpaplgclflaa.V
open Go.RowKit Go.Proofs.Ytjknpaplgclflaa.D Go.Proofs.Ytjknpaplgclflaa.P
structure Mdl (g : List (List Int)) (m : Int) (u : List Int) : Prop where
 m2 : 2 ≤ m
 m12 : m ≤ 12
 len : u.length = g.length
 unit : ∀ i : Int, 0 ≤ i → i < u.length → 1 ≤ rd u i ∧ rd u i < m ∧ Int.gcd (rd u i) m = 1
 hom : ∀ i : Int, 0 ≤ i → i < u.length → ∀ j : Int, 0 ≤ j → j < u.length → rd u (T g i j) = rd u i * rd u j % m
theorem unit_one : ∀ m : Nat, m ≤ 12 → ∀ u : Nat, u < m → Nat.gcd u m = 1 → u = u * u % m → 1 ≤ u → u = 1 := by decide
theorem Mdl.one {g : List (List Int)} {m : Int} {u : List Int} (hg : Grp g) (h : Mdl g m u) : rd u 0 = 1 := by
 have n1 := hg.n1
 have hl := h.len
 obtain ⟨a1, a2, a3⟩ := h.unit 0 (by omega) (by omega)
 have e := h.hom 0 (by omega) (by omega) 0 (by omega) (by omega)
 rw [hg.one 0 (by omega) (by omega)] at e
 have m2 := h.m2; have m12 := h.m12
 obtain ⟨M, rfl⟩ := Int.eq_ofNat_of_zero_le (show 0 ≤ m by omega)
 obtain ⟨U, hU⟩ := Int.eq_ofNat_of_zero_le (show 0 ≤ rd u 0 by omega)
 rw [hU] at a1 a2 a3 e ⊢
 have := unit_one M (by omega) U (by omega) (by simpa [Int.gcd] using a3) (by exact_mod_cast e) (by omega)
 omega
theorem mul_lt_small {a b m : Int} (a0 : 0 ≤ a) (a1 : a < m) (b0 : 0 ≤ b) (b1 : b < m) (hm : m ≤ 1000) : 0 ≤ a * b ∧ a * b ≤ 1000000 := by
 refine ⟨Int.mul_nonneg a0 b0, ?_⟩
 have h1 : a * b ≤ 1000 * b := Int.mul_le_mul_of_nonneg_right (by omega) b0
 omega
theorem Mdl.at {g : List (List Int)} {m : Int} {u : List Int} (h : Mdl g m u) {x : Int} (x0 : 0 ≤ x) (x1 : x < g.length) : 1 ≤ rd u x ∧ rd u x < m := by
 have hl := h.len
 obtain ⟨a, b, _⟩ := h.unit x x0 (by omega)
 exact ⟨a, b⟩
theorem small_prod {m x : Int} {u : List Int} {g : List (List Int)} (hm : Mdl g m u) (x0 : 0 ≤ x) (x1 : x < g.length) {b : Int} (b0 : 0 ≤ b) (b1 : b < m) : 0 ≤ rd u x * b ∧ rd u x * b ≤ 1000000 := by
 have m12 := hm.m12
 have := hm.at x0 x1
 exact mul_lt_small (by omega) this.2 b0 b1 (by omega)
theorem isUnit {m x : Int} (m0 : 0 ≤ m) : impl_isUnit.f m x = some (B (1 ≤ x ∧ x < m ∧ Int.gcd x m = 1)) := by
 rw [impl_isUnit.f_eq]
 by_cases h1 : 1 ≤ x ∧ x < m
 ·
  have h := gcd_ m0 (show 0 ≤ x by omega)
  (with_reducible repeat (first | refine go_pos (by first | assumption | omega | rfl | exact B_pos (by omega)) ?_ | refine go_neg (by first | assumption | omega | decide | exact B_not (by omega)) ?_ | refine go_bind (by first | assumption) ?_ | dsimp only))
  rw [Int.gcd_comm]
  by_cases h3 : Int.gcd x m = 1
  ·
   rw [B_pos ⟨h1.1, h1.2, h3⟩]; simp [h3]
  ·
   rw [B_neg fun h => h3 h.2.2]
   simp; omega
 ·
  rw [B_neg fun h => h1 ⟨h.1, h.2.1⟩]
  by_cases h2 : 1 ≤ x <;> ((with_reducible repeat (first | refine go_pos (by first | assumption | omega | rfl | exact B_pos (by omega)) ?_ | refine go_neg (by first | assumption | omega | decide | exact B_not (by omega)) ?_ | refine go_bind (by first | assumption) ?_ | dsimp only)); first | done | (with_reducible rfl) | simp (disch := omega) only [w64] | (show False; done))
theorem isModulus (m : Int) : impl_isModulus.f m = some (B (2 ≤ m ∧ m ≤ 12)) := by
 rw [impl_isModulus.f_eq]
 by_cases h : m ≥ 2
 ·
  rw [if_pos h, B_decide, B_congr (show m ≤ 12 ↔ (2 ≤ m ∧ m ≤ 12) from ⟨fun h' => ⟨h, h'⟩, fun h' => h'.2⟩)]
 ·
  rw [if_neg h, B_neg (fun h' => h h'.1)]
theorem mdl_iff (g : List (List Int)) (m : Int) (u : List Int) : Mdl g m u ↔ (2 ≤ m ∧ m ≤ 12) ∧ u.length = g.length ∧ (∀ i : Int, 0 ≤ i → i < u.length → 1 ≤ rd u i ∧ rd u i < m ∧ Int.gcd (rd u i) m = 1) ∧ ∀ i : Int, 0 ≤ i → i < u.length → ∀ j : Int, 0 ≤ j → j < u.length → rd u (T g i j) = rd u i * rd u j % m :=
 ⟨fun h => ⟨⟨h.m2, h.m12⟩, h.len, h.unit, h.hom⟩, fun ⟨⟨a, b⟩, c, d, e⟩ => ⟨a, b, c, d, e⟩⟩
theorem isModule {g : List (List Int)} (hg : Grp g) (m : Int) (u : List Int) (hl : u.length ≤ maxLen) : impl_isModule.f g m u = some (B (Mdl g m u)) := by
 have hm := maxLen_le
 have n1 := hg.n1
 (rw [impl_isModule.f_eq])
 by_cases h1 : 2 ≤ m ∧ m ≤ 12
 rotate_left
 ·
  rw [B_neg fun h => h1 ⟨h.m2, h.m12⟩]
  ((with_reducible repeat (first | refine go_pos (by first | assumption | omega | rfl | exact B_pos (by omega)) ?_ | refine go_neg (by first | assumption | omega | decide | exact B_not (by omega)) ?_ | refine go_bind (by first | assumption | exact isModulus _ | exact impl_order.f_eq _) ?_ | dsimp only)); first | done | (with_reducible rfl) | simp (disch := omega) only [w64] | (show False; done))
 by_cases h3 : (u.length : Int) = g.length
 rotate_left
 ·
  rw [B_neg fun h => h3 (by rw [h.len])]
  ((with_reducible repeat (first | refine go_pos (by first | assumption | omega | rfl | exact B_pos (by omega)) ?_ | refine go_neg (by first | assumption | omega | decide | exact B_not (by omega)) ?_ | refine go_bind (by first | assumption | exact isModulus _ | exact impl_order.f_eq _) ?_ | dsimp only)); first | done | (with_reducible rfl) | simp (disch := omega) only [w64] | (show False; done))
 by_cases h5 : rd u 0 = 1
 rotate_left
 ·
  rw [B_neg fun h => h5 (h.one hg)]
  ((with_reducible repeat (first | refine go_pos (by first | assumption | omega | rfl | exact B_pos (by omega)) ?_ | refine go_neg (by first | assumption | omega | decide | exact B_not (by omega)) ?_ | refine go_bind (by first | assumption | exact isModulus _ | exact impl_order.f_eq _) ?_ | dsimp only)); first | done | (with_reducible rfl) | simp (disch := omega) only [w64] | (show False; done))
 (with_reducible repeat (first | refine go_pos (by first | assumption | omega | rfl | exact B_pos (by omega)) ?_ | refine go_neg (by first | assumption | omega | decide | exact B_not (by omega)) ?_ | refine go_bind (by first | assumption | exact isModulus _ | exact impl_order.f_eq _) ?_ | dsimp only))
 rw [B_congr (mdl_iff g m u), B_congr (show ((2 ≤ m ∧ m ≤ 12) ∧ u.length = g.length ∧ (∀ i : Int, 0 ≤ i → i < u.length → 1 ≤ rd u i ∧ rd u i < m ∧ Int.gcd (rd u i) m = 1) ∧ ∀ i : Int, 0 ≤ i → i < u.length → ∀ j : Int, 0 ≤ j → j < u.length → rd u (T g i j) = rd u i * rd u j % m) ↔ _ from ⟨fun h => h.2.2, fun h => ⟨h1, by omega, h⟩⟩)]
 refine scanB u.length (fun i => impl_isModule.l0 u (u.length : Int) i g m u) (fun i => 1 ≤ rd u i ∧ rd u i < m ∧ Int.gcd (rd u i) m = 1) _ (fun i i0 i1 _ => ?_) (fun hu => ?_)
 ·
  have hu := isUnit (m := m) (x := rd u i) (by omega)
  refine ⟨fun h => ?_, fun h => ?_⟩ <;> (rw [impl_isModule.l0_eq]) <;> ((with_reducible repeat (first | refine go_pos (by first | assumption | omega | rfl | exact B_pos (by omega)) ?_ | refine go_neg (by first | assumption | omega | decide | exact B_not (by omega)) ?_ | refine go_bind (by first | assumption) ?_ | dsimp only)); first | done | (with_reducible rfl) | simp (disch := omega) only [w64] | (show False; done))
 (rw [impl_isModule.l0_eq])
 (with_reducible repeat (first | refine go_pos (by first | assumption | omega | rfl | exact B_pos (by omega)) ?_ | refine go_neg (by first | assumption | omega | decide | exact B_not (by omega)) ?_ | refine go_bind (by first | assumption | exact impl_order.f_eq _) ?_ | dsimp only))
 rw [← h3]
 refine scanT u.length (fun i => impl_isModule.l1 (u.length : Int) i g m u) (fun i => ∀ j : Int, 0 ≤ j → j < u.length → rd u (T g i j) = rd u i * rd u j % m) (fun i i0 i1 _ => ?_) (fun _ => by (rw [impl_isModule.l1_eq]); ((with_reducible repeat (first | refine go_pos (by first | assumption | omega | rfl | exact B_pos (by omega)) ?_ | refine go_neg (by first | assumption | omega | decide | exact B_not (by omega)) ?_ | refine go_bind (by first | assumption) ?_ | dsimp only)); first | done | (with_reducible rfl) | simp (disch := omega) only [w64] | (show False; done)))
 have inner := scanI u.length (fun j => impl_isModule.l2 i (u.length : Int) i (u.length : Int) j g m u) (fun j => rd u (T g i j) = rd u i * rd u j % m) (some false) (impl_isModule.l1 (u.length : Int) (i + 1) g m u) (fun j j0 j1 _ => by
  have ht := times2 hg i0 (by omega) j0 (by omega)
  obtain ⟨e0, e1⟩ := hg.ent i j i0 (by omega) j0 (by omega)
  obtain ⟨p0, p1⟩ := mul_lt_small (show 0 ≤ rd u i by have := (hu i i0 i1).1; omega) (hu i i0 i1).2.1 (show 0 ≤ rd u j by have := (hu j j0 j1).1; omega) (hu j j0 j1).2.1 (by omega)
  have hwp : wrapI (rd u i * rd u j) = rd u i * rd u j := w64 (by omega) (by omega)
  have e := tmod_nn (m := m) p0
  refine ⟨fun h => ?_, fun h => ?_⟩ <;> (rw [impl_isModule.l2_eq, hwp, e]) <;> ((with_reducible repeat (first | refine go_pos (by first | assumption | omega | rfl | exact B_pos (by omega)) ?_ | refine go_neg (by first | assumption | omega | decide | exact B_not (by omega)) ?_ | refine go_bind (by first | assumption) ?_ | dsimp only)); first | done | (with_reducible rfl) | simp (disch := omega) only [w64] | (show False; done))) (fun _ => by (rw [impl_isModule.l2_eq]); ((with_reducible repeat (first | refine go_pos (by first | assumption | omega | rfl | exact B_pos (by omega)) ?_ | refine go_neg (by first | assumption | omega | decide | exact B_not (by omega)) ?_ | refine go_bind (by first | assumption) ?_ | dsimp only)); first | done | (with_reducible rfl) | simp (disch := omega) only [w64] | (show False; done)))
 refine ⟨fun h => ?_, fun h => ?_⟩ <;> (rw [impl_isModule.l1_eq]) <;> (with_reducible repeat (first | refine go_pos (by first | assumption | omega | rfl | exact B_pos (by omega)) ?_ | refine go_neg (by first | assumption | omega | decide | exact B_not (by omega)) ?_ | refine go_bind (by first | assumption | exact impl_order.f_eq _) ?_ | dsimp only)) <;> rw [← h3]
 ·
  exact inner.1 h
 ·
  exact inner.2 h
theorem Is02 {g : List (List Int)} (hg : Grp g) (m : Int) (u : List Int) (hl : u.length ≤ maxLen) : spec_l02Is.f g m u = some (B (Mdl g m u)) := by
 have hm := maxLen_le
 have n1 := hg.n1
 (rw [spec_l02Is.f_eq])
 by_cases h1 : 2 ≤ m ∧ m ≤ 12
 rotate_left
 ·
  rw [B_neg fun h => h1 ⟨h.m2, h.m12⟩]
  ((with_reducible repeat (first | refine go_pos (by first | assumption | omega | rfl | exact B_pos (by omega)) ?_ | refine go_neg (by first | assumption | omega | decide | exact B_not (by omega)) ?_ | refine go_bind (by first | assumption | exact In_ _ _ _) ?_ | dsimp only)); first | done | (with_reducible rfl) | simp (disch := omega) only [w64] | (show False; done))
 by_cases h3 : (u.length : Int) = g.length
 rotate_left
 ·
  rw [B_neg fun h => h3 (by rw [h.len])]
  ((with_reducible repeat (first | refine go_pos (by first | assumption | omega | rfl | exact B_pos (by omega)) ?_ | refine go_neg (by first | assumption | omega | decide | exact B_not (by omega)) ?_ | refine go_bind (by first | assumption | exact In_ _ _ _) ?_ | dsimp only)); first | done | (with_reducible rfl) | simp (disch := omega) only [w64] | (show False; done))
 (with_reducible repeat (first | refine go_pos (by first | assumption | omega | rfl | exact B_pos (by omega)) ?_ | refine go_neg (by first | assumption | omega | decide | exact B_not (by omega)) ?_ | refine go_bind (by first | assumption | exact In_ _ _ _) ?_ | dsimp only))
 rw [B_congr (mdl_iff g m u), B_congr (show ((2 ≤ m ∧ m ≤ 12) ∧ u.length = g.length ∧ (∀ i : Int, 0 ≤ i → i < u.length → 1 ≤ rd u i ∧ rd u i < m ∧ Int.gcd (rd u i) m = 1) ∧ ∀ i : Int, 0 ≤ i → i < u.length → ∀ j : Int, 0 ≤ j → j < u.length → rd u (T g i j) = rd u i * rd u j % m) ↔ _ from ⟨fun h => h.2.2, fun h => ⟨h1, by omega, h⟩⟩)]
 have hw1 : wrapI (m - 1) = m - 1 := w64 (by omega) (by omega)
 refine scanB u.length (fun i => spec_l02Is.l0 i g m u) (fun i => 1 ≤ rd u i ∧ rd u i < m ∧ Int.gcd (rd u i) m = 1) _ (fun i i0 i1 _ => ?_) (fun hu => ?_)
 ·
  refine ⟨fun h => ?_, fun h => ?_⟩ <;> (rw [spec_l02Is.l0_eq, hw1])
  ·
   have hgc := Gcd_ (a := rd u i) (b := m) (by omega) (by omega) (by omega) (by omega)
   ((with_reducible repeat (first | refine go_pos (by first | assumption | omega | rfl | exact B_pos (by omega)) ?_ | refine go_neg (by first | assumption | omega | decide | exact B_not (by omega)) ?_ | refine go_bind (by first | assumption | exact In_ _ _ _) ?_ | dsimp only)); first | done | (with_reducible rfl) | simp (disch := omega) only [w64] | (show False; done))
  ·
   by_cases h6 : 1 ≤ rd u i ∧ rd u i < m
   ·
    have hgc := Gcd_ (a := rd u i) (b := m) (by omega) (by omega) (by omega) (by omega)
    ((with_reducible repeat (first | refine go_pos (by first | assumption | omega | rfl | exact B_pos (by omega)) ?_ | refine go_neg (by first | assumption | omega | decide | exact B_not (by omega)) ?_ | refine go_bind (by first | assumption | exact In_ _ _ _) ?_ | dsimp only)); first | done | (with_reducible rfl) | simp (disch := omega) only [w64] | (show False; done))
   ·
    ((with_reducible repeat (first | refine go_pos (by first | assumption | omega | rfl | exact B_pos (by omega)) ?_ | refine go_neg (by first | assumption | omega | decide | exact B_not (by omega)) ?_ | refine go_bind (by first | assumption | exact In_ _ _ _) ?_ | dsimp only)); first | done | (with_reducible rfl) | simp (disch := omega) only [w64] | (show False; done))
 (rw [spec_l02Is.l0_eq])
 (with_reducible repeat (first | refine go_pos (by first | assumption | omega | rfl | exact B_pos (by omega)) ?_ | refine go_neg (by first | assumption | omega | decide | exact B_not (by omega)) ?_ | refine go_bind (by first | assumption) ?_ | dsimp only))
 refine scanT u.length (fun i => spec_l02Is.l1 i g m u) (fun i => ∀ j : Int, 0 ≤ j → j < u.length → rd u (T g i j) = rd u i * rd u j % m) (fun i i0 i1 _ => ?_) (fun _ => by (rw [spec_l02Is.l1_eq]); ((with_reducible repeat (first | refine go_pos (by first | assumption | omega | rfl | exact B_pos (by omega)) ?_ | refine go_neg (by first | assumption | omega | decide | exact B_not (by omega)) ?_ | refine go_bind (by first | assumption) ?_ | dsimp only)); first | done | (with_reducible rfl) | simp (disch := omega) only [w64] | (show False; done)))
 have ri := hg.row i i0 (by omega)
 have inner := scanI u.length (fun j => spec_l02Is.l2 i j g m u) (fun j => rd u (T g i j) = rd u i * rd u j % m) (some false) (spec_l02Is.l1 (i + 1) g m u) (fun j j0 j1 _ => by
  obtain ⟨e0, e1⟩ := hg.ent i j i0 (by omega) j0 (by omega)
  obtain ⟨p0, p1⟩ := mul_lt_small (show 0 ≤ rd u i by have := (hu i i0 i1).1; omega) (hu i i0 i1).2.1 (show 0 ≤ rd u j by have := (hu j j0 j1).1; omega) (hu j j0 j1).2.1 (by omega)
  have hwp : wrapI (rd u i * rd u j) = rd u i * rd u j := w64 (by omega) (by omega)
  have e := tmod_nn (m := m) p0
  refine ⟨fun h => ?_, fun h => ?_⟩ <;> (rw [spec_l02Is.l2_eq, hwp, e]) <;> ((with_reducible repeat (first | refine go_pos (by first | assumption | omega | rfl | exact B_pos (by omega)) ?_ | refine go_neg (by first | assumption | omega | decide | exact B_not (by omega)) ?_ | refine go_bind (by first | assumption) ?_ | dsimp only)); first | done | (with_reducible rfl) | simp (disch := omega) only [w64] | (show False; done))) (fun _ => by (rw [spec_l02Is.l2_eq]); ((with_reducible repeat (first | refine go_pos (by first | assumption | omega | rfl | exact B_pos (by omega)) ?_ | refine go_neg (by first | assumption | omega | decide | exact B_not (by omega)) ?_ | refine go_bind (by first | assumption) ?_ | dsimp only)); first | done | (with_reducible rfl) | simp (disch := omega) only [w64] | (show False; done)))
 refine ⟨fun h => ?_, fun h => ?_⟩ <;> (rw [spec_l02Is.l1_eq]) <;> (with_reducible repeat (first | refine go_pos (by first | assumption | omega | rfl | exact B_pos (by omega)) ?_ | refine go_neg (by first | assumption | omega | decide | exact B_not (by omega)) ?_ | refine go_bind (by first | assumption) ?_ | dsimp only))
 ·
  exact inner.1 h
 ·
  exact inner.2 h
def GM (g : List (List Int)) (m : Int) (u : List Int) : Prop := Grp g ∧ Mdl g m u
theorem areModules1 (g : List (List Int)) (hl : g.length ≤ maxLen) (hr : ∀ r ∈ g, r.length ≤ maxLen) (m : Int) (u : List Int) (hu : u.length ≤ maxLen) : impl_areModules.f g [(m, u)] = some (B (GM g m u)) := by
 have hG := isGroup g hl hr
 rw [impl_areModules.f_eq]
 have st : impl_areModules.l0 [(m, u)] (([(m, u)] : List (Int × List Int)).length : Int) 1 g = some true := by (rw [impl_areModules.l0_eq]); exact if_neg (by simp)
 (rw [impl_areModules.l0_eq])
 rw [if_pos (by simp), if_pos (by simp), if_pos (by simp), hG]
 by_cases h1 : Grp g
 ·
  have hM := isModule h1 m u hu
  rw [B_pos h1]
  show (Option.bind (impl_isModule.f g m u) _) = _
  rw [hM]
  by_cases h2 : Mdl g m u
  ·
   rw [B_pos h2, B_pos ⟨h1, h2⟩]
   simpa [show wrapI 1 = 1 from w64 (by omega) (by omega)] using st
  ·
   rw [B_neg h2, B_neg fun h => h2 h.2]
   rfl
 ·
  rw [B_neg h1, B_neg fun h => h1 h.1]
  rfl
theorem moduleCode1 (g : List (List Int)) (hl : g.length ≤ maxLen) (hr : ∀ r ∈ g, r.length ≤ maxLen) (m : Int) (u : List Int) (hu : u.length ≤ maxLen) : impl_moduleCode.f g [(m, u)] = some (ite_ (GM g m u) 0 1) := by
 rw [impl_moduleCode.f_eq, areModules1 g hl hr m u hu]
 by_cases h : GM g m u
 ·
  rw [B_pos h, ite_pos h]; rfl
 ·
  rw [B_neg h, ite_neg h]; rfl
end Go.Proofs.Ytjknpaplgclflaa.V
namespace Go.Proofs.Ytjknpaplgclflaa.V
open Go.RowKit Go.Proofs.Ytjknpaplgclflaa.D Go.Proofs.Ytjknpaplgclflaa.P
theorem Mod_ {a m : Int} (h0 : -1000000000 ≤ a) (h1 : a ≤ 1000000000) (m0 : 0 < m) (m1 : m ≤ 1000000) : spec_l01Mod.f a m = some (a % m) := by
 rw [spec_l01Mod.f_eq]
 have t0 := Int.tmod_lt_of_pos a m0
 have t1 : -m < Int.tmod a m := Int.lt_tmod_of_pos a m0
 have hq := Int.mul_tdiv_add_tmod a m
 have h5 : (m * a.tdiv m + a.tmod m) % m = a.tmod m % m := by rw [Int.add_comm, Int.add_mul_emod_self_left]
 rw [hq] at h5
 rw [w64 (by omega) (by omega), Int.tmod_eq_emod_of_nonneg (show 0 ≤ Int.tmod a m + m by omega), Int.add_emod_right, ← h5]
 ((with_reducible repeat (first | refine go_pos (by first | assumption | omega | rfl | exact B_pos (by omega)) ?_ | refine go_neg (by first | assumption | omega | decide | exact B_not (by omega)) ?_ | refine go_bind (by first | assumption) ?_ | dsimp only)); first | done | (with_reducible rfl) | simp (disch := omega) only [w64] | (show False; done))
theorem pow_nat : ∀ n : Nat, n ≤ 7 → ∀ i : Nat, i ≤ 5 → n ^ i ≤ 16807 := by decide
theorem pow_bd {a : Int} (h0 : 0 ≤ a) (h1 : a ≤ 7) (i : Nat) (hi : i ≤ 5) : 0 ≤ a ^ i ∧ a ^ i ≤ 16807 := by
 obtain ⟨n, rfl⟩ := Int.eq_ofNat_of_zero_le h0
 have h := pow_nat n (by omega) i hi
 rw [← Int.natCast_pow]
 omega
def cells (g : List (List Int)) (d : Int) : Int := ((g.length : Int) - 1) ^ d.toNat
theorem cells_bd {g : List (List Int)} (hg : Grp g) {d : Int} (h1 : d ≤ 5) : 0 ≤ cells g d ∧ cells g d ≤ 16807 := by
 have n8 := hg.n8; have n0 := hg.n1
 exact pow_bd (by omega) (by omega) _ (by omega)
theorem power {a d : Int} (h0 : 0 ≤ a) (h1 : a ≤ 7) (d0 : 0 ≤ d) (d1 : d ≤ 4) : impl_power.f a d = some (a ^ d.toNat) := by
 obtain ⟨n, rfl⟩ := Int.eq_ofNat_of_zero_le d0
 have := up n (fun j => impl_power.l0 a (a ^ j) (n : Int) (j : Int)) (fun j hj => by
  have hw : wrapI ((j : Int) + 1) = ((j + 1 : Nat) : Int) := by rw [w64 (by omega) (by omega)]; omega
  have b := pow_bd h0 h1 (j + 1) (by omega)
  have hp : wrapI (a ^ j * a) = a ^ (j + 1) := by rw [show a ^ j * a = a ^ (j + 1) from (Int.pow_succ a j).symm]; exact w64 (by omega) (by omega)
  rw [impl_power.l0_eq, hw, hp]
  ((with_reducible repeat (first | refine go_pos (by first | assumption | omega | rfl | exact B_pos (by omega)) ?_ | refine go_neg (by first | assumption | omega | decide | exact B_not (by omega)) ?_ | refine go_bind (by first | assumption) ?_ | dsimp only)); first | done | (with_reducible rfl) | simp (disch := omega) only [w64] | (show False; done)))
 simp only [Int.pow_zero, Int.natCast_zero] at this
 rw [impl_power.f_eq, this, impl_power.l0_eq, Int.toNat_natCast]
 ((with_reducible repeat (first | refine go_pos (by first | assumption | omega | rfl | exact B_pos (by omega)) ?_ | refine go_neg (by first | assumption | omega | decide | exact B_not (by omega)) ?_ | refine go_bind (by first | assumption) ?_ | dsimp only)); first | done | (with_reducible rfl) | simp (disch := omega) only [w64] | (show False; done))
theorem cells_ {g : List (List Int)} (hg : Grp g) {d : Int} (d0 : 0 ≤ d) (d1 : d ≤ 4) : impl_cells.f g d = some (cells g d) := by
 have n8 := hg.n8; have n0 := hg.n1
 have hw : wrapI ((g.length : Int) - 1) = g.length - 1 := w64 (by omega) (by omega)
 have hp := power (a := (g.length : Int) - 1) (by omega) (by omega) d0 d1
 show _ = some (((g.length : Int) - 1) ^ d.toNat)
 rw [impl_cells.f_eq, impl_order.f_eq, Option.bind_some, hw]
 ((with_reducible repeat (first | refine go_pos (by first | assumption | omega | rfl | exact B_pos (by omega)) ?_ | refine go_neg (by first | assumption | omega | decide | exact B_not (by omega)) ?_ | refine go_bind (by first | assumption) ?_ | dsimp only)); first | done | (with_reducible rfl) | simp (disch := omega) only [w64] | (show False; done))
def Co (g : List (List Int)) (m d : Int) (v : List Int) : Prop := (0 ≤ d ∧ d ≤ 3) ∧ (v.length : Int) = cells g d ∧ AllIn m v
def idx (g : List (List Int)) (xs : List Int) : Int := xs.foldl (fun a x => a * ((g.length : Int) - 1) + x - 1) 0
theorem idx_snoc (g : List (List Int)) (xs : List Int) (x : Int) : idx g (xs ++ [x]) = idx g xs * ((g.length : Int) - 1) + x - 1 := by simp [idx]
theorem idx_take {g : List (List Int)} {xs : List Int} {i : Nat} (h : i < xs.length) : idx g (xs.take (i + 1)) = idx g (xs.take i) * ((g.length : Int) - 1) + rd xs (i : Int) - 1 := by
 rw [take_rd h, idx_snoc]
theorem idx_bd {g : List (List Int)} (hg : Grp g) {xs : List Int} (hx : AllIn g.length xs) : ∀ i : Nat, i ≤ xs.length → (∀ j : Int, 0 ≤ j → j < i → ¬ rd xs j = 0) → 0 ≤ idx g (xs.take i) ∧ idx g (xs.take i) + 1 ≤ ((g.length : Int) - 1) ^ i := by
 have n8 := hg.n8; have n1 := hg.n1
 intro i
 induction i with
 | zero => intro _ _; simp [idx]
 | succ i ih =>
  intro hi hz
  obtain ⟨a0, a1⟩ := ih (by omega) (fun j h0 h1 => hz j h0 (by omega))
  obtain ⟨x0, x1⟩ := hx i (by omega) (by omega)
  have x2 := hz i (by omega) (by omega)
  rw [idx_take (by omega), Int.pow_succ]
  have b1 : 0 ≤ idx g (xs.take i) * ((g.length : Int) - 1) := Int.mul_nonneg a0 (by omega)
  have b2 : (idx g (xs.take i) + 1) * ((g.length : Int) - 1) ≤ ((g.length : Int) - 1) ^ i * ((g.length : Int) - 1) := Int.mul_le_mul_of_nonneg_right a1 (by omega)
  rw [Int.add_mul, Int.one_mul] at b2
  omega
def NoUnit (xs : List Int) : Prop := ∀ j : Int, 0 ≤ j → j < xs.length → ¬ rd xs j = 0
noncomputable def At (g : List (List Int)) (v xs : List Int) : Int := ite_ (NoUnit xs) (rd v (idx g xs)) 0
theorem idx_step {g : List (List Int)} (hg : Grp g) {xs : List Int} (hx : AllIn g.length xs) (hl : xs.length ≤ 4) {n : Nat} (hn : n < xs.length) (hz : ∀ j : Int, 0 ≤ j → j < (n : Int) → ¬ rd xs j = 0) :
  wrapI (wrapI (wrapI (idx g (xs.take n) * wrapI ((g.length : Int) - 1)) + rd xs n) - 1) = idx g (xs.take (n + 1)) ∧ wrapI ((n : Int) + 1) = (n : Int) + 1 := by
 have n8 := hg.n8; have n1 := hg.n1
 obtain ⟨a0, a1⟩ := idx_bd hg hx n (by omega) hz
 obtain ⟨x0, x1⟩ := hx n (by omega) (by omega)
 have p := pow_bd (a := (g.length : Int) - 1) (by omega) (by omega) n (by omega)
 have b1 : 0 ≤ idx g (xs.take n) * ((g.length : Int) - 1) := Int.mul_nonneg a0 (by omega)
 have b2 : idx g (xs.take n) * ((g.length : Int) - 1) ≤ 16807 * 7 := Int.mul_le_mul (by omega) (by omega) (by omega) (by omega)
 rw [w64 (x := (g.length : Int) - 1) (by omega) (by omega), w64 (x := idx g (xs.take n) * ((g.length : Int) - 1)) (by omega) (by omega), w64 (x := idx g (xs.take n) * ((g.length : Int) - 1) + rd xs n) (by omega) (by omega), w64 (by omega) (by omega), w64 (by omega) (by omega), idx_take hn]
 exact ⟨rfl, rfl⟩
theorem cell_ {g : List (List Int)} (hg : Grp g) {xs : List Int} (hx : AllIn g.length xs) (hl : xs.length ≤ 4) :
  impl_cell.f g xs = some (ite_ (NoUnit xs) (idx g xs) (-1)) := by
 rw [impl_cell.f_eq]
 have := scan xs.length (fun i => impl_cell.l0 (idx g (xs.take i.toNat)) xs (xs.length : Int) i g) (fun j => ¬ rd xs j = 0) (some (-1)) (fun i i0 i1 hz => by
  obtain ⟨n, rfl⟩ := Int.eq_ofNat_of_zero_le i0
  obtain ⟨e1, e2⟩ := idx_step hg hx hl (n := n) (by omega) hz
  refine ⟨fun h => ?_, fun h => ?_⟩
  ·
   rw [impl_cell.l0_eq, impl_order.f_eq, Option.bind_some, Int.toNat_natCast, e1, e2, show ((n : Int) + 1).toNat = n + 1 by omega]
   ((with_reducible repeat (first | refine go_pos (by first | assumption | omega | rfl | exact B_pos (by omega)) ?_ | refine go_neg (by first | assumption | omega | decide | exact B_not (by omega)) ?_ | refine go_bind (by first | assumption) ?_ | dsimp only)); first | done | (with_reducible rfl) | simp (disch := omega) only [w64] | (show False; done))
  ·
   (rw [impl_cell.l0_eq])
   ((with_reducible repeat (first | refine go_pos (by first | assumption | omega | rfl | exact B_pos (by omega)) ?_ | refine go_neg (by first | assumption | omega | decide | exact B_not (by omega)) ?_ | refine go_bind (by first | assumption) ?_ | dsimp only)); first | done | (with_reducible rfl) | simp (disch := omega) only [w64] | (show False; done)))
 simp only [Int.toNat_zero, List.take_zero, Int.toNat_natCast, List.take_length] at this
 rcases this with ⟨h1, h2⟩ | ⟨j, j0, j1, _, h1, _, h2⟩
 ·
  have h1 : NoUnit xs := h1
  rw [ite_pos h1, ← show impl_cell.l0 (idx g []) xs (xs.length : Int) 0 g = impl_cell.l0 0 xs (xs.length : Int) 0 g from rfl, h2]
  (rw [impl_cell.l0_eq])
  ((with_reducible repeat (first | refine go_pos (by first | assumption | omega | rfl | exact B_pos (by omega)) ?_ | refine go_neg (by first | assumption | omega | decide | exact B_not (by omega)) ?_ | refine go_bind (by first | assumption) ?_ | dsimp only)); first | done | (with_reducible rfl) | simp (disch := omega) only [w64] | (show False; done))
 ·
  rw [ite_neg fun q => h1 (q j j0 j1)]
  exact h2
theorem idx_cells {g : List (List Int)} (hg : Grp g) {m d : Int} {v : List Int} (hc : Co g m d v) {xs : List Int} (hx : AllIn g.length xs) (hl : (xs.length : Int) = d) (h : NoUnit xs) : 0 ≤ idx g xs ∧ idx g xs < v.length := by
 obtain ⟨⟨d0, d1⟩, hv, ha⟩ := hc
 obtain ⟨a0, a1⟩ := idx_bd hg hx xs.length (by omega) h
 rw [List.take_length] at a0 a1
 have e : cells g d = ((g.length : Int) - 1) ^ xs.length := by unfold cells; rw [show d.toNat = xs.length by omega]
 omega
theorem at_ {g : List (List Int)} (hg : Grp g) {m d : Int} {v : List Int} (hc : Co g m d v) {xs : List Int} (hx : AllIn g.length xs) (hl : (xs.length : Int) = d) :
  impl_Cochain_at.f d v g xs = some (At g v xs) := by
 have hd := hc.1
 have h1 := cell_ hg hx (by omega)
 rw [impl_Cochain_at.f_eq]
 unfold At
 by_cases h : NoUnit xs
 ·
  obtain ⟨a0, a1⟩ := idx_cells hg hc hx hl h
  rw [ite_pos h] at h1 ⊢
  ((with_reducible repeat (first | refine go_pos (by first | assumption | omega | rfl | exact B_pos (by omega)) ?_ | refine go_neg (by first | assumption | omega | decide | exact B_not (by omega)) ?_ | refine go_bind (by first | assumption) ?_ | dsimp only)); first | done | (with_reducible rfl) | simp (disch := omega) only [w64] | (show False; done))
 ·
  rw [ite_neg h] at h1 ⊢
  ((with_reducible repeat (first | refine go_pos (by first | assumption | omega | rfl | exact B_pos (by omega)) ?_ | refine go_neg (by first | assumption | omega | decide | exact B_not (by omega)) ?_ | refine go_bind (by first | assumption) ?_ | dsimp only)); first | done | (with_reducible rfl) | simp (disch := omega) only [w64] | (show False; done))
theorem At_bd {g : List (List Int)} (hg : Grp g) {m d : Int} {v : List Int} (m0 : 0 < m) (hc : Co g m d v) {xs : List Int} (hx : AllIn g.length xs) (hl : (xs.length : Int) = d) : 0 ≤ At g v xs ∧ At g v xs < m := by
 unfold At
 by_cases h : NoUnit xs
 ·
  obtain ⟨a0, a1⟩ := idx_cells hg hc hx hl h
  rw [ite_pos h]
  exact hc.2.2 _ a0 a1
 ·
  rw [ite_neg h]; omega
end Go.Proofs.Ytjknpaplgclflaa.V
namespace Go.Proofs.Ytjknpaplgclflaa.V
open Go.RowKit Go.Proofs.Ytjknpaplgclflaa.D Go.Proofs.Ytjknpaplgclflaa.P
def lst (b : Int) : Nat → Int → List Int
 | 0, _ => []
 | n + 1, i => lst b n (i / b) ++ [i % b + 1]
theorem lst_length (b : Int) : ∀ n i, (lst b n i).length = n := by
 intro n
 induction n with
 | zero => intro i; rfl
 | succ n ih => intro i; simp [lst, ih]
theorem lst_in {b : Int} (hb : 0 < b) : ∀ n i, ∀ x ∈ lst b n i, 1 ≤ x ∧ x < b + 1 := by
 intro n
 induction n with
 | zero => intro i x hx; simp [lst] at hx
 | succ n ih =>
  intro i x hx
  have m0 := Int.emod_nonneg i (show b ≠ 0 by omega)
  have m1 := Int.emod_lt_of_pos i hb
  rcases List.mem_append.1 hx with h | h
  ·
   exact ih _ x h
  ·
   rw [List.mem_singleton] at h; omega
theorem set_last (n : Nat) (t : List Int) (x : Int) : (List.replicate (n + 1) 0 ++ t).set n x = List.replicate n 0 ++ (x :: t) := by
 rw [List.replicate_succ', List.append_assoc, List.set_append, if_neg (by simp)]
 simp
theorem listOf {g : List (List Int)} (hg : Grp g) (n : Nat) (h2 : n = 0 ∨ 2 ≤ g.length) (hn : n ≤ 4) {i : Int} (i0 : 0 ≤ i) (i1 : i ≤ 16807) :
  impl_listOf.f g (n : Int) i = some (lst ((g.length : Int) - 1) n i) ∧ True := by
 have n8 := hg.n8; have n1 := hg.n1
 obtain ⟨b, hb⟩ : ∃ b : Int, b = (g.length : Int) - 1 := ⟨_, rfl⟩
 have hw0 : wrapI ((g.length : Int) - 1) = b := by rw [hb]; exact w64 (by omega) (by omega)
 rw [← hb]
 have b1 : n = 0 ∨ 1 ≤ b := by omega
 have b7 : b ≤ 7 := by omega
 have fact : ∀ (n : Nat) (i : Int), n ≤ 4 → 1 ≤ b → 0 ≤ i → i ≤ 16807 → wrapI (Int.tdiv i b) = i / b ∧ wrapI (1 + Int.tmod i b) = i % b + 1 ∧ wrapI (Int.tmod i b + 1) = i % b + 1 ∧ wrapI ((n : Int) - 1) = (n : Int) - 1 ∧ 0 ≤ i / b ∧ i / b ≤ 16807 := by
  intro n i hn b1 i0 i1
  have m0 := Int.emod_nonneg i (show b ≠ 0 by omega)
  have m1 := Int.emod_lt_of_pos i (show 0 < b by omega)
  have d0 : 0 ≤ i / b := Int.ediv_nonneg i0 (by omega)
  have d1 : i / b ≤ i := Int.ediv_le_self _ i0
  rw [tdiv_nn i0, tmod_nn i0]
  exact ⟨w64 (by omega) (by omega), by rw [w64 (by omega) (by omega)]; omega, w64 (by omega) (by omega), w64 (by omega) (by omega), d0, by omega⟩
 have hwn : wrapI ((n : Int) - 1) = (n : Int) - 1 := w64 (by omega) (by omega)
 constructor
 ·
  rw [impl_listOf.f_eq, impl_order.f_eq, Option.bind_some, hw0, hwn, Int.toNat_natCast]
  (with_reducible repeat (first | refine go_pos (by first | assumption | omega | rfl | exact B_pos (by omega)) ?_ | refine go_neg (by first | assumption | omega | decide | exact B_not (by omega)) ?_ | refine go_bind (by first | assumption) ?_ | dsimp only))
  suffices H : ∀ (n : Nat) (i : Int) (t : List Int), n ≤ 4 → (n = 0 ∨ 1 ≤ b) → 0 ≤ i → i ≤ 16807 → impl_listOf.l0 i b ((n : Int) - 1) (List.replicate n 0 ++ t) = some (lst b n i ++ t) by
   simpa using H n i [] hn b1 i0 i1
  intro n
  induction n with
  | zero => intro i t _ _ _ _; rw [impl_listOf.l0_eq]; (with_reducible repeat (first | refine go_pos (by first | assumption | omega | rfl | exact B_pos (by omega)) ?_ | refine go_neg (by first | assumption | omega | decide | exact B_not (by omega)) ?_ | refine go_bind (by first | assumption) ?_ | dsimp only)); rfl
  | succ n ih =>
   intro i t hn b1 i0 i1
   obtain ⟨f1, f2, f3, f5, f6, f7⟩ := fact n i (by omega) (by omega) i0 i1
   have h := ih (i / b) ((i % b + 1) :: t) (by omega) (by omega) f6 f7
   have e : ((n + 1 : Nat) : Int) - 1 = (n : Int) := by omega
   have l1 : (List.replicate (n + 1) (0 : Int) ++ t).length = n + 1 + t.length := by rw [List.length_append, List.length_replicate]
   rw [e, impl_listOf.l0_eq, f1, f2, f5, Int.toNat_natCast, set_last]
   (with_reducible repeat (first | refine go_pos (by first | assumption | omega | rfl | exact B_pos (by omega)) ?_ | refine go_neg (by first | assumption | omega | decide | exact B_not (by omega)) ?_ | refine go_bind (by first | assumption) ?_ | dsimp only))
   rw [h, lst, List.append_assoc, List.singleton_append]
 ·
  trivial
theorem cells_two {g : List (List Int)} (hg : Grp g) {n : Nat} (hc : 0 < cells g n) : n = 0 ∨ 2 ≤ g.length := by
 have n1 := hg.n1
 by_cases h : n = 0
 ·
  exact .inl h
 by_cases h2 : 2 ≤ g.length
 ·
  exact .inr h2
 ·
  have : (g.length : Int) - 1 = 0 := by omega
  have e : cells g (n : Int) = 0 := by unfold cells; rw [this, Int.toNat_natCast]; exact Int.zero_pow h
  omega
theorem cell_list {g : List (List Int)} (hg : Grp g) {n i : Nat} (hn : n ≤ 4) (hi : (i : Int) < cells g n) : impl_listOf.f g (n : Int) i = some (lst ((g.length : Int) - 1) n i) ∧ True := by
 have hb := cells_bd hg (d := (n : Int)) (by omega)
 exact listOf hg n (cells_two hg (by omega)) hn (by omega) (by omega)
theorem lst_grp {g : List (List Int)} (hg : Grp g) {n i : Nat} (hi : (i : Int) < cells g n) : AllIn g.length (lst ((g.length : Int) - 1) n i) ∧ NoUnit (lst ((g.length : Int) - 1) n i) := by
 have n1 := hg.n1
 have H : ∀ x ∈ lst ((g.length : Int) - 1) n i, 1 ≤ x ∧ x < g.length := by
  rcases cells_two hg (show 0 < cells g n by omega) with h | g2
  ·
   subst h; intro x hx; simp [lst] at hx
  ·
   intro x hx
   have := lst_in (b := (g.length : Int) - 1) (by omega) n i x hx
   omega
 exact ⟨allIn_of fun x hx => by have := H x hx; omega, fun j j0 j1 h => by have := H _ (rd_mem j0 j1); omega⟩
theorem mapped {F : Int → Option Int} {G : Int → Int} (xs : List Int) (hl : xs.length ≤ 1048576) (hF : ∀ x ∈ xs, F x = some (G x)) : impl_mapped.f xs F = some (xs.map G) := by
 rw [impl_mapped.f_eq]
 have := up xs.length (fun j => impl_mapped.l0 F xs (xs.length : Int) (j : Int) ((xs.take j).map G)) (fun j h => by
  have hw : wrapI ((j : Int) + 1) = ((j + 1 : Nat) : Int) := by rw [w64 (by omega) (by omega)]; omega
  have l1 : ((xs.take j).map G).length = j := by rw [List.length_map, List.length_take]; omega
  have l2 : ∀ x : Int, ([x] : List Int).length = 1 := fun _ => rfl
  have hf := hF _ (rd_mem (show (0 : Int) ≤ j by omega) (show (j : Int) < xs.length by omega))
  rw [take_rd h, List.map_append, List.map_singleton, impl_mapped.l0_eq, hw, hf, Option.bind_some, l1, l2]
  ((with_reducible repeat (first | refine go_pos (by first | assumption | omega | rfl | exact B_pos (by omega)) ?_ | refine go_neg (by first | assumption | omega | decide | exact B_not (by omega)) ?_ | refine go_bind (by first | assumption) ?_ | dsimp only)); first | done | (with_reducible rfl) | simp (disch := omega) only [w64] | (show False; done)))
 simp only [Int.natCast_zero, List.take_zero, List.map_nil, List.take_length] at this
 rw [this, impl_mapped.l0_eq]
 ((with_reducible repeat (first | refine go_pos (by first | assumption | omega | rfl | exact B_pos (by omega)) ?_ | refine go_neg (by first | assumption | omega | decide | exact B_not (by omega)) ?_ | refine go_bind (by first | assumption) ?_ | dsimp only)); first | done | (with_reducible rfl) | simp (disch := omega) only [w64] | (show False; done))
theorem build_step (G : Nat → Int) (n i : Nat) (h : i < n) : ((List.range i).map G ++ List.replicate (n - i) 0).set i (G i) = (List.range (i + 1)).map G ++ List.replicate (n - (i + 1)) 0 := by
 rw [List.set_append, if_neg (by simp), List.length_map, List.length_range, Nat.sub_self, show n - i = (n - (i + 1)) + 1 by omega, List.replicate_succ, List.set_cons_zero, List.range_succ, List.map_append]
 simp
theorem build_len (G : Nat → Int) (n i : Nat) (h : i ≤ n) : ((List.range i).map G ++ List.replicate (n - i) 0).length = n := by rw [List.length_append, List.length_map, List.length_range, List.length_replicate]; omega
theorem mod_mod {a m : Int} (m0 : 0 < m) (m1 : m ≤ 1000000) : Int.tmod (wrapI (Int.tmod a m + m)) m = a % m := by
 have t0 := Int.tmod_lt_of_pos a m0
 have t1 : -m < Int.tmod a m := Int.lt_tmod_of_pos a m0
 have hq := Int.mul_tdiv_add_tmod a m
 have h5 : (m * a.tdiv m + a.tmod m) % m = a.tmod m % m := by rw [Int.add_comm, Int.add_mul_emod_self_left]
 rw [hq] at h5
 rw [w64 (by omega) (by omega), Int.tmod_eq_emod_of_nonneg (show 0 ≤ Int.tmod a m + m by omega), Int.add_emod_right, ← h5]
theorem zero_ {g : List (List Int)} (hg : Grp g) {n : Nat} (hn : n ≤ 4) : impl_zero.f g (n : Int) = some ((n : Int), List.replicate (cells g n).toNat 0) := by
 have hb := cells_bd hg (d := (n : Int)) (by omega)
 have hc := cells_ hg (d := (n : Int)) (by omega) (by omega)
 rw [impl_zero.f_eq]
 ((with_reducible repeat (first | refine go_pos (by first | assumption | omega | rfl | exact B_pos (by omega)) ?_ | refine go_neg (by first | assumption | omega | decide | exact B_not (by omega)) ?_ | refine go_bind (by first | assumption) ?_ | dsimp only)); first | done | (with_reducible rfl) | simp (disch := omega) only [w64] | (show False; done))
theorem told {g : List (List Int)} (hg : Grp g) {m : Int} (m2 : 2 ≤ m) (m12 : m ≤ 12) {n : Nat} (hn : n ≤ 4) {F : List Int → Option Int} {G : Nat → Int} (hF : ∀ i : Nat, (i : Int) < cells g n → F (lst ((g.length : Int) - 1) n i) = some (G i)) :
  impl_told.f g m (n : Int) F = some ((n : Int), (List.range (cells g n).toNat).map fun i => G i % m) := by
 have hb := cells_bd hg (d := (n : Int)) (by omega)
 have hz := zero_ hg hn
 obtain ⟨N, hN⟩ : ∃ N, N = (cells g n).toNat := ⟨_, rfl⟩
 rw [impl_told.f_eq, hz, Option.bind_some, ← hN]
 have := up N (fun j => impl_told.l0 m (n : Int) F (N : Int) (j : Int) g 0 (n : Int) ((List.range j).map (fun i => G i % m) ++ List.replicate (N - j) 0)) (fun j h => by
  have hw : wrapI ((j : Int) + 1) = ((j + 1 : Nat) : Int) := by rw [w64 (by omega) (by omega)]; omega
  have f := hF j (by omega)
  have hl := (cell_list hg hn (i := j) (by omega)).1
  have l1 := build_len (fun i => G i % m) N j (by omega)
  have e := mod_mod (a := G j) (m := m) (by omega) (by omega)
  rw [← build_step (fun i => G i % m) N j h, impl_told.l0_eq, hw, hl, Option.bind_some, f, Option.bind_some, e, Int.toNat_natCast]
  ((with_reducible repeat (first | refine go_pos (by first | assumption | omega | rfl | exact B_pos (by omega)) ?_ | refine go_neg (by first | assumption | omega | decide | exact B_not (by omega)) ?_ | refine go_bind (by first | assumption) ?_ | dsimp only)); first | done | (with_reducible rfl) | simp (disch := omega) only [w64] | (show False; done)))
 simp only [Int.natCast_zero, List.range_zero, List.map_nil, List.nil_append, Nat.sub_zero, Nat.sub_self, List.replicate_zero, List.append_nil] at this
 simp only [List.length_replicate]
 rw [this, impl_told.l0_eq]
 ((with_reducible repeat (first | refine go_pos (by first | assumption | omega | rfl | exact B_pos (by omega)) ?_ | refine go_neg (by first | assumption | omega | decide | exact B_not (by omega)) ?_ | refine go_bind (by first | assumption) ?_ | dsimp only)); first | done | (with_reducible rfl) | simp (disch := omega) only [w64] | (show False; done))
end Go.Proofs.Ytjknpaplgclflaa.V
namespace Go.Proofs.Ytjknpaplgclflaa.V
open Go.RowKit Go.Proofs.Ytjknpaplgclflaa.D Go.Proofs.Ytjknpaplgclflaa.P
def join2 (g : List (List Int)) (xs : List Int) (j : Nat) : List Int := (xs.take j ++ [T g (rd xs j) (rd xs (j + 1 : Nat))]) ++ xs.drop (j + 2)
noncomputable def bsum (g : List (List Int)) (u v xs : List Int) : Nat → Int × Int
 | 0 => (rd u (rd xs 0) * At g v (xs.drop 1), -1)
 | j + 1 => ((bsum g u v xs j).1 + (bsum g u v xs j).2 * At g v (join2 g xs j), 0 - (bsum g u v xs j).2)
noncomputable def Bd (g : List (List Int)) (u v xs : List Int) (d : Nat) : Int := (bsum g u v xs d).1 + (bsum g u v xs d).2 * At g v (xs.take d)
theorem join2_in {g : List (List Int)} (hg : Grp g) {xs : List Int} (hx : AllIn g.length xs) {j : Nat} (hj : j + 1 < xs.length) : AllIn g.length (join2 g xs j) ∧ (join2 g xs j).length + 1 = xs.length := by
 obtain ⟨a0, a1⟩ := hx j (by omega) (by omega)
 obtain ⟨b0, b1⟩ := hx (j + 1 : Nat) (by omega) (by omega)
 obtain ⟨t0, t1⟩ := hg.ent _ _ a0 a1 b0 b1
 refine ⟨AllIn.append (AllIn.append (hx.take j) (allIn_one t0 t1)) (hx.drop _), ?_⟩
 simp only [join2, List.length_append, List.length_take, List.length_drop, List.length_singleton]
 omega
theorem bsum_bd {g : List (List Int)} (hg : Grp g) {m : Int} {u v xs : List Int} {d : Nat} (hm : Mdl g m u) (hc : Co g m d v) (hx : AllIn g.length xs) (hl : xs.length = d + 1) :
  ∀ j, j ≤ d → (-1000000 - 12 * (j : Int) ≤ (bsum g u v xs j).1 ∧ (bsum g u v xs j).1 ≤ 1000000 + 12 * (j : Int)) ∧ ((bsum g u v xs j).2 = 1 ∨ (bsum g u v xs j).2 = -1) := by
 have m2 := hm.m2; have m12 := hm.m12
 obtain ⟨x0, x1⟩ := hx 0 (by omega) (by omega)
 intro j
 induction j with
 | zero =>
  intro _
  have ha := At_bd hg (by omega) hc (hx.drop 1) (by rw [List.length_drop, hl]; simp)
  obtain ⟨c0, c1⟩ := small_prod hm x0 x1 ha.1 ha.2
  rw [show bsum g u v xs 0 = (rd u (rd xs 0) * At g v (xs.drop 1), -1) from rfl]
  exact ⟨⟨by dsimp only; omega, by dsimp only; omega⟩, .inr rfl⟩
 | succ j ih =>
  intro hj
  obtain ⟨⟨h1, h2⟩, h3⟩ := ih (by omega)
  obtain ⟨k1, k2⟩ := join2_in hg hx (j := j) (by omega)
  have ha := At_bd hg (by omega) hc k1 (by omega)
  simp only [bsum]
  rcases h3 with h3 | h3 <;> rw [h3] <;> refine ⟨⟨by omega, by omega⟩, ?_⟩
  ·
   exact .inr rfl
  ·
   exact .inl rfl
theorem bsum_w {g : List (List Int)} (hg : Grp g) {m : Int} {u v xs ys : List Int} {d : Nat} (hm : Mdl g m u) (hc : Co g m d v) (hx : AllIn g.length xs) (hl : xs.length = d + 1) {j : Nat} (hj : j ≤ d) (hy : AllIn g.length ys) (hyl : ys.length = d) :
  wrapI ((bsum g u v xs j).1 + wrapI ((bsum g u v xs j).2 * At g v ys)) = (bsum g u v xs j).1 + (bsum g u v xs j).2 * At g v ys ∧ wrapI (0 - (bsum g u v xs j).2) = 0 - (bsum g u v xs j).2 ∧ -2000000 ≤ (bsum g u v xs j).1 + (bsum g u v xs j).2 * At g v ys ∧ (bsum g u v xs j).1 + (bsum g u v xs j).2 * At g v ys ≤ 2000000 := by
 have m2 := hm.m2; have m12 := hm.m12; have d3 := hc.1.2
 obtain ⟨⟨s1, s2⟩, s3⟩ := bsum_bd hg hm hc hx hl j hj
 have hb := At_bd hg (by omega) hc hy (by omega)
 have p1 : -100 ≤ (bsum g u v xs j).2 * At g v ys ∧ (bsum g u v xs j).2 * At g v ys ≤ 100 := by rcases s3 with s3 | s3 <;> rw [s3] <;> omega
 rw [w64 (x := (bsum g u v xs j).2 * At g v ys) (by omega) (by omega)]
 exact ⟨w64 (by omega) (by omega), w64 (by omega) (by omega), by omega, by omega⟩
theorem head_w {g : List (List Int)} (hg : Grp g) {m : Int} {u v xs : List Int} {d : Nat} (hm : Mdl g m u) (hc : Co g m d v) (hx : AllIn g.length xs) (hl : xs.length = d + 1) :
  wrapI (rd u (rd xs 0) * At g v (xs.drop 1)) = rd u (rd xs 0) * At g v (xs.drop 1) := by
 have m2 := hm.m2; have m12 := hm.m12
 obtain ⟨x0, x1⟩ := hx 0 (by omega) (by omega)
 have ha := At_bd hg (by omega) hc (hx.drop 1) (by rw [List.length_drop, hl]; simp)
 obtain ⟨c0, c1⟩ := small_prod hm x0 x1 ha.1 ha.2
 exact w64 (by omega) (by omega)
theorem Own_ (xs : List Int) (hl : xs.length ≤ 1048576) : spec_l01Own.f xs = some xs := by
 rw [spec_l01Own.f_eq, List.nil_append, show ([] : List Int).length = 0 from rfl]
 ((with_reducible repeat (first | refine go_pos (by first | assumption | omega | rfl | exact B_pos (by omega)) ?_ | refine go_neg (by first | assumption | omega | decide | exact B_not (by omega)) ?_ | refine go_bind (by first | assumption) ?_ | dsimp only)); first | done | (with_reducible rfl) | simp (disch := omega) only [w64] | (show False; done))
theorem w2n {j : Nat} (h : j < 4611686018427387904) : wrapI ((j : Int) + 2) = ((j + 2 : Nat) : Int) := by rw [w64 (by omega) (by omega)]; omega
theorem boundaryAt {g : List (List Int)} (hg : Grp g) {m : Int} {u v xs : List Int} {d : Nat} (hm : Mdl g m u) (hc : Co g m d v) (hx : AllIn g.length xs) (hl : xs.length = d + 1) :
  impl_boundaryAt.f g m u d v xs = some (Bd g u v xs d) := by
 have hlu := hm.len; have n8 := hg.n8; have d3 := hc.1.2
 obtain ⟨x0, x1⟩ := hx 0 (by omega) (by omega)
 have h0 := at_ hg hc (hx.drop 1) (by rw [List.length_drop, hl]; simp)
 have hat := at_ hg hc (hx.take d) (by rw [List.length_take, hl]; omega)
 have loop := up d (fun i => impl_boundaryAt.l0 xs (d : Int) (bsum g u v xs i).1 (bsum g u v xs i).2 (d : Int) (i : Int) g d v) (fun j hj => by
  obtain ⟨a0, a1⟩ := hx j (by omega) (by omega)
  obtain ⟨b0, b1⟩ := hx (j + 1 : Nat) (by omega) (by omega)
  obtain ⟨k1, k2⟩ := join2_in hg hx (j := j) (by omega)
  have hv : impl_Cochain_at.f d v g (xs.take j ++ [T g (rd xs j) (rd xs (j + 1 : Nat))] ++ xs.drop (j + 2)) = some (At g v (join2 g xs j)) := show impl_Cochain_at.f d v g (join2 g xs j) = _ from at_ hg hc k1 (by omega)
  have ht := times2 hg a0 a1 b0 b1
  obtain ⟨w3, w4, _, _⟩ := bsum_w hg hm hc hx hl (j := j) (by omega) k1 (by omega)
  have z1 : (xs.take j).length = j := by rw [List.length_take]; omega
  have z0 : ([] : List Int).length = 0 := rfl
  have z2 : ∀ y : Int, ([y] : List Int).length = 1 := fun _ => rfl
  have z3 : (xs.drop (j + 2)).length = xs.length - (j + 2) := List.length_drop
  rw [impl_boundaryAt.l0_eq, wn (j := j) (by omega), w2n (j := j) (by omega), Int.toNat_natCast, Int.toNat_natCast, z0, List.nil_append, z1, ht, Option.bind_some, z2]
  rw [List.length_append, z1, z2, z3, hv, Option.bind_some, w3, w4]
  (with_reducible repeat (first | refine go_pos (by first | assumption | omega | rfl | exact B_pos (by omega)) ?_ | refine go_neg (by first | assumption | omega | decide | exact B_not (by omega)) ?_ | refine go_bind (by first | assumption) ?_ | dsimp only))
  rfl)
 have wl : wrapI ((xs.length : Int) - 1) = (d : Int) := by rw [w64 (by omega) (by omega)]; omega
 obtain ⟨w3, _, _, _⟩ := bsum_w hg hm hc hx hl (j := d) (by omega) (hx.take d) (by rw [List.length_take]; omega)
 have e1 : xs.drop (1 : Int).toNat = xs.drop 1 := rfl
 rw [impl_boundaryAt.f_eq, e1, h0, Option.bind_some, wl, head_w hg hm hc hx hl]
 (with_reducible repeat (first | refine go_pos (by first | assumption | omega | rfl | exact B_pos (by omega)) ?_ | refine go_neg (by first | assumption | omega | decide | exact B_not (by omega)) ?_ | refine go_bind (by first | assumption) ?_ | dsimp only))
 refine loop.trans ?_
 rw [impl_boundaryAt.l0_eq, Int.toNat_natCast, hat, Option.bind_some, w3]
 (with_reducible repeat (first | refine go_pos (by first | assumption | omega | rfl | exact B_pos (by omega)) ?_ | refine go_neg (by first | assumption | omega | decide | exact B_not (by omega)) ?_ | refine go_bind (by first | assumption) ?_ | dsimp only))
 rfl
noncomputable def bdV (g : List (List Int)) (u v : List Int) (d i : Nat) : Int := Bd g u v (lst ((g.length : Int) - 1) (d + 1) (i : Int)) d
noncomputable def bdL (g : List (List Int)) (m : Int) (u v : List Int) (d : Nat) : List Int := (List.range (cells g ((d + 1 : Nat) : Int)).toNat).map fun i => bdV g u v d i % m
theorem boundary_ {g : List (List Int)} (hg : Grp g) {m : Int} {u v : List Int} {d : Nat} (hm : Mdl g m u) (hc : Co g m d v) : impl_boundary.f g m u d v = some (((d + 1 : Nat) : Int), bdL g m u v d) := by
 have d3 := hc.1.2
 have hT := told hg hm.m2 hm.m12 (n := d + 1) (by omega) (F := fun z0 => (impl_boundary_1.f z0 g m u d v).map fun z => z) (G := bdV g u v d) (fun i hi => by
  obtain ⟨hx, _⟩ := lst_grp hg (n := d + 1) (i := i) hi
  have hll := lst_length ((g.length : Int) - 1) (d + 1) i
  have e : impl_boundary_1.f (lst ((g.length : Int) - 1) (d + 1) i) g m u d v = some (bdV g u v d i) := by
   rw [impl_boundary_1.f_eq, boundaryAt hg hm hc hx hll]; rfl
  show Option.map _ (impl_boundary_1.f _ g m u d v) = _
  rw [e]; rfl)
 rw [impl_boundary.f_eq, wn (j := d) (by omega), hT]
 rfl
end Go.Proofs.Ytjknpaplgclflaa.V
namespace Go.Proofs.Ytjknpaplgclflaa.V
open Go.RowKit Go.Proofs.Ytjknpaplgclflaa.D
abbrev Vc := Nat → Int
inductive Sp (m : Int) (W : Nat) (G : Vc → Prop) : Vc → Prop
 | nil : Sp m W G (fun _ => 0)
 | add {x g : Vc} (c : Int) : Sp m W G x → G g → Sp m W G (fun i => x i + c * g i)
 | alike {x y : Vc} : Sp m W G x → (∀ i, i < W → m ∣ x i - y i) → Sp m W G y
section
variable {m : Int} {W : Nat} {G G' : Vc → Prop} {x y : Vc}
theorem dvd_same {m a b : Int} (h : a = b) : m ∣ a - b := ⟨0, by omega⟩
theorem Sp.plus (hx : Sp m W G x) (hy : Sp m W G y) : Sp m W G (fun i => x i + y i) := by
 induction hy with
 | nil => exact .alike hx fun i _ => dvd_same (by dsimp only; omega)
 | add c _ hg ih => exact .alike (.add c ih hg) fun i _ => dvd_same (by dsimp only; omega)
 | alike _ h ih =>
  refine .alike ih fun i hi => ?_
  have := h i hi
  rwa [show ∀ a b c : Int, a + b - (a + c) = b - c from fun a b c => by omega]
theorem Sp.mul (c : Int) (hx : Sp m W G x) : Sp m W G (fun i => c * x i) := by
 induction hx with
 | nil => exact .alike .nil fun i _ => dvd_same (by simp)
 | add d _ hg ih => exact .alike (.add (c * d) ih hg) fun i _ => dvd_same (by rw [Int.mul_add, Int.mul_assoc])
 | alike _ h ih =>
  refine .alike ih fun i hi => ?_
  rw [← Int.mul_sub]
  exact Int.dvd_mul_of_dvd_right (h i hi)
theorem Sp.gen {g : Vc} (h : G g) : Sp m W G g := .alike (.add 1 .nil h) fun i _ => dvd_same (by omega)
theorem Sp.mono (h : ∀ g, G g → Sp m W G' g) (hx : Sp m W G x) : Sp m W G' x := by
 induction hx with
 | nil => exact .nil
 | add c _ hg ih => exact ih.plus ((h _ hg).mul c)
 | alike _ h' ih => exact .alike ih h'
theorem Sp.two {a b : Int} (hx : Sp m W G x) (hy : Sp m W G y) {z : Vc} (h : ∀ i, i < W → m ∣ a * x i + b * y i - z i) : Sp m W G z := .alike ((hx.mul a).plus (hy.mul b)) h
theorem Sp.dvd {d : Int} (hd : d ∣ m) {i : Nat} (hi : i < W) (h : ∀ g, G g → d ∣ g i) (hx : Sp m W G x) : d ∣ x i := by
 induction hx with
 | nil => exact Int.dvd_zero d
 | add c _ hg ih => exact Int.dvd_add ih (Int.dvd_mul_of_dvd_right (h _ hg))
 | alike _ h' ih =>
  have := Int.dvd_sub ih (Int.dvd_trans hd (h' i hi))
  rwa [show ∀ a b : Int, a - (a - b) = b from fun a b => by omega] at this
structure Sub (m : Int) (W : Nat) (M : Vc → Prop) : Prop where
 zero : M fun _ => 0
 lin : ∀ x y, M x → M y → ∀ c, M fun i => x i + c * y i
 alike : ∀ x y, M x → (∀ i, i < W → m ∣ x i - y i) → M y
theorem Sp.sub : Sub m W (Sp m W G) := ⟨.nil, fun _ _ hx hy c => hx.plus (hy.mul c), fun _ _ hx h => .alike hx h⟩
theorem Sub.all {M : Vc → Prop} (hM : Sub m W M) (h : ∀ g, G g → M g) (hx : Sp m W G x) : M x := by
 induction hx with
 | nil => exact hM.zero
 | add c _ hg ih => exact hM.lin _ _ ih (h _ hg) c
 | alike _ h' ih => exact hM.alike _ _ ih h'
end
def V (x : List Int) : Vc := fun i => rd x (i : Int)
structure PRow (m : Int) (W j : Nat) (r : List Int) : Prop where
 len : r.length = W
 ent : AllIn m r
 zero : ∀ i : Nat, i < j → rd r (i : Int) = 0
 pos : 0 < rd r (j : Int)
 lt : rd r (j : Int) < m
 dvd : rd r (j : Int) ∣ m
structure PTab (m : Int) (W : Nat) (p : List (List Int)) : Prop where
 len : p.length = W
 rws : ∀ j : Nat, j < W → row p (j : Int) = [] ∨ PRow m W j (row p (j : Int))
def Rws (W : Nat) (p : List (List Int)) (k : Nat) : Vc → Prop := fun g => ∃ j : Nat, k ≤ j ∧ j < W ∧ row p (j : Int) ≠ [] ∧ g = V (row p (j : Int))
def GT (W : Nat) (p st : List (List Int)) (k : Nat) : Vc → Prop := fun g => Rws W p k g ∨ ∃ s ∈ st, (∀ i : Nat, i < k → rd s (i : Int) = 0) ∧ g = V s
def How (m : Int) (W : Nat) (p : List (List Int)) (G : Nat → Vc → Prop) : Prop := ∀ j : Nat, j < W → row p (j : Int) ≠ [] → Sp m W (G (j + 1)) (fun i => m / rd (row p (j : Int)) (j : Int) * rd (row p (j : Int)) (i : Int))
structure Inv (m : Int) (W : Nat) (p st : List (List Int)) : Prop where
 tab : PTab m W p
 sts : ∀ s ∈ st, s.length = W ∧ AllIn m s
 how : How m W p (GT W p st)
def dv (m : Int) (p : List (List Int)) (j : Nat) : Int := if row p (j : Int) = [] then m else rd (row p (j : Int)) (j : Int)
structure Lead (m : Int) (W : Nat) (p : List (List Int)) (M : Vc → Prop) : Prop where
 tab : PTab m W p
 sub : Sub m W M
 own : ∀ j : Nat, j < W → row p (j : Int) ≠ [] → M (V (row p (j : Int)))
 lead : ∀ x, M x → ∀ j : Nat, j < W → (∀ i : Nat, i < j → m ∣ x i) → dv m p j ∣ x j
section
variable {m : Int} {W : Nat} {p : List (List Int)}
theorem PTab.prow (h : PTab m W p) {j : Nat} (hj : j < W) (hr : row p (j : Int) ≠ []) : PRow m W j (row p (j : Int)) := (h.rws j hj).resolve_left hr
theorem Rws.zero (h : PTab m W p) {k j : Nat} {g : Vc} (hg : Rws W p k g) (hj : j < k) : g j = 0 := by
 obtain ⟨i, h1, h2, h3, rfl⟩ := hg
 exact (h.prow h2 h3).zero j (by omega)
theorem Rws.part {k : Nat} (hk : k < W) (hr : row p (k : Int) ≠ []) {x : Vc} (hx : Sp m W (Rws W p k) x) : ∃ (c : Int) (w : Vc), Sp m W (Rws W p (k + 1)) w ∧ ∀ i, i < W → m ∣ c * V (row p (k : Int)) i + w i - x i := by
 induction hx with
 | nil => exact ⟨0, _, .nil, fun i _ => dvd_same (by simp)⟩
 | add d _ hg ih =>
  obtain ⟨c, w, h1, h2⟩ := ih
  obtain ⟨j, j1, j2, j3, rfl⟩ := hg
  by_cases e : j = k
  ·
   subst e
   refine ⟨c + d, w, h1, fun i hi => ?_⟩
   have := h2 i hi
   rw [Int.add_mul]
   rwa [show ∀ a b c d : Int, a + b + c - (d + b) = a + c - d from fun a b c d => by omega]
  ·
   refine ⟨c, _, .add d h1 ⟨j, by omega, j2, j3, rfl⟩, fun i hi => ?_⟩
   have := h2 i hi
   dsimp only
   rwa [show ∀ a b c d : Int, a + (b + c) - (d + c) = a + b - d from fun a b c d => by omega]
 | alike _ h ih =>
  obtain ⟨c, w, h1, h2⟩ := ih
  refine ⟨c, w, h1, fun i hi => ?_⟩
  have := Int.dvd_add (h2 i hi) (h i hi)
  rwa [show ∀ a b c : Int, a - b + (b - c) = a - c from fun a b c => by omega] at this
theorem Rws.next {k : Nat} (hr : row p (k : Int) = []) {x : Vc} (hx : Sp m W (Rws W p k) x) : Sp m W (Rws W p (k + 1)) x := hx.mono fun g ⟨j, j1, j2, j3, e⟩ => .gen ⟨j, by
 rcases Nat.lt_or_eq_of_le j1 with h | rfl
 ·
  exact h
 ·
  exact absurd hr j3, j2, j3, e⟩
theorem Rws.down (m0 : 0 < m) (ht : PTab m W p) (hh : How m W p (Rws W p)) {x : Vc} (hx : Sp m W (Rws W p 0) x) {j : Nat} (hj : j ≤ W) (hz : ∀ i : Nat, i < j → m ∣ x i) : ∀ k, k ≤ j → Sp m W (Rws W p k) x := by
 intro k
 induction k with
 | zero => exact fun _ => hx
 | succ k ih =>
  intro hk
  have h := ih (by omega)
  by_cases hr : row p (k : Int) = []
  ·
   exact Rws.next hr h
  have hp := ht.prow (by omega) hr
  obtain ⟨c, w, h1, h2⟩ := Rws.part (by omega) hr h
  have hw : m ∣ w k := h1.dvd (Int.dvd_refl m) (by omega) fun g hg => by rw [Rws.zero ht hg (by omega)]; exact Int.dvd_zero m
  have hc : m ∣ c * rd (row p (k : Int)) (k : Int) := by
   have := Int.dvd_add (h2 k (by omega)) (hz k (by omega))
   rw [show ∀ a b c : Int, a + b - c + c = a + b from fun a b c => by omega] at this
   have := Int.dvd_sub this hw
   rwa [show ∀ a b : Int, a + b - b = a from fun a b => by omega] at this
  obtain ⟨q, hq⟩ := hp.dvd
  have hd := hp.pos
  have hmd : m / rd (row p (k : Int)) (k : Int) = q := by rw [hq]; exact Int.mul_ediv_cancel_left _ (by omega)
  obtain ⟨t, ht'⟩ : q ∣ c := by
   obtain ⟨t, ht'⟩ := hc
   refine ⟨t, Int.eq_of_mul_eq_mul_left (show rd (row p (k : Int)) (k : Int) ≠ 0 by omega) ?_⟩
   rw [Int.mul_comm, ht', hq, Int.mul_assoc]
  have hH := hh k (by omega) hr
  rw [hmd] at hH
  refine .alike ((hH.mul t).plus h1) fun i hi => ?_
  have := h2 i hi
  rwa [show t * (q * rd (row p (k : Int)) (i : Int)) = c * V (row p (k : Int)) i by rw [ht', ← Int.mul_assoc, Int.mul_comm t q]; rfl]
theorem lead_of (m0 : 0 < m) (ht : PTab m W p) (hh : How m W p (Rws W p)) {M : Vc → Prop} (hM : ∀ x, Sp m W (Rws W p 0) x ↔ M x) : Lead m W p M where
 tab := ht
 sub := by rw [show M = Sp m W (Rws W p 0) from funext fun x => propext (hM x).symm]; exact Sp.sub
 own := fun j hj hr => (hM _).1 (.gen ⟨j, Nat.zero_le _, hj, hr, rfl⟩)
 lead := fun x hx j hj hz => by
  have h := Rws.down m0 ht hh ((hM x).2 hx) (Nat.le_of_lt hj) hz j (Nat.le_refl _)
  unfold dv
  by_cases hr : row p (j : Int) = []
  ·
   rw [if_pos hr]
   exact (Rws.next hr h).dvd (Int.dvd_refl m) hj fun g hg => by rw [Rws.zero ht hg (by omega)]; exact Int.dvd_zero m
  ·
   rw [if_neg hr]
   have hp := ht.prow hj hr
   refine h.dvd hp.dvd hj fun g hg => ?_
   obtain ⟨i, i1, i2, i3, rfl⟩ := hg
   by_cases e : i = j
   ·
    subst e; exact Int.dvd_refl _
   ·
    have : V (row p (i : Int)) j = 0 := (ht.prow i2 i3).zero j (by omega)
    rw [this]; exact Int.dvd_zero _
theorem dv_bd (m0 : 0 < m) (ht : PTab m W p) {j : Nat} (hj : j < W) : 0 < dv m p j ∧ dv m p j ≤ m ∧ dv m p j ∣ m := by
 unfold dv
 by_cases hr : row p (j : Int) = []
 ·
  rw [if_pos hr]; exact ⟨m0, Int.le_refl _, Int.dvd_refl _⟩
 ·
  rw [if_neg hr]
  have hp := ht.prow hj hr
  exact ⟨hp.pos, by have := hp.lt; omega, hp.dvd⟩
theorem dvd_pos {a b : Int} (ha : 0 < a) (hb : 0 < b) (h : a ∣ b) : a ≤ b := Int.le_of_dvd hb h
theorem dv_same (m0 : 0 < m) {p' : List (List Int)} {M : Vc → Prop} (h : Lead m W p M) (h' : Lead m W p' M) {j : Nat} (hj : j < W) : dv m p j = dv m p' j := by
 have key : ∀ {p p' : List (List Int)}, Lead m W p M → Lead m W p' M → dv m p j ∣ dv m p' j := fun {p p'} h h' => by
  by_cases hr : row p' (j : Int) = []
  ·
   rw [show dv m p' j = m from if_pos hr]; exact (dv_bd m0 h.tab hj).2.2
  ·
   rw [show dv m p' j = rd (row p' (j : Int)) (j : Int) from if_neg hr]
   have hp := h'.tab.prow hj hr
   exact h.lead _ (h'.own j hj hr) j hj fun i hi => by rw [show V (row p' (j : Int)) i = 0 from hp.zero i hi]; exact Int.dvd_zero m
 have a := dvd_pos (dv_bd m0 h.tab hj).1 (dv_bd m0 h'.tab hj).1 (key h h')
 have b := dvd_pos (dv_bd m0 h'.tab hj).1 (dv_bd m0 h.tab hj).1 (key h' h)
 omega
structure Least (m : Int) (W : Nat) (p : List (List Int)) (M : Vc → Prop) (x y : List Int) : Prop where
 len : y.length = W
 ent : AllIn m y
 dif : M fun i => rd x (i : Int) - rd y (i : Int)
 lt : ∀ j : Nat, j < W → rd y (j : Int) < dv m p j
theorem Least.same (m0 : 0 < m) {p' : List (List Int)} {M : Vc → Prop} (h : Lead m W p M) (h' : Lead m W p' M) {x y y' : List Int} (hy : Least m W p M x y) (hy' : Least m W p' M x y') : y = y' := by
 have hd : M fun i => rd y (i : Int) - rd y' (i : Int) := by
  refine h.sub.alike _ _ (h.sub.lin _ _ hy'.dif hy.dif (-1)) fun i _ => dvd_same ?_
  omega
 have hall : ∀ n, n ≤ W → ∀ i : Nat, i < n → rd y (i : Int) = rd y' (i : Int) := by
  intro n
  induction n with
  | zero => intro _ i hi; omega
  | succ n ih =>
   intro hn i hi
   have ih := ih (by omega)
   by_cases e : i = n
   ·
    subst e
    have hl := h.lead _ hd i (by omega) fun k hk => by rw [ih k hk]; exact ⟨0, by omega⟩
    have a1 := hy.lt i (by omega)
    have a2 := hy'.lt i (by omega)
    rw [← dv_same m0 h h' (show i < W by omega)] at a2
    obtain ⟨b1, _⟩ := hy.ent i (by omega) (by rw [hy.len]; omega)
    obtain ⟨b2, _⟩ := hy'.ent i (by omega) (by rw [hy'.len]; omega)
    have hd0 := (dv_bd m0 h.tab (show i < W by omega)).1
    obtain ⟨q, hq⟩ := hl
    have q0 : q = 0 := by
     rcases Int.lt_trichotomy q 0 with h | h | h
     ·
      have := Int.mul_le_mul_of_nonneg_left (show q ≤ -1 by omega) (Int.le_of_lt hd0)
      omega
     ·
      exact h
     ·
      have := Int.mul_le_mul_of_nonneg_left (show 1 ≤ q by omega) (Int.le_of_lt hd0)
      omega
    rw [q0] at hq
    omega
   ·
    exact ih i (by omega)
 refine ext_rd (by rw [hy.len, hy'.len]) fun i i0 i1 => ?_
 obtain ⟨n, rfl⟩ := Int.eq_ofNat_of_zero_le i0
 exact hall W (Nat.le_refl _) n (by have := hy.len; omega)
end
end Go.Proofs.Ytjknpaplgclflaa.V
namespace Go.Proofs.Ytjknpaplgclflaa.V
open Go.RowKit Go.Proofs.Ytjknpaplgclflaa.D Go.Proofs.Ytjknpaplgclflaa.P
theorem ModW {a m : Int} (h0 : -4000000000000000000 ≤ a) (h1 : a ≤ 4000000000000000000) (m0 : 0 < m) (m1 : m ≤ 1000000) : spec_l01Mod.f a m = some (a % m) := by
 rw [spec_l01Mod.f_eq]
 have t0 := Int.tmod_lt_of_pos a m0
 have t1 : -m < Int.tmod a m := Int.lt_tmod_of_pos a m0
 have hq := Int.mul_tdiv_add_tmod a m
 have h5 : (m * a.tdiv m + a.tmod m) % m = a.tmod m % m := by rw [Int.add_comm, Int.add_mul_emod_self_left]
 rw [hq] at h5
 rw [w64 (by omega) (by omega), Int.tmod_eq_emod_of_nonneg (show 0 ≤ Int.tmod a m + m by omega), Int.add_emod_right, ← h5]
 ((with_reducible repeat (first | refine go_pos (by first | assumption | omega | rfl | exact B_pos (by omega)) ?_ | refine go_neg (by first | assumption | omega | decide | exact B_not (by omega)) ?_ | refine go_bind (by first | assumption) ?_ | dsimp only)); first | done | (with_reducible rfl) | simp (disch := omega) only [w64] | (show False; done))
def mix (m x : Int) (a : List Int) (y : Int) (b : List Int) : List Int := (List.range a.length).map fun (i : Nat) => (x * rd a (i : Int) + y * rd b (i : Int)) % m
theorem mix_length (m x : Int) (a : List Int) (y : Int) (b : List Int) : (mix m x a y b).length = a.length := by simp [mix]
theorem mix_rd {m x : Int} {a : List Int} {y : Int} {b : List Int} {i : Nat} (h : i < a.length) : rd (mix m x a y b) (i : Int) = (x * rd a (i : Int) + y * rd b (i : Int)) % m := by
 rw [rd_get (by rw [mix_length]; exact h)]
 simp [mix]
theorem mix_in {m x : Int} {a : List Int} {y : Int} {b : List Int} (m0 : 0 < m) : AllIn m (mix m x a y b) := by
 refine allIn_of fun z hz => ?_
 obtain ⟨i, _, rfl⟩ := List.mem_map.1 hz
 exact ⟨Int.emod_nonneg _ (by omega), Int.emod_lt_of_pos _ m0⟩
theorem mix_dvd {m x : Int} {a : List Int} {y : Int} {b : List Int} {i : Nat} (h : i < a.length) : m ∣ x * rd a (i : Int) + y * rd b (i : Int) - rd (mix m x a y b) (i : Int) := by
 rw [mix_rd h]
 exact Int.dvd_self_sub_emod
theorem mul_bd {x a B m : Int} (x0 : -B ≤ x) (x1 : x ≤ B) (a0 : 0 ≤ a) (a1 : a < m) (m1 : m ≤ 12) (B0 : 0 ≤ B) : -(12 * B) ≤ x * a ∧ x * a ≤ 12 * B := by
 have h1 : x * a ≤ B * a := Int.mul_le_mul_of_nonneg_right x1 a0
 have h2 : (-B) * a ≤ x * a := Int.mul_le_mul_of_nonneg_right x0 a0
 have h3 : B * a ≤ B * 12 := Int.mul_le_mul_of_nonneg_left (by omega) B0
 rw [Int.neg_mul] at h2
 constructor <;> omega
theorem set_take {xs ys : List Int} {j : Nat} (hl : ys.length = xs.length) (hj : j < xs.length) {z : Int} (hz : z = rd ys (j : Int)) : (ys.take j ++ xs.drop j).set j z = ys.take (j + 1) ++ xs.drop (j + 1) := by
 subst hz
 rw [rd_get (by omega)]
 apply List.ext_getElem
 ·
  simp; omega
 ·
  intro i h1 h2
  rw [List.getElem_set]
  by_cases e : j = i
  ·
   subst e
   rw [if_pos rfl, List.getElem_append_left (by simp; omega)]
   simp
  ·
   rw [if_neg e]
   by_cases e2 : i < j
   ·
    rw [List.getElem_append_left (by simp; omega), List.getElem_append_left (by simp; omega)]
    simp
   ·
    have : (List.take j ys).length = j := by simp; omega
    have : (List.take (j + 1) ys).length = j + 1 := by simp; omega
    rw [List.getElem_append_right (by omega), List.getElem_append_right (by omega)]
    simp only [List.getElem_drop]
    congr 1
    omega
theorem combined {m : Int} (m2 : 2 ≤ m) (m12 : m ≤ 12) {p : List (List Int)} {x y : Int} {a b : List Int} (ha : AllIn m a) (hb : AllIn m b) (hl : b.length = a.length) (hW : a.length ≤ 1000000) (x0 : -100000000000000 ≤ x) (x1 : x ≤ 100000000000000) (y0 : -100000000000000 ≤ y) (y1 : y ≤ 100000000000000) :
  impl_span_combined.f m p x a y b = some (mix m x a y b) := by
 have hz : (List.replicate a.length (0 : Int)).length = a.length := List.length_replicate
 have hml := mix_length m x a y b
 have loop := up a.length (fun j => impl_span_combined.l0 x y b a (a.length : Int) (j : Int) m p ((mix m x a y b).take j ++ (List.replicate a.length (0 : Int)).drop j)) (fun j hj => by
  obtain ⟨a0, a1⟩ := ha j (by omega) (by omega)
  obtain ⟨b0, b1⟩ := hb j (by omega) (by omega)
  have p1 := mul_bd x0 x1 a0 a1 m12 (by omega)
  have p2 := mul_bd y0 y1 b0 b1 m12 (by omega)
  have t0 := Int.tmod_lt_of_pos (x * rd a (j : Int) + y * rd b (j : Int)) (show 0 < m by omega)
  have t1 : -m < Int.tmod (x * rd a (j : Int) + y * rd b (j : Int)) m := Int.lt_tmod_of_pos _ (by omega)
  have hq := Int.mul_tdiv_add_tmod (x * rd a (j : Int) + y * rd b (j : Int)) m
  have h5 : (m * (x * rd a (j : Int) + y * rd b (j : Int)).tdiv m + (x * rd a (j : Int) + y * rd b (j : Int)).tmod m) % m = (x * rd a (j : Int) + y * rd b (j : Int)).tmod m % m := by rw [Int.add_comm, Int.add_mul_emod_self_left]
  rw [hq] at h5
  have hv : (wrapI ((wrapI (wrapI (x * rd a (j : Int)) + wrapI (y * rd b (j : Int)))).tmod m + m)).tmod m = rd (mix m x a y b) (j : Int) := by
   rw [w64 (x := x * rd a (j : Int)) (by omega) (by omega), w64 (x := y * rd b (j : Int)) (by omega) (by omega), w64 (x := x * rd a (j : Int) + y * rd b (j : Int)) (by omega) (by omega), w64 (by omega) (by omega), mix_rd hj, Int.tmod_eq_emod_of_nonneg (by omega), Int.add_emod_right, ← h5]
  have hs := set_take (xs := List.replicate a.length (0 : Int)) (ys := mix m x a y b) (by omega) (by omega) (j := j) hv
  have hll : (((mix m x a y b).take j ++ (List.replicate a.length (0 : Int)).drop j).length : Int) = a.length := by simp; omega
  rw [impl_span_combined.l0_eq, wn (j := j) (by omega), Int.toNat_natCast, hs, hll]
  ((with_reducible repeat (first | refine go_pos (by first | assumption | omega | rfl | exact B_pos (by omega)) ?_ | refine go_neg (by first | assumption | omega | decide | exact B_not (by omega)) ?_ | refine go_bind (by first | assumption) ?_ | dsimp only)); first | done | (with_reducible rfl) | simp (disch := omega) only [w64] | (show False; done)))
 rw [impl_span_combined.f_eq, Int.toNat_natCast]
 rw [List.take_zero, List.nil_append, List.drop_zero, Int.natCast_zero] at loop
 rw [loop, impl_span_combined.l0_eq, show (mix m x a y b).take a.length = mix m x a y b from List.take_of_length_le (by omega), List.drop_of_length_le (by simp), List.append_nil]
 ((with_reducible repeat (first | refine go_pos (by first | assumption | omega | rfl | exact B_pos (by omega)) ?_ | refine go_neg (by first | assumption | omega | decide | exact B_not (by omega)) ?_ | refine go_bind (by first | assumption) ?_ | dsimp only)); first | done | (with_reducible rfl) | simp (disch := omega) only [w64] | (show False; done))
end Go.Proofs.Ytjknpaplgclflaa.V
namespace Go.Proofs.Ytjknpaplgclflaa.V
open Go.RowKit Go.Proofs.Ytjknpaplgclflaa.D Go.Proofs.Ytjknpaplgclflaa.P
theorem bez (a b : Nat) : ∃ s t : Int, s * a + t * b = ((Nat.gcd a b : Nat) : Int) := by
 induction a, b using Nat.gcd.induction with
 | H0 n => exact ⟨0, 1, by simp⟩
 | H1 a b ha ih =>
  obtain ⟨s, t, h⟩ := ih
  refine ⟨t - s * ((b / a : Nat) : Int), s, ?_⟩
  rw [Nat.gcd_rec a b, ← h]
  have h1 : (b : Int) = (a : Int) * ((b / a : Nat) : Int) + ((b % a : Nat) : Int) := by exact_mod_cast (Nat.div_add_mod b a).symm
  rw [Int.sub_mul, Int.mul_assoc, Int.mul_comm ((b / a : Nat) : Int) (a : Int)]
  have h2 : s * (b : Int) = s * ((a : Int) * ((b / a : Nat) : Int)) + s * ((b % a : Nat) : Int) := by rw [← Int.mul_add, ← h1]
  omega
theorem bez_mod {m a b : Int} (m0 : 0 < m) (a0 : 0 ≤ a) (b0 : 0 ≤ b) : ∃ x y : Int, (0 ≤ x ∧ x < m) ∧ (0 ≤ y ∧ y < m) ∧ m ∣ x * a + y * b - ((Int.gcd ((Int.gcd a b : Nat) : Int) m : Nat) : Int) := by
 obtain ⟨A, rfl⟩ := Int.eq_ofNat_of_zero_le a0
 obtain ⟨C, rfl⟩ := Int.eq_ofNat_of_zero_le b0
 obtain ⟨M, rfl⟩ := Int.eq_ofNat_of_zero_le (Int.le_of_lt m0)
 obtain ⟨s, t, h1⟩ := bez A C
 obtain ⟨s', t', h2⟩ := bez (Nat.gcd A C) M
 refine ⟨(s' * s) % M, (s' * t) % M, ⟨Int.emod_nonneg _ (by omega), Int.emod_lt_of_pos _ m0⟩, ⟨Int.emod_nonneg _ (by omega), Int.emod_lt_of_pos _ m0⟩, ?_⟩
 show (M : Int) ∣ (s' * s) % M * A + (s' * t) % M * C - ((Nat.gcd (Nat.gcd A C) M : Nat) : Int)
 have e1 : (s' * s) % (M : Int) = s' * s - M * (s' * s / M) := by have := Int.mul_ediv_add_emod (s' * s) M; omega
 have e2 : (s' * t) % (M : Int) = s' * t - M * (s' * t / M) := by have := Int.mul_ediv_add_emod (s' * t) M; omega
 rw [e1, e2]
 refine ⟨-(s' * s / M * A) - (s' * t / M * C) - t', ?_⟩
 have h3 : s' * (s * (A : Int) + t * (C : Int)) = s' * ((Nat.gcd A C : Nat) : Int) := by rw [h1]
 rw [Int.mul_add, ← Int.mul_assoc, ← Int.mul_assoc] at h3
 rw [Int.sub_mul, Int.sub_mul, Int.mul_sub, Int.mul_sub, Int.mul_neg, Int.mul_assoc (M : Int), Int.mul_assoc (M : Int), Int.mul_comm (M : Int) t']
 omega
theorem tmod_zero {a m : Int} : Int.tmod a m = 0 ↔ m ∣ a := ⟨Int.dvd_of_tmod_eq_zero, Int.tmod_eq_zero_of_dvd⟩
theorem bezout {m : Int} (m2 : 2 ≤ m) (m12 : m ≤ 12) {p : List (List Int)} {a b : Int} (a0 : 0 ≤ a) (a1 : a ≤ 12) (b0 : 0 ≤ b) (b1 : b ≤ 12) :
  ∃ x y : Int, impl_span_bezout.f m p a b = some (x, y, ((Int.gcd ((Int.gcd a b : Nat) : Int) m : Nat) : Int)) ∧ (0 ≤ x ∧ x < m) ∧ (0 ≤ y ∧ y < m) ∧ m ∣ x * a + y * b - ((Int.gcd ((Int.gcd a b : Nat) : Int) m : Nat) : Int) := by
 have hg1 := gcd_ a0 b0
 have hg2 := gcd_ (a := ((Int.gcd a b : Nat) : Int)) (b := m) (by omega) (by omega)
 have hd : 0 ≤ ((Int.gcd ((Int.gcd a b : Nat) : Int) m : Nat) : Int) ∧ ((Int.gcd ((Int.gcd a b : Nat) : Int) m : Nat) : Int) ≤ m := by
  constructor
  ·
   omega
  ·
   exact Int.le_of_dvd (by omega) (Int.gcd_dvd_right ..)
 obtain ⟨x0, y0, hx0, hy0, h0⟩ := bez_mod (m := m) (by omega) a0 b0
 rw [impl_span_bezout.f_eq, hg1, Option.bind_some, hg2, Option.bind_some]
 generalize ((Int.gcd ((Int.gcd a b : Nat) : Int) m : Nat) : Int) = d at hd h0 ⊢
 have inner : ∀ (n : Nat) (x y : Int), 0 ≤ x → x < m → 0 ≤ y → y + n = m → (∃ y', (0 ≤ y' ∧ y' < m) ∧ m ∣ x * a + y' * b - d ∧ impl_span_bezout.l1 a b d x m x m y m p = some (x, y', d)) ∨ ((∀ y', y ≤ y' → y' < m → ¬ m ∣ x * a + y' * b - d) ∧ impl_span_bezout.l1 a b d x m x m y m p = impl_span_bezout.l0 a b d m (x + 1) m p) := by
  intro n
  induction n with
  | zero =>
   intro x y hx hx' hy hn
   refine .inr ⟨fun y' h1 h2 => by omega, ?_⟩
   rw [impl_span_bezout.l1_eq, w64 (x := x + 1) (by omega) (by omega)]
   ((with_reducible repeat (first | refine go_pos (by first | assumption | omega | rfl | exact B_pos (by omega)) ?_ | refine go_neg (by first | assumption | omega | decide | exact B_not (by omega)) ?_ | refine go_bind (by first | assumption) ?_ | dsimp only)); first | done | (with_reducible rfl) | simp (disch := omega) only [w64] | (show False; done))
  | succ n ih =>
   intro x y hx hx' hy hn
   have p1 := mul_bd (x := x) (a := a) (B := 12) (m := 13) (by omega) (by omega) a0 (by omega)
   have q1 : 0 ≤ x * a := Int.mul_nonneg hx a0
   have q2 : x * a ≤ 12 * 12 := Int.mul_le_mul (by omega) a1 a0 (by omega)
   have q3 : 0 ≤ y * b := Int.mul_nonneg hy b0
   have q4 : y * b ≤ 12 * 12 := Int.mul_le_mul (by omega) b1 b0 (by omega)
   have hv : wrapI (wrapI (wrapI (x * a) + wrapI (y * b)) - d) = x * a + y * b - d := by
    rw [w64 (x := x * a) (by omega) (by omega), w64 (x := y * b) (by omega) (by omega), w64 (x := x * a + y * b) (by omega) (by omega), w64 (by omega) (by omega)]
   by_cases h : m ∣ x * a + y * b - d
   ·
    refine .inl ⟨y, ⟨hy, by omega⟩, h, ?_⟩
    have ht := tmod_zero.2 h
    rw [impl_span_bezout.l1_eq, hv]
    ((with_reducible repeat (first | refine go_pos (by first | assumption | omega | rfl | exact B_pos (by omega)) ?_ | refine go_neg (by first | assumption | omega | decide | exact B_not (by omega)) ?_ | refine go_bind (by first | assumption) ?_ | dsimp only)); first | done | (with_reducible rfl) | simp (disch := omega) only [w64] | (show False; done))
   ·
    have ht : ¬ Int.tmod (x * a + y * b - d) m = 0 := fun k => h (tmod_zero.1 k)
    have hl : impl_span_bezout.l1 a b d x m x m y m p = impl_span_bezout.l1 a b d x m x m (y + 1) m p := by
     rw [impl_span_bezout.l1_eq, hv, w64 (x := y + 1) (by omega) (by omega)]
     ((with_reducible repeat (first | refine go_pos (by first | assumption | omega | rfl | exact B_pos (by omega)) ?_ | refine go_neg (by first | assumption | omega | decide | exact B_not (by omega)) ?_ | refine go_bind (by first | assumption) ?_ | dsimp only)); first | done | (with_reducible rfl) | simp (disch := omega) only [w64] | (show False; done))
    rcases ih x (y + 1) hx hx' (by omega) (by omega) with ⟨y', h1, h2, h3⟩ | ⟨h1, h2⟩
    ·
     exact .inl ⟨y', h1, h2, hl.trans h3⟩
    ·
     refine .inr ⟨fun y' k1 k2 => ?_, hl.trans h2⟩
     by_cases e : y' = y
     ·
      rw [e]; exact h
     ·
      exact h1 y' (by omega) k2
 have outer : ∀ (n : Nat) (x : Int), 0 ≤ x → x + n = m → x ≤ x0 → ∃ x' y', impl_span_bezout.l0 a b d m x m p = some (x', y', d) ∧ (0 ≤ x' ∧ x' < m) ∧ (0 ≤ y' ∧ y' < m) ∧ m ∣ x' * a + y' * b - d := by
  intro n
  induction n with
  | zero => intro x hx hn hx0'; omega
  | succ n ih =>
   intro x hx hn hx0'
   have hl : impl_span_bezout.l0 a b d m x m p = impl_span_bezout.l1 a b d x m x m 0 m p := by
    rw [impl_span_bezout.l0_eq]
    ((with_reducible repeat (first | refine go_pos (by first | assumption | omega | rfl | exact B_pos (by omega)) ?_ | refine go_neg (by first | assumption | omega | decide | exact B_not (by omega)) ?_ | refine go_bind (by first | assumption) ?_ | dsimp only)); first | done | (with_reducible rfl) | simp (disch := omega) only [w64] | (show False; done))
   rw [hl]
   rcases inner m.toNat x 0 hx (by omega) (by omega) (by omega) with ⟨y', h1, h2, h3⟩ | ⟨h1, h2⟩
   ·
    exact ⟨x, y', h3, ⟨hx, by omega⟩, h1, h2⟩
   ·
    rw [h2]
    refine ih (x + 1) (by omega) (by omega) ?_
    by_cases e : x = x0
    ·
     exact absurd (e ▸ h0) (h1 y0 hy0.1 hy0.2)
    ·
     omega
 exact outer m.toNat 0 (by omega) (by omega) hx0.1
end Go.Proofs.Ytjknpaplgclflaa.V
namespace Go.Proofs.Ytjknpaplgclflaa.V
open Go.RowKit Go.Proofs.Ytjknpaplgclflaa.D
theorem row_set_same {p : List (List Int)} {j : Nat} {n : List Int} (h : j < p.length) : row (p.set j n) (j : Int) = n := by
 rw [row_get (by rw [List.length_set]; exact h)]
 simp
theorem row_set_ne {p : List (List Int)} {i j : Nat} {n : List Int} (h : i ≠ j) : row (p.set j n) (i : Int) = row p (i : Int) := by
 simp only [row, Int.toNat_natCast, List.getD_eq_getElem?_getD, List.getElem?_set, if_neg (show ¬ j = i from fun e => h e.symm)]
def Zb (k : Nat) (s : List Int) : Prop := ∀ i : Nat, i < k → rd s (i : Int) = 0
section
variable {m : Int} {W : Nat} {p p' st st' : List (List Int)} {M : Vc → Prop}
theorem PTab.set (h : PTab m W p) {j : Nat} {n : List Int} (hj : j < W) (hn : PRow m W j n) : PTab m W (p.set j n) where
 len := by rw [List.length_set]; exact h.len
 rws := fun i hi => by
  by_cases e : i = j
  ·
   subst e; rw [row_set_same (by rw [h.len]; exact hj)]; exact .inr hn
  ·
   rw [row_set_ne e]; exact h.rws i hi
theorem PRow.ne {j : Nat} {n : List Int} (h : PRow m W j n) : n ≠ [] := fun e => by
 have := h.pos
 rw [e] at this
 simp [rd] at this
def dsum (m : Int) (p : List (List Int)) : Nat → Int
 | 0 => 0
 | k + 1 => dsum m p k + dv m p k
theorem dv_set_same (hl : p.length = W) {j : Nat} {n : List Int} (hj : j < W) (hn : n ≠ []) : dv m (p.set j n) j = rd n (j : Int) := by
 unfold dv; rw [row_set_same (by omega), if_neg hn]
theorem dv_set_ne {i j : Nat} {n : List Int} (h : i ≠ j) : dv m (p.set j n) i = dv m p i := by
 unfold dv; rw [row_set_ne h]
theorem dsum_set (hl : p.length = W) {j : Nat} {n : List Int} (hj : j < W) : ∀ k, dsum m (p.set j n) k = dsum m p k + if j < k then dv m (p.set j n) j - dv m p j else 0 := by
 intro k
 induction k with
 | zero => simp [dsum]
 | succ k ih =>
  rw [dsum, dsum, ih]
  by_cases e : j = k
  ·
   subst e
   rw [if_neg (Nat.lt_irrefl j), if_pos (Nat.lt_succ_self j)]; omega
  ·
   rw [dv_set_ne (fun q => e q.symm)]
   by_cases h : j < k
   ·
    rw [if_pos h, if_pos (by omega)]; omega
   ·
    rw [if_neg h, if_neg (by omega)]; omega
theorem dsum_bd (m0 : 0 < m) (ht : PTab m W p) : ∀ k, k ≤ W → 0 ≤ dsum m p k ∧ dsum m p k ≤ m * k := by
 intro k
 induction k with
 | zero => intro _; simp [dsum]
 | succ k ih =>
  intro hk
  obtain ⟨a, b⟩ := ih (by omega)
  obtain ⟨c, d, _⟩ := dv_bd m0 ht (show k < W by omega)
  rw [dsum, show m * ((k + 1 : Nat) : Int) = m * (k : Int) + m by rw [Int.natCast_add, Int.mul_add]; simp]
  omega
structure Pst (m : Int) (W : Nat) (p st : List (List Int)) (M : Vc → Prop) : Prop where
 inv : Inv m W p st
 spn : ∀ x, Sp m W (GT W p st 0) x ↔ M x
theorem Pst.step (h : Pst m W p st M) (ht : PTab m W p') (hs : ∀ s ∈ st', s.length = W ∧ AllIn m s)
  (ha : ∀ k g, GT W p st k g → Sp m W (GT W p' st' k) g) (hb : ∀ g, GT W p' st' 0 g → Sp m W (GT W p st 0) g)
  (hn : ∀ j : Nat, j < W → row p' (j : Int) ≠ [] → row p' (j : Int) ≠ row p (j : Int) → Sp m W (GT W p' st' (j + 1)) (fun i => m / rd (row p' (j : Int)) (j : Int) * rd (row p' (j : Int)) (i : Int))) : Pst m W p' st' M where
 inv := ⟨ht, hs, fun j hj hr => by
  by_cases e : row p' (j : Int) = row p (j : Int)
  ·
   have := h.inv.how j hj (by rw [← e]; exact hr)
   rw [e]
   exact this.mono (ha (j + 1))
  ·
   exact hn j hj hr e⟩
 spn := fun x => by
  rw [← h.spn x]
  exact ⟨fun hx => hx.mono hb, fun hx => hx.mono (ha 0)⟩
theorem GT.zb {k : Nat} {s : List Int} (hs : s ∈ st) (hz : Zb k s) : GT W p st k (V s) := .inr ⟨s, hs, hz, rfl⟩
theorem Pst.drop {v : List Int} (h : Pst m W p (st ++ [v]) M) (hz : Zb W v) : Pst m W p st M := by
 refine h.step h.inv.tab (fun s hs => h.inv.sts s (List.mem_append_left _ hs)) (fun k g hg => ?_) (fun g hg => .gen ?_) (fun j _ _ e => absurd rfl e)
 ·
  rcases hg with hg | ⟨s, hs, hk, rfl⟩
  ·
   exact .gen (.inl hg)
  ·
   rcases List.mem_append.1 hs with hs | hs
   ·
    exact .gen (.inr ⟨s, hs, hk, rfl⟩)
   ·
    rw [List.mem_singleton] at hs
    subst hs
    exact .alike .nil fun i hi => by rw [show V s i = 0 from hz i hi]; exact ⟨0, by omega⟩
 ·
  rcases hg with hg | ⟨s, hs, hk, rfl⟩
  ·
   exact .inl hg
  ·
   exact .inr ⟨s, List.mem_append_left _ hs, hk, rfl⟩
theorem Pst.less {v w : List Int} {c : Int} (h : Pst m W p (st ++ [v]) M) {j : Nat} (hj : j < W) (hr : row p (j : Int) ≠ []) (hvj : rd v (j : Int) ≠ 0) (hw : w.length = W ∧ AllIn m w) (hz : Zb j w)
  (he : ∀ i : Nat, i < W → m ∣ 1 * rd v (i : Int) + (-c) * rd (row p (j : Int)) (i : Int) - rd w (i : Int)) : Pst m W p (st ++ [w]) M := by
 refine h.step h.inv.tab (fun s hs => ?_) (fun k g hg => ?_) (fun g hg => ?_) (fun j _ _ e => absurd rfl e)
 ·
  rcases List.mem_append.1 hs with hs | hs
  ·
   exact h.inv.sts s (List.mem_append_left _ hs)
  ·
   rw [List.mem_singleton] at hs; subst hs; exact hw
 ·
  rcases hg with hg | ⟨s, hs, hk, rfl⟩
  ·
   exact .gen (.inl hg)
  ·
   rcases List.mem_append.1 hs with hs | hs
   ·
    exact .gen (.inr ⟨s, List.mem_append_left _ hs, hk, rfl⟩)
   ·
    rw [List.mem_singleton] at hs
    subst hs
    have hkj : k ≤ j := by
     by_cases q : k ≤ j
     ·
      exact q
     ·
      exact absurd (hk j (by omega)) hvj
    refine Sp.two (a := 1) (b := c) (x := V w) (y := V (row p (j : Int))) (.gen (GT.zb (List.mem_append_right _ (List.mem_singleton.2 rfl)) fun i hi => hz i (by omega))) (.gen (.inl ⟨j, hkj, hj, hr, rfl⟩)) fun i hi => ?_
    obtain ⟨q, hq⟩ := he i hi
    refine ⟨-q, ?_⟩
    rw [Int.mul_neg, ← hq, Int.neg_mul]
    show 1 * rd w (i : Int) + c * rd (row p (j : Int)) (i : Int) - rd s (i : Int) = _
    omega
 ·
  rcases hg with hg | ⟨s, hs, hk, rfl⟩
  ·
   exact .gen (.inl hg)
  ·
   rcases List.mem_append.1 hs with hs | hs
   ·
    exact .gen (.inr ⟨s, List.mem_append_left _ hs, hk, rfl⟩)
   ·
    rw [List.mem_singleton] at hs
    subst hs
    exact Sp.two (a := 1) (b := -c) (x := V v) (y := V (row p (j : Int))) (.gen (GT.zb (List.mem_append_right _ (List.mem_singleton.2 rfl)) fun i hi => by omega)) (.gen (.inl ⟨j, Nat.zero_le _, hj, hr, rfl⟩)) fun i hi => he i hi
theorem Pst.swap {v n : List Int} {ws : List (List Int)} (h : Pst m W p (st ++ [v]) M) {j : Nat} (hj : j < W) (hvj : rd v (j : Int) ≠ 0) (hn : PRow m W j n) (hws : ∀ w ∈ ws, (w.length = W ∧ AllIn m w) ∧ Zb (j + 1) w)
  (ho : row p (j : Int) ≠ [] → Sp m W (fun g => g = V n ∨ ∃ w ∈ ws, g = V w) (V (row p (j : Int))))
  (hv : Sp m W (fun g => g = V n ∨ ∃ w ∈ ws, g = V w) (V v))
  (hd : Sp m W (fun g => ∃ w ∈ ws, g = V w) (fun i => m / rd n (j : Int) * rd n (i : Int)))
  (hb : ∀ g, (g = V n ∨ ∃ w ∈ ws, g = V w) → Sp m W (fun g => g = V v ∨ (row p (j : Int) ≠ [] ∧ g = V (row p (j : Int)))) g) : Pst m W (p.set j n) (st ++ ws) M := by
 have hpl : j < p.length := by rw [h.inv.tab.len]; exact hj
 have hsame : row (p.set j n) (j : Int) = n := row_set_same hpl
 have new : ∀ k, k ≤ j → ∀ g, (g = V n ∨ ∃ w ∈ ws, g = V w) → Sp m W (GT W (p.set j n) (st ++ ws) k) g := fun k hk g hg => by
  rcases hg with rfl | ⟨w, hw, rfl⟩
  ·
   exact .gen (.inl ⟨j, hk, hj, by rw [hsame]; exact hn.ne, by rw [hsame]⟩)
  ·
   exact .gen (GT.zb (List.mem_append_right _ hw) fun i hi => (hws w hw).2 i (by omega))
 have old : ∀ g, (g = V v ∨ (row p (j : Int) ≠ [] ∧ g = V (row p (j : Int)))) → Sp m W (GT W p (st ++ [v]) 0) g := fun g hg => by
  rcases hg with rfl | ⟨hr, rfl⟩
  ·
   exact .gen (GT.zb (List.mem_append_right _ (List.mem_singleton.2 rfl)) fun i hi => by omega)
  ·
   exact .gen (.inl ⟨j, Nat.zero_le _, hj, hr, rfl⟩)
 refine h.step (h.inv.tab.set hj hn) (fun s hs => ?_) (fun k g hg => ?_) (fun g hg => ?_) (fun i hi hr e => ?_)
 ·
  rcases List.mem_append.1 hs with hs | hs
  ·
   exact h.inv.sts s (List.mem_append_left _ hs)
  ·
   exact (hws s hs).1
 ·
  rcases hg with ⟨i, hk, hi, hr, rfl⟩ | ⟨s, hs, hk, rfl⟩
  ·
   by_cases e : i = j
   ·
    subst e
    exact (ho hr).mono (new k hk)
   ·
    exact .gen (.inl ⟨i, hk, hi, by rw [row_set_ne e]; exact hr, by rw [row_set_ne e]⟩)
  ·
   rcases List.mem_append.1 hs with hs | hs
   ·
    exact .gen (.inr ⟨s, List.mem_append_left _ hs, hk, rfl⟩)
   ·
    rw [List.mem_singleton] at hs
    subst hs
    have hkj : k ≤ j := by
     by_cases q : k ≤ j
     ·
      exact q
     ·
      exact absurd (hk j (by omega)) hvj
    exact hv.mono (new k hkj)
 ·
  rcases hg with ⟨i, hk, hi, hr, rfl⟩ | ⟨s, hs, hk, rfl⟩
  ·
   by_cases e : i = j
   ·
    subst e
    rw [hsame]
    exact (hb _ (.inl rfl)).mono old
   ·
    rw [row_set_ne e] at hr ⊢
    exact .gen (.inl ⟨i, hk, hi, hr, rfl⟩)
  ·
   rcases List.mem_append.1 hs with hs | hs
   ·
    exact .gen (.inr ⟨s, List.mem_append_left _ hs, hk, rfl⟩)
   ·
    exact (hb _ (.inr ⟨s, hs, rfl⟩)).mono old
 ·
  by_cases q : i = j
  ·
   subst q
   rw [hsame]
   exact hd.mono fun g hg => by
    obtain ⟨w, hw, rfl⟩ := hg
    exact .gen (GT.zb (List.mem_append_right _ hw) (hws w hw).2)
  ·
   exact absurd (row_set_ne q) e
end
end Go.Proofs.Ytjknpaplgclflaa.V
set_option maxHeartbeats 4000000
namespace Go.Proofs.Ytjknpaplgclflaa.V
open Go.RowKit Go.Proofs.Ytjknpaplgclflaa.D Go.Proofs.Ytjknpaplgclflaa.P
theorem indexFunc (v : List Int) (hl : v.length ≤ 1000000) : (Zb v.length v ∧ slices_IndexFunc_int64.f v (fun z0 => (impl_span_put_1.f z0).map fun z => z) = some (-1)) ∨
  ∃ j : Nat, j < v.length ∧ Zb j v ∧ ¬ rd v (j : Int) = 0 ∧ slices_IndexFunc_int64.f v (fun z0 => (impl_span_put_1.f z0).map fun z => z) = some (j : Int) := by
 rw [slices_IndexFunc_int64.f_eq]
 obtain ⟨F, hF⟩ : ∃ F : Int → Option Bool, F = fun z0 => (impl_span_put_1.f z0).map fun z => z := ⟨_, rfl⟩
 rw [← hF]
 have hf : ∀ x, F x = some (!decide (x = 0)) := fun x => by rw [hF]; show Option.map _ (impl_span_put_1.f x) = _; rw [impl_span_put_1.f_eq]; rfl
 suffices H : ∀ d k : Nat, k + d = v.length → Zb k v → (Zb v.length v ∧ slices_IndexFunc_int64.l0 v F (v.length : Int) (k : Int) = some (-1)) ∨
   ∃ j : Nat, j < v.length ∧ Zb j v ∧ ¬ rd v (j : Int) = 0 ∧ slices_IndexFunc_int64.l0 v F (v.length : Int) (k : Int) = some (j : Int) from
  H v.length 0 (by omega) (fun i hi => by omega)
 intro d
 induction d with
 | zero =>
  intro k hd hz
  obtain rfl : k = v.length := by omega
  refine .inl ⟨hz, ?_⟩
  (rw [slices_IndexFunc_int64.l0_eq])
  ((with_reducible repeat (first | refine go_pos (by first | assumption | omega | rfl | exact B_pos (by omega)) ?_ | refine go_neg (by first | assumption | omega | decide | exact B_not (by omega)) ?_ | refine go_bind (by first | assumption) ?_ | dsimp only)); first | done | (with_reducible rfl) | simp (disch := omega) only [w64] | (show False; done))
 | succ d ih =>
  intro k hd hz
  have hfk := hf (rd v (k : Int))
  by_cases h : rd v (k : Int) = 0
  ·
   have st : slices_IndexFunc_int64.l0 v F (v.length : Int) (k : Int) = slices_IndexFunc_int64.l0 v F (v.length : Int) ((k + 1 : Nat) : Int) := by
    rw [h] at hfk
    rw [slices_IndexFunc_int64.l0_eq, wn (j := k) (by omega), h]
    (with_reducible repeat (first | refine go_pos (by first | assumption | omega | rfl | exact B_pos (by omega)) ?_ | refine go_neg (by first | assumption | omega | decide | exact B_not (by omega)) ?_ | refine go_bind (by first | assumption) ?_ | dsimp only))
   rw [st]
   refine ih (k + 1) (by omega) fun i hi => ?_
   by_cases e : i = k
   ·
    rw [e]; exact h
   ·
    exact hz i (by omega)
  ·
   refine .inr ⟨k, by omega, hz, h, ?_⟩
   rw [slices_IndexFunc_int64.l0_eq]
   (with_reducible repeat (first | refine go_pos (by first | assumption | omega | rfl | exact B_pos (by omega)) ?_ | refine go_neg (by first | assumption | omega | decide | exact B_not (by omega)) ?_ | refine go_bind (by first | assumption) ?_ | dsimp only))
   rw [decide_eq_false h]
   rfl
theorem rd_zeros (n : Nat) (i : Int) : rd (List.replicate n (0 : Int)) i = 0 := by
 simp only [rd, List.getD_eq_getElem?_getD, List.getElem?_replicate]
 split <;> rfl
theorem zeros_in {m : Int} (m0 : 0 < m) (n : Nat) : AllIn m (List.replicate n (0 : Int)) := fun i _ _ => by rw [rd_zeros]; omega
theorem lin_back {m a b c e : Int} (h : m ∣ 1 * a + (-e) * b - c) : m ∣ 1 * c + e * b - a := by
 obtain ⟨q, hq⟩ := h
 refine ⟨-q, ?_⟩
 rw [Int.mul_neg, ← hq, Int.neg_mul]
 omega
theorem tdiv_neg {d e : Int} (d0 : 0 < d) : Int.tdiv (0 - d * e) d = -e := by
 rw [show 0 - d * e = d * (-e) by rw [Int.mul_neg]; omega]
 exact Int.mul_tdiv_cancel_left _ (by omega)
theorem last_row (st : List (List Int)) (v : List Int) : row (st ++ [v]) (st.length : Int) = v := by simp [row, List.getD_eq_getElem?_getD]
theorem take_init (st : List (List Int)) (v : List Int) : (st ++ [v]).take st.length = st := by simp
theorem quot_bd {d e x : Int} (d0 : 0 < d) (h : x = d * e) (x0 : 0 ≤ x) (x1 : x ≤ 12) : 0 ≤ e ∧ e ≤ 12 := by
 constructor
 ·
  by_cases q : 0 ≤ e
  ·
   exact q
  ·
   have := Int.mul_le_mul_of_nonneg_left (show e ≤ -1 by omega) (Int.le_of_lt d0)
   omega
 ·
  by_cases q : e ≤ 12
  ·
   exact q
  ·
   have h1 := Int.mul_le_mul_of_nonneg_right (show 1 ≤ d by omega) (show 0 ≤ e by omega)
   omega
theorem put_top {m : Int} (m2 : 2 ≤ m) (m12 : m ≤ 12) {W : Nat} (hW : W ≤ 100000) {M : Vc → Prop} : ∀ (n j : Nat) (v : List Int) (p st : List (List Int)), W ≤ j + n → Zb j v → Pst m W p (st ++ [v]) M → st.length ≤ 1000000000 →
  (impl_span_put.l0 m p (st ++ [v]) = impl_span_put.l0 m p st ∧ Pst m W p st M) ∨
  ∃ p' ws, impl_span_put.l0 m p (st ++ [v]) = impl_span_put.l0 m p' (st ++ ws) ∧ ws.length = 3 ∧ Pst m W p' (st ++ ws) M ∧ dsum m p' W < dsum m p W := by
 intro n
 induction n with
 | zero =>
  intro j v p st hj hz h hst
  obtain ⟨hvl, hva⟩ := h.inv.sts v (List.mem_append_right _ (List.mem_singleton.2 rfl))
  have e0 : (st ++ [v]).length = st.length + 1 := by simp
  have e1 : wrapI (((st ++ [v]).length : Int) - 1) = (st.length : Int) := by rw [w64 (by omega) (by omega)]; omega
  rcases indexFunc v (by omega) with ⟨hzz, hI⟩ | ⟨i, hi, hzi, hne, hI⟩
  ·
   rw [hvl] at hzz
   refine .inl ⟨?_, h.drop hzz⟩
   rw [impl_span_put.l0_eq, e1, last_row, Int.toNat_natCast, take_init]
   ((with_reducible repeat (first | refine go_pos (by first | assumption | omega | rfl | exact B_pos (by omega)) ?_ | refine go_neg (by first | assumption | omega | decide | exact B_not (by omega)) ?_ | refine go_bind (by first | assumption) ?_ | dsimp only)); first | done | (with_reducible rfl) | simp (disch := omega) only [w64] | (show False; done))
  ·
   exact absurd (hz i (by omega)) hne
 | succ n ih =>
  intro j v p st hj hz h hst
  obtain ⟨hvl, hva⟩ := h.inv.sts v (List.mem_append_right _ (List.mem_singleton.2 rfl))
  have e0 : (st ++ [v]).length = st.length + 1 := by simp
  have e1 : wrapI (((st ++ [v]).length : Int) - 1) = (st.length : Int) := by rw [w64 (by omega) (by omega)]; omega
  rcases indexFunc v (by omega) with ⟨hzz, hI⟩ | ⟨i, hi, hzi, hne, hI⟩
  ·
   rw [hvl] at hzz
   refine .inl ⟨?_, h.drop hzz⟩
   rw [impl_span_put.l0_eq, e1, last_row, Int.toNat_natCast, take_init]
   ((with_reducible repeat (first | refine go_pos (by first | assumption | omega | rfl | exact B_pos (by omega)) ?_ | refine go_neg (by first | assumption | omega | decide | exact B_not (by omega)) ?_ | refine go_bind (by first | assumption) ?_ | dsimp only)); first | done | (with_reducible rfl) | simp (disch := omega) only [w64] | (show False; done))
  have hij : j ≤ i := by
   by_cases q : j ≤ i
   ·
    exact q
   ·
    exact absurd (hz i (by omega)) hne
  have hpl := h.inv.tab.len
  have hiW : i < W := by omega
  obtain ⟨v0, v1⟩ := hva i (by omega) (by omega)
  have swap : ∀ o : List Int, (row p (i : Int) = [] ∧ o = List.replicate v.length 0 ∨ row p (i : Int) ≠ [] ∧ o = row p (i : Int)) → (¬ rd o (i : Int) = 0 → ¬ Int.tmod (rd v (i : Int)) (rd o (i : Int)) = 0) →
    ∃ p' ws, impl_span_put.j1 v i o m p st = impl_span_put.l0 m p' (st ++ ws) ∧ ws.length = 3 ∧ Pst m W p' (st ++ ws) M ∧ dsum m p' W < dsum m p W := by
   intro o ho hnd
   have ol : o.length = W := by
    rcases ho with ⟨_, rfl⟩ | ⟨hr, rfl⟩
    ·
     rw [List.length_replicate]; exact hvl
    ·
     exact (h.inv.tab.prow hiW hr).len
   have oa : AllIn m o := by
    rcases ho with ⟨_, rfl⟩ | ⟨hr, rfl⟩
    ·
     exact zeros_in (by omega) _
    ·
     exact (h.inv.tab.prow hiW hr).ent
   have oz : Zb i o := by
    rcases ho with ⟨_, rfl⟩ | ⟨hr, rfl⟩
    ·
     exact fun k _ => rd_zeros _ _
    ·
     exact (h.inv.tab.prow hiW hr).zero
   obtain ⟨o0, o1⟩ := oa i (by omega) (by omega)
   obtain ⟨x, y, hbz, hx, hy, hxy⟩ := bezout m2 m12 (p := p) (a := rd o (i : Int)) (b := rd v (i : Int)) o0 (by omega) v0 (by omega)
   have dm : ((Int.gcd ((Int.gcd (rd o (i : Int)) (rd v (i : Int)) : Nat) : Int) m : Nat) : Int) ∣ m := Int.gcd_dvd_right ..
   have dg : ((Int.gcd ((Int.gcd (rd o (i : Int)) (rd v (i : Int)) : Nat) : Int) m : Nat) : Int) ∣ ((Int.gcd (rd o (i : Int)) (rd v (i : Int)) : Nat) : Int) := Int.gcd_dvd_left ..
   have dO := Int.dvd_trans dg (Int.gcd_dvd_left (a := rd o (i : Int)) (b := rd v (i : Int)))
   have dV := Int.dvd_trans dg (Int.gcd_dvd_right (a := rd o (i : Int)) (b := rd v (i : Int)))
   have d0 : 0 < ((Int.gcd ((Int.gcd (rd o (i : Int)) (rd v (i : Int)) : Nat) : Int) m : Nat) : Int) := by
    have : 0 < Int.gcd ((Int.gcd (rd o (i : Int)) (rd v (i : Int)) : Nat) : Int) m := Int.gcd_pos_of_ne_zero_right _ (by omega)
    omega
   generalize ((Int.gcd ((Int.gcd (rd o (i : Int)) (rd v (i : Int)) : Nat) : Int) m : Nat) : Int) = d at hbz hxy dm dO dV d0
   clear dg
   have dv1 : d ≤ rd v (i : Int) := Int.le_of_dvd (by omega) dV
   obtain ⟨eo, heo⟩ := dO
   obtain ⟨ev, hev⟩ := dV
   obtain ⟨eo0, eo1⟩ := quot_bd d0 heo o0 (by omega)
   obtain ⟨ev0, ev1⟩ := quot_bd d0 hev v0 (by omega)
   obtain ⟨md, hmd⟩ := dm
   obtain ⟨md0, md1⟩ := quot_bd d0 hmd (by omega) m12
   have hmdd : Int.tdiv m d = md := by rw [hmd]; exact Int.mul_tdiv_cancel_left _ (by omega)
   have hmde : m / d = md := by rw [hmd]; exact Int.mul_ediv_cancel_left _ (by omega)
   have c1 := combined m2 m12 (p := p) (x := x) (y := y) oa hva (by omega) (by omega) (by omega) (by omega) (by omega) (by omega)
   obtain ⟨nx, hnx⟩ : ∃ nx, nx = mix m x o y v := ⟨_, rfl⟩
   have nl : nx.length = W := by rw [hnx, mix_length, ol]
   have na : AllIn m nx := by rw [hnx]; exact mix_in (by omega)
   have nz : Zb i nx := fun k hk => by
    rw [hnx, mix_rd (by omega), oz k hk, hzi k hk]; simp
   have nd : rd nx (i : Int) = d := by
    rw [hnx, mix_rd (by omega)]
    have : (x * rd o (i : Int) + y * rd v (i : Int)) % m = d % m := by
     obtain ⟨q, hq⟩ := hxy
     rw [show x * rd o (i : Int) + y * rd v (i : Int) = d + m * q by omega, Int.add_mul_emod_self_left]
    rw [this, Int.emod_eq_of_lt (by omega) (by omega)]
   have nP : PRow m W i nx := ⟨nl, na, nz, by omega, by omega, by rw [nd]; exact ⟨md, hmd⟩⟩
   rw [← hnx] at c1
   have c2 := combined m2 m12 (p := p.set i nx) (x := 1) (y := -eo) oa na (by omega) (by omega) (by omega) (by omega) (by omega) (by omega)
   have c3 := combined m2 m12 (p := p.set i nx) (x := 1) (y := -ev) hva na (by omega) (by omega) (by omega) (by omega) (by omega) (by omega)
   have c4 := combined m2 m12 (p := p.set i nx) (x := md) (y := 0) na na rfl (by omega) (by omega) (by omega) (by omega) (by omega)
   have f1 : wrapI ((wrapI (0 - rd o (i : Int))).tdiv d) = -eo := by rw [w64 (x := 0 - rd o (i : Int)) (by omega) (by omega), heo, tdiv_neg d0, w64 (by omega) (by omega)]
   have f2 : wrapI ((wrapI (0 - rd v (i : Int))).tdiv d) = -ev := by rw [w64 (x := 0 - rd v (i : Int)) (by omega) (by omega), hev, tdiv_neg d0, w64 (by omega) (by omega)]
   have f3 : wrapI (Int.tdiv m d) = md := by rw [hmdd]; exact w64 (by omega) (by omega)
   have l3 : ∀ a b c : List Int, ([a, b, c] : List (List Int)).length = 3 := fun _ _ _ => rfl
   have hset : (p.set i nx).length = W := by rw [List.length_set]; exact hpl
   refine ⟨p.set i nx, [mix m 1 o (-eo) nx, mix m 1 v (-ev) nx, mix m md nx 0 nx], ?_, rfl, ?_, ?_⟩
   ·
    rw [impl_span_put.j1_eq]
    by_cases q : rd o (i : Int) = 0
    ·
     (with_reducible repeat (first | refine go_pos (by first | assumption | omega | rfl | exact B_pos (by omega)) ?_ | refine go_neg (by first | assumption | omega | decide | exact B_not (by omega)) ?_ | refine go_bind (by first | assumption) ?_ | dsimp only))
     rw [Int.toNat_natCast, f1]
     (with_reducible repeat (first | refine go_pos (by first | assumption | omega | rfl | exact B_pos (by omega)) ?_ | refine go_neg (by first | assumption | omega | decide | exact B_not (by omega)) ?_ | refine go_bind (by first | assumption) ?_ | dsimp only))
     rw [f2]
     (with_reducible repeat (first | refine go_pos (by first | assumption | omega | rfl | exact B_pos (by omega)) ?_ | refine go_neg (by first | assumption | omega | decide | exact B_not (by omega)) ?_ | refine go_bind (by first | assumption) ?_ | dsimp only))
     rw [f3]
     (with_reducible repeat (first | refine go_pos (by first | assumption | omega | rfl | exact B_pos (by omega)) ?_ | refine go_neg (by first | assumption | omega | decide | exact B_not (by omega)) ?_ | refine go_bind (by first | assumption) ?_ | dsimp only))
     rw [l3]
     (with_reducible repeat (first | refine go_pos (by first | assumption | omega | rfl | exact B_pos (by omega)) ?_ | refine go_neg (by first | assumption | omega | decide | exact B_not (by omega)) ?_ | refine go_bind (by first | assumption) ?_ | dsimp only))
    ·
     have q2 := hnd q
     (with_reducible repeat (first | refine go_pos (by first | assumption | omega | rfl | exact B_pos (by omega)) ?_ | refine go_neg (by first | assumption | omega | decide | exact B_not (by omega)) ?_ | refine go_bind (by first | assumption) ?_ | dsimp only))
     rw [Int.toNat_natCast, f1]
     (with_reducible repeat (first | refine go_pos (by first | assumption | omega | rfl | exact B_pos (by omega)) ?_ | refine go_neg (by first | assumption | omega | decide | exact B_not (by omega)) ?_ | refine go_bind (by first | assumption) ?_ | dsimp only))
     rw [f2]
     (with_reducible repeat (first | refine go_pos (by first | assumption | omega | rfl | exact B_pos (by omega)) ?_ | refine go_neg (by first | assumption | omega | decide | exact B_not (by omega)) ?_ | refine go_bind (by first | assumption) ?_ | dsimp only))
     rw [f3]
     (with_reducible repeat (first | refine go_pos (by first | assumption | omega | rfl | exact B_pos (by omega)) ?_ | refine go_neg (by first | assumption | omega | decide | exact B_not (by omega)) ?_ | refine go_bind (by first | assumption) ?_ | dsimp only))
     rw [l3]
     (with_reducible repeat (first | refine go_pos (by first | assumption | omega | rfl | exact B_pos (by omega)) ?_ | refine go_neg (by first | assumption | omega | decide | exact B_not (by omega)) ?_ | refine go_bind (by first | assumption) ?_ | dsimp only))
   ·
    have g0 : ∀ k : Nat, k < W → m ∣ 1 * rd o (k : Int) + (-eo) * rd nx (k : Int) - rd (mix m 1 o (-eo) nx) (k : Int) := fun k hk => mix_dvd (by omega)
    have g1 : ∀ k : Nat, k < W → m ∣ 1 * rd v (k : Int) + (-ev) * rd nx (k : Int) - rd (mix m 1 v (-ev) nx) (k : Int) := fun k hk => mix_dvd (by omega)
    have g2 : ∀ k : Nat, k < W → m ∣ md * rd nx (k : Int) + 0 * rd nx (k : Int) - rd (mix m md nx 0 nx) (k : Int) := fun k hk => mix_dvd (by omega)
    have zb : ∀ (a b : Int) (r : List Int), r.length = W → Zb i r → a * rd r (i : Int) + b * d = 0 ∨ a * rd r (i : Int) + b * d = m → Zb (i + 1) (mix m a r b nx) := fun a b r hr hz hab k hk => by
     rw [mix_rd (by omega)]
     by_cases e : k = i
     ·
      subst e
      rw [nd]
      rcases hab with hab | hab <;> rw [hab]
      ·
       exact Int.zero_emod m
      ·
       exact Int.emod_self
     ·
      rw [hz k (by omega), nz k (by omega)]; simp
    refine h.swap hiW hne nP (fun w hw => ?_) (fun hr => ?_) ?_ ?_ ?_
    ·
     simp only [List.mem_cons, List.not_mem_nil, or_false] at hw
     rcases hw with rfl | rfl | rfl
     ·
      exact ⟨⟨by rw [mix_length]; exact ol, mix_in (by omega)⟩, zb 1 (-eo) o ol oz (.inl (by rw [heo, Int.neg_mul, Int.mul_comm eo d]; omega))⟩
     ·
      exact ⟨⟨by rw [mix_length]; exact hvl, mix_in (by omega)⟩, zb 1 (-ev) v hvl hzi (.inl (by rw [hev, Int.neg_mul, Int.mul_comm ev d]; omega))⟩
     ·
      exact ⟨⟨by rw [mix_length]; exact nl, mix_in (by omega)⟩, zb md 0 nx nl nz (.inr (by rw [nd, hmd, Int.mul_comm md d]; omega))⟩
    ·
     have ho' : o = row p (i : Int) := by
      rcases ho with ⟨e, _⟩ | ⟨_, e⟩
      ·
       exact absurd e hr
      ·
       exact e
     rw [← ho']
     exact Sp.two (a := 1) (b := eo) (x := V (mix m 1 o (-eo) nx)) (y := V nx) (.gen (.inr ⟨_, List.mem_cons_self .., rfl⟩)) (.gen (.inl rfl)) fun k hk => lin_back (g0 k hk)
    ·
     exact Sp.two (a := 1) (b := ev) (x := V (mix m 1 v (-ev) nx)) (y := V nx) (.gen (.inr ⟨_, List.mem_cons_of_mem _ (List.mem_cons_self ..), rfl⟩)) (.gen (.inl rfl)) fun k hk => lin_back (g1 k hk)
    ·
     refine .alike (.gen ⟨_, List.mem_cons_of_mem _ (List.mem_cons_of_mem _ (List.mem_cons_self ..)), rfl⟩) fun k hk => ?_
     obtain ⟨q, hq⟩ := g2 k hk
     refine ⟨-q, ?_⟩
     rw [nd, hmde, Int.mul_neg, ← hq]
     show rd (mix m md nx 0 nx) (k : Int) - md * rd nx (k : Int) = _
     omega
    ·
     have hov : ∀ G : Vc → Prop, (row p (i : Int) ≠ [] → G (V (row p (i : Int)))) → Sp m W G (V o) := fun G hG => by
      rcases ho with ⟨_, rfl⟩ | ⟨hr, rfl⟩
      ·
       exact .alike .nil fun k hk => by
        show m ∣ 0 - rd (List.replicate v.length (0 : Int)) (k : Int)
        rw [rd_zeros]; exact ⟨0, by omega⟩
      ·
       exact .gen (hG hr)
     have ho2 := hov (fun g => g = V v ∨ (row p (i : Int) ≠ [] ∧ g = V (row p (i : Int)))) fun hr => .inr ⟨hr, rfl⟩
     have hn2 : Sp m W (fun g => g = V v ∨ (row p (i : Int) ≠ [] ∧ g = V (row p (i : Int)))) (V nx) := Sp.two (a := x) (b := y) (x := V o) (y := V v) ho2 (.gen (.inl rfl)) fun k hk => by
      have : m ∣ x * rd o (k : Int) + y * rd v (k : Int) - rd (mix m x o y v) (k : Int) := mix_dvd (by omega)
      rwa [← hnx] at this
     intro g hg
     rcases hg with rfl | ⟨w, hw, rfl⟩
     ·
      exact hn2
     simp only [List.mem_cons, List.not_mem_nil, or_false] at hw
     rcases hw with rfl | rfl | rfl
     ·
      exact Sp.two (a := 1) (b := -eo) ho2 hn2 fun k hk => g0 k hk
     ·
      exact Sp.two (a := 1) (b := -ev) (x := V v) (.gen (.inl rfl)) hn2 fun k hk => g1 k hk
     ·
      exact Sp.two (a := md) (b := 0) hn2 hn2 fun k hk => g2 k hk
   ·
    rw [dsum_set hpl hiW, if_pos hiW, dv_set_same hpl hiW nP.ne, nd]
    unfold dv
    rcases ho with ⟨e, _⟩ | ⟨hr, e⟩
    ·
     rw [if_pos e]; omega
    ·
     rw [if_neg hr, ← e]
     have hO := (h.inv.tab.prow hiW hr).pos
     rw [← e] at hO
     have q2 := hnd (by omega)
     have : d ≤ rd o (i : Int) := Int.le_of_dvd hO ⟨eo, heo⟩
     by_cases q : d = rd o (i : Int)
     ·
      exact absurd (tmod_zero.2 ⟨ev, by rw [← q]; exact hev⟩) q2
     ·
      omega
  have start : ∀ o : List Int, (row p (i : Int) = [] ∧ o = List.replicate v.length 0 ∨ row p (i : Int) ≠ [] ∧ o = row p (i : Int)) → impl_span_put.l0 m p (st ++ [v]) = impl_span_put.j1 v i o m p st := by
   intro o ho
   rw [impl_span_put.l0_eq, e1, last_row, Int.toNat_natCast, take_init, Int.toNat_natCast]
   rcases ho with ⟨e, rfl⟩ | ⟨hr, rfl⟩
   ·
    have e' : (row p (i : Int)).length = 0 := by rw [e]; rfl
    ((with_reducible repeat (first | refine go_pos (by first | assumption | omega | rfl | exact B_pos (by omega)) ?_ | refine go_neg (by first | assumption | omega | decide | exact B_not (by omega)) ?_ | refine go_bind (by first | assumption) ?_ | dsimp only)); first | done | (with_reducible rfl) | simp (disch := omega) only [w64] | (show False; done))
   ·
    have e' : 0 < (row p (i : Int)).length := List.length_pos_iff.2 hr
    ((with_reducible repeat (first | refine go_pos (by first | assumption | omega | rfl | exact B_pos (by omega)) ?_ | refine go_neg (by first | assumption | omega | decide | exact B_not (by omega)) ?_ | refine go_bind (by first | assumption) ?_ | dsimp only)); first | done | (with_reducible rfl) | simp (disch := omega) only [w64] | (show False; done))
  by_cases hr : row p (i : Int) = []
  ·
   have hs := start _ (.inl ⟨hr, rfl⟩)
   obtain ⟨p', ws, k1, k2, k3, k4⟩ := swap _ (.inl ⟨hr, rfl⟩) (fun q => absurd (rd_zeros _ _) q)
   exact .inr ⟨p', ws, hs.trans k1, k2, k3, k4⟩
  have hs := start _ (.inr ⟨hr, rfl⟩)
  by_cases hd : Int.tmod (rd v (i : Int)) (rd (row p (i : Int)) (i : Int)) = 0
  rotate_left
  ·
   obtain ⟨p', ws, k1, k2, k3, k4⟩ := swap _ (.inr ⟨hr, rfl⟩) (fun _ => hd)
   exact .inr ⟨p', ws, hs.trans k1, k2, k3, k4⟩
  have hP := h.inv.tab.prow hiW hr
  have pl := hP.len
  have p0 := hP.pos
  have p1 := hP.lt
  obtain ⟨e, he⟩ := tmod_zero.1 hd
  obtain ⟨ee0, ee1⟩ := quot_bd p0 he v0 (by omega)
  have c1 := combined m2 m12 (p := p) (x := 1) (y := -e) hva hP.ent (by omega) (by omega) (by omega) (by omega) (by omega) (by omega)
  have f1 : wrapI ((wrapI (0 - rd v (i : Int))).tdiv (rd (row p (i : Int)) (i : Int))) = -e := by rw [w64 (x := 0 - rd v (i : Int)) (by omega) (by omega), he, tdiv_neg p0, w64 (by omega) (by omega)]
  have hpne : ¬ rd (row p (i : Int)) (i : Int) = 0 := by omega
  have l1 : ∀ a : List Int, ([a] : List (List Int)).length = 1 := fun _ => rfl
  have hstep : impl_span_put.j1 v i (row p (i : Int)) m p st = impl_span_put.l0 m p (st ++ [mix m 1 v (-e) (row p (i : Int))]) := by
   rw [impl_span_put.j1_eq, f1]
   (with_reducible repeat (first | refine go_pos (by first | assumption | omega | rfl | exact B_pos (by omega)) ?_ | refine go_neg (by first | assumption | omega | decide | exact B_not (by omega)) ?_ | refine go_bind (by first | assumption) ?_ | dsimp only))
   rw [l1]
   ((with_reducible repeat (first | refine go_pos (by first | assumption | omega | rfl | exact B_pos (by omega)) ?_ | refine go_neg (by first | assumption | omega | decide | exact B_not (by omega)) ?_ | refine go_bind (by first | assumption) ?_ | dsimp only)); first | done | (with_reducible rfl) | simp (disch := omega) only [w64] | (show False; done))
  have wl : (mix m 1 v (-e) (row p (i : Int))).length = W := by rw [mix_length]; exact hvl
  have wz : Zb (i + 1) (mix m 1 v (-e) (row p (i : Int))) := fun k hk => by
   rw [mix_rd (by omega)]
   by_cases q : k = i
   ·
    subst q
    rw [he, show 1 * (rd (row p (k : Int)) (k : Int) * e) + -e * rd (row p (k : Int)) (k : Int) = 0 by rw [Int.neg_mul, Int.mul_comm e]; omega]
    exact Int.zero_emod m
   ·
    rw [hzi k (by omega), hP.zero k (by omega)]; simp
  have h' := h.less (c := e) hiW hr hne ⟨wl, mix_in (by omega)⟩ (fun k hk => wz k (by omega)) fun k hk => mix_dvd (by omega)
  rcases ih (i + 1) _ p st (by omega) wz h' hst with ⟨k1, k2⟩ | ⟨p', ws, k1, k2, k3, k4⟩
  ·
   exact .inl ⟨(hs.trans hstep).trans k1, k2⟩
  ·
   exact .inr ⟨p', ws, (hs.trans hstep).trans k1, k2, k3, k4⟩
theorem put_ {m : Int} (m2 : 2 ≤ m) (m12 : m ≤ 12) {W : Nat} (hW : W ≤ 100000) {M : Vc → Prop} {p : List (List Int)} {r : List Int} (h : Pst m W p [r] M) : ∃ p', impl_span_put.f m p r = some (m, p') ∧ Pst m W p' [] M := by
 rw [impl_span_put.f_eq]
 have key : ∀ (D : Nat) (k : Nat) (p st : List (List Int)), st.length = k → dsum m p W ≤ D → (st.length : Int) + 3 * dsum m p W ≤ 100000000 → Pst m W p st M → ∃ p', impl_span_put.l0 m p st = some (m, p') ∧ Pst m W p' [] M := by
  intro D
  induction D with
  | zero =>
   intro k
   induction k with
   | zero =>
    intro p st hl _ _ h
    obtain rfl := List.length_eq_zero_iff.1 hl
    refine ⟨p, ?_, h⟩
    rw [impl_span_put.l0_eq]
    ((with_reducible repeat (first | refine go_pos (by first | assumption | omega | rfl | exact B_pos (by omega)) ?_ | refine go_neg (by first | assumption | omega | decide | exact B_not (by omega)) ?_ | refine go_bind (by first | assumption) ?_ | dsimp only)); first | done | (with_reducible rfl) | simp (disch := omega) only [w64] | (show False; done))
   | succ k ih =>
    intro p st hl hD hK h
    obtain ⟨st', v, rfl⟩ : ∃ st' v, st = st' ++ [v] := ⟨st.dropLast, st.getLast (fun e => by rw [e] at hl; simp at hl), (List.dropLast_concat_getLast _).symm⟩
    have e0 : (st' ++ [v]).length = st'.length + 1 := by simp
    obtain ⟨s0, _⟩ := dsum_bd (show 0 < m by omega) h.inv.tab W (Nat.le_refl _)
    rcases put_top m2 m12 hW W 0 v p st' (by omega) (fun i hi => by omega) h (by omega) with ⟨k1, k2⟩ | ⟨p', ws, k1, k2, k3, k4⟩
    ·
     rw [k1]
     exact ih p st' (by omega) hD (by omega) k2
    ·
     obtain ⟨s1, _⟩ := dsum_bd (show 0 < m by omega) k3.inv.tab W (Nat.le_refl _)
     omega
  | succ D ihD =>
   intro k
   induction k with
   | zero =>
    intro p st hl _ _ h
    obtain rfl := List.length_eq_zero_iff.1 hl
    refine ⟨p, ?_, h⟩
    rw [impl_span_put.l0_eq]
    ((with_reducible repeat (first | refine go_pos (by first | assumption | omega | rfl | exact B_pos (by omega)) ?_ | refine go_neg (by first | assumption | omega | decide | exact B_not (by omega)) ?_ | refine go_bind (by first | assumption) ?_ | dsimp only)); first | done | (with_reducible rfl) | simp (disch := omega) only [w64] | (show False; done))
   | succ k ih =>
    intro p st hl hD hK h
    obtain ⟨st', v, rfl⟩ : ∃ st' v, st = st' ++ [v] := ⟨st.dropLast, st.getLast (fun e => by rw [e] at hl; simp at hl), (List.dropLast_concat_getLast _).symm⟩
    have e0 : (st' ++ [v]).length = st'.length + 1 := by simp
    obtain ⟨s0, _⟩ := dsum_bd (show 0 < m by omega) h.inv.tab W (Nat.le_refl _)
    rcases put_top m2 m12 hW W 0 v p st' (by omega) (fun i hi => by omega) h (by omega) with ⟨k1, k2⟩ | ⟨p', ws, k1, k2, k3, k4⟩
    ·
     rw [k1]
     exact ih p st' (by omega) hD (by omega) k2
    ·
     rw [k1]
     have e1 : (st' ++ ws).length = st'.length + 3 := by rw [List.length_append, k2]
     exact ihD _ p' (st' ++ ws) rfl (by omega) (by omega) k3
 obtain ⟨s0, s1⟩ := dsum_bd (show 0 < m by omega) h.inv.tab W (Nat.le_refl _)
 have hb : m * (W : Int) ≤ 12 * 100000 := Int.mul_le_mul (by omega) (by omega) (by omega) (by omega)
 exact key (dsum m p W).toNat 1 p [r] rfl (by omega) (by show (1 : Int) + _ ≤ _; omega) h
end Go.Proofs.Ytjknpaplgclflaa.V
namespace Go.Proofs.Ytjknpaplgclflaa.V
open Go.RowKit Go.Proofs.Ytjknpaplgclflaa.D Go.Proofs.Ytjknpaplgclflaa.P
end Go.Proofs.Ytjknpaplgclflaa.V
namespace Go.Proofs.Ytjknpaplgclflaa.V
open Go.RowKit Go.Proofs.Ytjknpaplgclflaa.D Go.Proofs.Ytjknpaplgclflaa.P
section
variable {m : Int} {W : Nat} {p : List (List Int)} {M : Vc → Prop} {G G' : Vc → Prop}
theorem Pst.lead (m0 : 0 < m) (h : Pst m W p [] M) : Lead m W p M := by
 have e : ∀ k g, GT W p [] k g → Sp m W (Rws W p k) g := fun k g hg => by
  rcases hg with hg | ⟨s, hs, _⟩
  ·
   exact .gen hg
  ·
   cases hs
 exact lead_of m0 h.inv.tab (fun j hj hr => (h.inv.how j hj hr).mono (e _)) fun x => by
  rw [← h.spn x]
  exact ⟨fun hx => hx.mono fun g hg => .gen (.inl hg), fun hx => hx.mono (e 0)⟩
theorem Pst.add {r : List Int} (h : Pst m W p [] (Sp m W G)) (hr : r.length = W ∧ AllIn m r) (hG : ∀ g, G' g ↔ G g ∨ g = V r) : Pst m W p [r] (Sp m W G') where
 inv := ⟨h.inv.tab, fun s hs => by rw [List.mem_singleton] at hs; subst hs; exact hr, fun j hj hn => (h.inv.how j hj hn).mono fun g hg => by
  rcases hg with hg | ⟨s, hs, _⟩
  ·
   exact .gen (.inl hg)
  ·
   cases hs⟩
 spn := fun x => by
  constructor
  ·
   intro hx
   refine hx.mono fun g hg => ?_
   rcases hg with hg | ⟨s, hs, _, rfl⟩
   ·
    exact ((h.spn g).1 (.gen (.inl hg))).mono fun g hg => .gen ((hG g).2 (.inl hg))
   ·
    rw [List.mem_singleton] at hs
    subst hs
    exact .gen ((hG _).2 (.inr rfl))
  ·
   intro hx
   refine hx.mono fun g hg => ?_
   rcases (hG g).1 hg with hg | rfl
   ·
    refine ((h.spn g).2 (.gen hg)).mono fun g hg => ?_
    rcases hg with hg | ⟨s, hs, _⟩
    ·
     exact .gen (.inl hg)
    ·
     cases hs
   ·
    exact .gen (.inr ⟨r, List.mem_singleton.2 rfl, fun i hi => by omega, rfl⟩)
theorem row_repl (n : Nat) (i : Int) : row (List.replicate n ([] : List Int)) i = [] := by
 simp only [row, List.getD_eq_getElem?_getD, List.getElem?_replicate]
 split <;> rfl
theorem Pst.none (hG : ∀ g, ¬ G g) : Pst m W (List.replicate W []) [] (Sp m W G) where
 inv := ⟨⟨List.length_replicate, fun j _ => .inl (row_repl _ _)⟩, fun s hs => (by cases hs), fun j _ hn => absurd (row_repl _ _) hn⟩
 spn := fun x => by
  constructor
  ·
   intro hx
   refine hx.mono fun g hg => ?_
   rcases hg with ⟨j, _, _, hn, _⟩ | ⟨s, hs, _⟩
   ·
    exact absurd (row_repl _ _) hn
   ·
    cases hs
  ·
   intro hx
   exact hx.mono fun g hg => absurd hg (hG g)
def Gn (f : Nat → List Int) (k : Nat) : Vc → Prop := fun g => ∃ i : Nat, i < k ∧ g = V (f i)
theorem Gn_succ {f : Nat → List Int} {k : Nat} (g : Vc) : Gn f (k + 1) g ↔ Gn f k g ∨ g = V (f k) := by
 constructor
 ·
  rintro ⟨i, hi, rfl⟩
  by_cases e : i = k
  ·
   exact .inr (by rw [e])
  ·
   exact .inl ⟨i, by omega, rfl⟩
 ·
  rintro (⟨i, hi, rfl⟩ | rfl)
  ·
   exact ⟨i, by omega, rfl⟩
  ·
   exact ⟨k, by omega, rfl⟩
theorem rd_take {r : List Int} {A i : Nat} (h : i < A) : rd (r.take A) (i : Int) = rd r (i : Int) := by
 simp [rd, List.getD_eq_getElem?_getD, List.getElem?_take, h]
theorem rd_drop {r : List Int} {A i : Nat} : rd (r.drop A) (i : Int) = rd r ((A + i : Nat) : Int) := by
 simp only [rd, Int.toNat_natCast, List.getD_eq_getElem?_getD, List.getElem?_drop]
theorem Lead.first {A B : Nat} {q : List (List Int)} (h : Lead m (A + B) p M) (m0 : 0 < m) (hl : q.length = A) (hr : ∀ j : Nat, j < A → row q (j : Int) = (row p (j : Int)).take A) :
    Lead m A q (fun x => ∃ y, M y ∧ ∀ i, i < A → m ∣ y i - x i) := by
  have hP : ∀ j : Nat, j < A → row p (j : Int) ≠ [] → PRow m A j (row q (j : Int)) := fun j hj hn => by
    have k := h.tab.prow (show j < A + B by omega) hn
    rw [hr j hj]
    refine ⟨by rw [List.length_take, k.len]; omega, k.ent.take _, fun i hi => by rw [rd_take (by omega)]; exact k.zero i hi, ?_, ?_, ?_⟩ <;> rw [rd_take hj]
    · exact k.pos
    · exact k.lt
    · exact k.dvd
  have hE : ∀ j : Nat, j < A → (row q (j : Int) = [] ↔ row p (j : Int) = []) := fun j hj => by
    constructor
    · intro e
      by_cases hn : row p (j : Int) = []
      · exact hn
      · exact absurd e (hP j hj hn).ne
    · intro e; rw [hr j hj, e]; simp
  have hdv : ∀ j : Nat, j < A → dv m q j = dv m p j := fun j hj => by
    unfold dv
    by_cases hn : row p (j : Int) = []
    · rw [if_pos hn, if_pos ((hE j hj).2 hn)]
    · rw [if_neg hn, if_neg fun e => hn ((hE j hj).1 e), hr j hj, rd_take hj]
  exact {
    tab := ⟨hl, fun j hj => by
      by_cases hn : row p (j : Int) = []
      · exact .inl ((hE j hj).2 hn)
      · exact .inr (hP j hj hn)⟩
    sub := ⟨⟨_, h.sub.zero, fun i _ => dvd_same rfl⟩, fun x y ⟨x', hx, ex⟩ ⟨y', hy, ey⟩ c => ⟨_, h.sub.lin _ _ hx hy c, fun i hi => by
      have := Int.dvd_add (ex i hi) (Int.dvd_mul_of_dvd_right (b := c) (ey i hi))
      rw [Int.mul_sub] at this
      rwa [show ∀ a b c d : Int, a + c - (b + d) = a - b + (c - d) from fun a b c d => by omega]⟩,
      fun x y ⟨x', hx, ex⟩ e => ⟨x', hx, fun i hi => by
        have := Int.dvd_add (ex i hi) (e i hi)
        rwa [show ∀ a b c : Int, a - b + (b - c) = a - c from fun a b c => by omega] at this⟩⟩
    own := fun j hj hn => ⟨V (row p (j : Int)), h.own j (by omega) fun e => hn ((hE j hj).2 e), fun i hi => by
      refine dvd_same ?_
      show rd (row p (j : Int)) (i : Int) = rd (row q (j : Int)) (i : Int)
      rw [hr j hj, rd_take hi]⟩
    lead := fun x ⟨y, hy, e⟩ j hj hz => by
      have := h.lead y hy j (by omega) fun i hi => by
        have := Int.dvd_add (e i (by omega)) (hz i hi)
        rwa [show ∀ a b : Int, a - b + b = a from fun a b => by omega] at this
      rw [hdv j hj]
      have hd := (dv_bd m0 h.tab (show j < A + B by omega)).2.2
      have := Int.dvd_sub this (Int.dvd_trans hd (e j hj))
      rwa [show ∀ a b : Int, a - (a - b) = b from fun a b => by omega] at this }
def pad (A : Nat) (x : Vc) : Vc := fun i => if i < A then 0 else x (i - A)
theorem Lead.last {A B : Nat} {q : List (List Int)} (h : Lead m (A + B) p M) (m0 : 0 < m) (hl : q.length = B) (hr : ∀ j : Nat, j < B → row q (j : Int) = (row p ((A + j : Nat) : Int)).drop A) :
    Lead m B q (fun x => M (pad A x)) := by
  have hP : ∀ j : Nat, j < B → row p ((A + j : Nat) : Int) ≠ [] → PRow m B j (row q (j : Int)) := fun j hj hn => by
    have k := h.tab.prow (show A + j < A + B by omega) hn
    rw [hr j hj]
    refine ⟨by rw [List.length_drop, k.len]; omega, k.ent.drop _, fun i hi => by rw [rd_drop]; exact k.zero _ (by omega), ?_, ?_, ?_⟩ <;> rw [rd_drop]
    · exact k.pos
    · exact k.lt
    · exact k.dvd
  have hE : ∀ j : Nat, j < B → (row q (j : Int) = [] ↔ row p ((A + j : Nat) : Int) = []) := fun j hj => by
    constructor
    · intro e
      by_cases hn : row p ((A + j : Nat) : Int) = []
      · exact hn
      · exact absurd e (hP j hj hn).ne
    · intro e; rw [hr j hj, e]; simp
  have hdv : ∀ j : Nat, j < B → dv m q j = dv m p (A + j) := fun j hj => by
    unfold dv
    by_cases hn : row p ((A + j : Nat) : Int) = []
    · rw [if_pos hn, if_pos ((hE j hj).2 hn)]
    · rw [if_neg hn, if_neg fun e => hn ((hE j hj).1 e), hr j hj, rd_drop]
  have hpad : ∀ (x y : Vc) (c : Int), pad A (fun i => x i + c * y i) = fun i => pad A x i + c * pad A y i := fun x y c => by
    funext i
    unfold pad
    by_cases h : i < A
    · simp [h]
    · simp [h]
  exact {
    tab := ⟨hl, fun j hj => by
      by_cases hn : row p ((A + j : Nat) : Int) = []
      · exact .inl ((hE j hj).2 hn)
      · exact .inr (hP j hj hn)⟩
    sub := ⟨h.sub.alike _ _ h.sub.zero fun i _ => dvd_same (by unfold pad; simp), fun x y hx hy c => by rw [hpad]; exact h.sub.lin _ _ hx hy c,
      fun x y hx e => h.sub.alike _ _ hx fun i hi => by
        unfold pad
        by_cases k : i < A
        · simp [k]
        · simp only [k, if_false]
          exact e (i - A) (by omega)⟩
    own := fun j hj hn => by
      have hn' : row p ((A + j : Nat) : Int) ≠ [] := fun e => hn ((hE j hj).2 e)
      refine h.sub.alike _ _ (h.own (A + j) (by omega) hn') fun i hi => dvd_same ?_
      unfold pad
      by_cases k : i < A
      · simp only [k, if_true]
        exact (h.tab.prow (show A + j < A + B by omega) hn').zero i (by omega)
      · simp only [k, if_false]
        show rd (row p ((A + j : Nat) : Int)) (i : Int) = rd (row q (j : Int)) ((i - A : Nat) : Int)
        rw [hr j hj, rd_drop, show A + (i - A) = i by omega]
    lead := fun x hx j hj hz => by
      have := h.lead _ hx (A + j) (by omega) fun i hi => by
        unfold pad
        by_cases k : i < A
        · simp [k]
        · simp only [k, if_false]
          exact hz _ (by omega)
      rw [hdv j hj]
      unfold pad at this
      rw [if_neg (by omega), show A + j - A = j by omega] at this
      exact this }
theorem rd_app_left {a b : List Int} {i : Nat} (h : i < a.length) : rd (a ++ b) (i : Int) = rd a (i : Int) := by
 simp [rd, List.getD_eq_getElem?_getD, List.getElem?_append, h]
theorem rd_app_right {a b : List Int} {i : Nat} (h : a.length ≤ i) : rd (a ++ b) (i : Int) = rd b ((i - a.length : Nat) : Int) := by
 simp only [rd, Int.toNat_natCast, List.getD_eq_getElem?_getD, List.getElem?_append, if_neg (show ¬ i < a.length by omega)]
end
theorem rd_set_same {t : List Int} {j : Nat} {x : Int} (h : j < t.length) : rd (t.set j x) (j : Int) = x := by
 rw [rd_get (by rw [List.length_set]; exact h)]; simp
theorem rd_set_ne {t : List Int} {i j : Nat} {x : Int} (h : i ≠ j) : rd (t.set j x) (i : Int) = rd t (i : Int) := by
 simp only [rd, Int.toNat_natCast, List.getD_eq_getElem?_getD, List.getElem?_set, if_neg (show ¬ j = i from fun e => h e.symm)]
end Go.Proofs.Ytjknpaplgclflaa.V
namespace Go.Proofs.Ytjknpaplgclflaa.V
open Go.RowKit Go.Proofs.Ytjknpaplgclflaa.D Go.Proofs.Ytjknpaplgclflaa.P
def unitC (c i : Nat) : List Int := (List.replicate c (0 : Int)).set i 1
theorem unitC_length (c i : Nat) : (unitC c i).length = c := by simp [unitC]
theorem unitC_in {m : Int} (m2 : 2 ≤ m) (c i : Nat) : AllIn m (unitC c i) := allIn_of fun x hx => by
 rcases List.mem_or_eq_of_mem_set hx with h | h
 ·
  rw [List.mem_replicate] at h; omega
 ·
  omega
theorem bdL_length (g : List (List Int)) (m : Int) (u v : List Int) (d : Nat) : (bdL g m u v d).length = (cells g ((d + 1 : Nat) : Int)).toNat := by rw [bdL, List.length_map, List.length_range]
theorem bdL_in {m : Int} (m2 : 2 ≤ m) (g : List (List Int)) (u v : List Int) (d : Nat) : AllIn m (bdL g m u v d) := allIn_of fun x hx => by
 obtain ⟨i, _, rfl⟩ := List.mem_map.1 hx
 exact ⟨Int.emod_nonneg _ (by omega), Int.emod_lt_of_pos _ (by omega)⟩
noncomputable def bdU (g : List (List Int)) (m : Int) (u : List Int) (e i : Nat) : List Int := bdL g m u (unitC (cells g (e : Int)).toNat i) e
noncomputable def bdA (g : List (List Int)) (m : Int) (u : List Int) (e i : Nat) : List Int := bdU g m u e i ++ unitC (cells g (e : Int)).toNat i
noncomputable def nB (g : List (List Int)) (e : Nat) : Nat := (cells g (e : Int)).toNat
theorem unitCo {g : List (List Int)} (hg : Grp g) {m : Int} (m2 : 2 ≤ m) {e : Nat} (he : e ≤ 3) (i : Nat) : Co g m e (unitC (cells g (e : Int)).toNat i) := by
 have hb := cells_bd hg (d := (e : Int)) (by omega)
 exact ⟨⟨by omega, by omega⟩, by rw [unitC_length]; omega, unitC_in m2 _ _⟩
theorem newSpan_ (m : Int) {c : Nat} (hc : c ≤ 100000) : impl_newSpan.f m (c : Int) = some (m, List.replicate c []) := by
 rw [impl_newSpan.f_eq, Int.toNat_natCast]
 ((with_reducible repeat (first | refine go_pos (by first | assumption | omega | rfl | exact B_pos (by omega)) ?_ | refine go_neg (by first | assumption | omega | decide | exact B_not (by omega)) ?_ | refine go_bind (by first | assumption) ?_ | dsimp only)); first | done | (with_reducible rfl) | simp (disch := omega) only [w64] | (show False; done))
theorem concat2 {a b : List Int} (ha : a.length ≤ 1000000) (hb : b.length ≤ 1000000) : slices_Concat_int64.f [a, b] = some (a ++ b) := by
 have l2 : ([a, b] : List (List Int)).length = 2 := rfl
 have r0 : row [a, b] 0 = a := rfl
 have r1 : row [a, b] 1 = b := rfl
 have w1 : wrapI (0 + 1) = 1 := w64 (by omega) (by omega)
 have w2 : wrapI (1 + 1) = 2 := w64 (by omega) (by omega)
 have w3 : wrapI (0 + (a.length : Int)) = (a.length : Int) := by rw [w64 (by omega) (by omega)]; omega
 have w4 : wrapI ((a.length : Int) + (b.length : Int)) = ((a.length + b.length : Nat) : Int) := by rw [w64 (by omega) (by omega)]; omega
 have w5 : wrapI (0 - 0) = 0 := w64 (by omega) (by omega)
 have hG : slices_Grow_int64.f ((a.length + b.length : Nat) : Int) = some [] := by
  have w6 : wrapI (((a.length + b.length : Nat) : Int) - 0) = ((a.length + b.length : Nat) : Int) := by rw [w64 (by omega) (by omega)]; omega
  rw [slices_Grow_int64.f_eq, w5, w6, Int.toNat_natCast, List.length_replicate]
  by_cases h : a.length + b.length = 0
  ·
   rw [h]; ((with_reducible repeat (first | refine go_pos (by first | assumption | omega | rfl | exact B_pos (by omega)) ?_ | refine go_neg (by first | assumption | omega | decide | exact B_not (by omega)) ?_ | refine go_bind (by first | assumption) ?_ | dsimp only)); first | done | (with_reducible rfl) | simp (disch := omega) only [w64] | (show False; done))
  ·
   (with_reducible repeat (first | refine go_pos (by first | assumption | omega | rfl | exact B_pos (by omega)) ?_ | refine go_neg (by first | assumption | omega | decide | exact B_not (by omega)) ?_ | refine go_bind (by first | assumption) ?_ | dsimp only))
   rfl
 rw [slices_Concat_int64.f_eq, l2, slices_Concat_int64.l0_eq, r0, w1, w3]
 (with_reducible repeat (first | refine go_pos (by first | assumption | omega | rfl | exact B_pos (by omega)) ?_ | refine go_neg (by first | assumption | omega | decide | exact B_not (by omega)) ?_ | refine go_bind (by first | assumption) ?_ | dsimp only))
 rw [slices_Concat_int64.l0_eq, r1, w2, w4]
 (with_reducible repeat (first | refine go_pos (by first | assumption | omega | rfl | exact B_pos (by omega)) ?_ | refine go_neg (by first | assumption | omega | decide | exact B_not (by omega)) ?_ | refine go_bind (by first | assumption) ?_ | dsimp only))
 rw [slices_Concat_int64.l0_eq]
 (with_reducible repeat (first | refine go_pos (by first | assumption | omega | rfl | exact B_pos (by omega)) ?_ | refine go_neg (by first | assumption | omega | decide | exact B_not (by omega)) ?_ | refine go_bind (by first | assumption) ?_ | dsimp only))
 rw [l2, slices_Concat_int64.l1_eq, r0, w1, show ([] : List Int).length = 0 from rfl]
 (with_reducible repeat (first | refine go_pos (by first | assumption | omega | rfl | exact B_pos (by omega)) ?_ | refine go_neg (by first | assumption | omega | decide | exact B_not (by omega)) ?_ | refine go_bind (by first | assumption) ?_ | dsimp only))
 rw [List.nil_append, slices_Concat_int64.l1_eq, r1, w2]
 (with_reducible repeat (first | refine go_pos (by first | assumption | omega | rfl | exact B_pos (by omega)) ?_ | refine go_neg (by first | assumption | omega | decide | exact B_not (by omega)) ?_ | refine go_bind (by first | assumption) ?_ | dsimp only))
 rw [slices_Concat_int64.l1_eq]
 ((with_reducible repeat (first | refine go_pos (by first | assumption | omega | rfl | exact B_pos (by omega)) ?_ | refine go_neg (by first | assumption | omega | decide | exact B_not (by omega)) ?_ | refine go_bind (by first | assumption) ?_ | dsimp only)); first | done | (with_reducible rfl) | simp (disch := omega) only [w64] | (show False; done))
theorem nA_bd {g : List (List Int)} (hg : Grp g) {e : Nat} (he : e ≤ 4) : nB g e ≤ 16807 ∧ ((nB g e : Nat) : Int) = cells g (e : Int) := by
 have hb := cells_bd hg (d := (e : Int)) (by omega)
 unfold nB
 omega
theorem bounded_ {g : List (List Int)} (hg : Grp g) {m : Int} {u : List Int} (hm : Mdl g m u) {n : Nat} (hn : n ≤ 3) :
  ∃ p, impl_bounded.f g m u (n : Int) = some (m, p, ((nB g (n + 1) : Nat) : Int)) ∧ Pst m (nB g (n + 1) + nB g n) p [] (Sp m (nB g (n + 1) + nB g n) (Gn (bdA g m u n) (nB g n))) := by
 have m2 := hm.m2; have m12 := hm.m12
 obtain ⟨b1, b2⟩ := nA_bd hg (e := n) (by omega)
 obtain ⟨c1, c2⟩ := nA_bd hg (e := n + 1) (by omega)
 have hc := cells_ hg (d := (n : Int)) (by omega) (by omega)
 have hc2 := cells_ hg (d := ((n + 1 : Nat) : Int)) (by omega) (by omega)
 have hz := zero_ hg (n := n) (by omega)
 rw [← show nB g n = (cells g (n : Int)).toNat from rfl] at hz
 have hN := newSpan_ m (c := nB g (n + 1) + nB g n) (by omega)
 have w : wrapI ((nB g (n + 1) : Int) + (nB g n : Int)) = ((nB g (n + 1) + nB g n : Nat) : Int) := by rw [w64 (by omega) (by omega)]; omega
 rw [impl_bounded.f_eq, wn (j := n) (by omega), hc2, Option.bind_some, hc, Option.bind_some, ← b2, ← c2, w, hN, Option.bind_some]
 have key : ∀ k, k ≤ nB g n → ∃ p, impl_bounded.l0 (n : Int) ((nB g (n + 1) : Nat) : Int) ((nB g n : Nat) : Int) 0 g m u m (List.replicate (nB g (n + 1) + nB g n) []) = impl_bounded.l0 (n : Int) ((nB g (n + 1) : Nat) : Int) ((nB g n : Nat) : Int) (k : Int) g m u m p ∧ Pst m (nB g (n + 1) + nB g n) p [] (Sp m (nB g (n + 1) + nB g n) (Gn (bdA g m u n) k)) := by
  intro k
  induction k with
  | zero => exact fun _ => ⟨_, rfl, Pst.none fun g ⟨i, hi, _⟩ => by omega⟩
  | succ k ih =>
   intro hk
   obtain ⟨p, h1, h2⟩ := ih (by omega)
   have hl : (List.replicate (nB g n) (0 : Int)).length = nB g n := List.length_replicate
   have hB := boundary_ hg hm (unitCo hg m2 (e := n) (by omega) k)
   have hB : impl_boundary.f g m u (n : Int) ((List.replicate (nB g n) (0 : Int)).set k 1) = some (((n + 1 : Nat) : Int), bdU g m u n k) := hB
   have bl : (bdU g m u n k).length = nB g (n + 1) := bdL_length ..
   have ul : (unitC (nB g n) k).length = nB g n := unitC_length ..
   have hC : slices_Concat_int64.f [bdU g m u n k, (List.replicate (nB g n) (0 : Int)).set k 1] = some (bdA g m u n k) := concat2 (a := bdU g m u n k) (b := unitC (nB g n) k) (by omega) (by omega)
   have al : (bdA g m u n k).length = nB g (n + 1) + nB g n := by
    show (bdU g m u n k ++ unitC (nB g n) k).length = _
    rw [List.length_append, bl, ul]
   obtain ⟨p', h3, h4⟩ := put_ m2 m12 (show nB g (n + 1) + nB g n ≤ 100000 by omega) (h2.add (r := bdA g m u n k) ⟨al, (bdL_in m2 _ _ _ _).append (unitC_in m2 _ _)⟩ Gn_succ)
   refine ⟨p', ?_, h4⟩
   rw [h1, impl_bounded.l0_eq, wn (j := k) (by omega), Int.toNat_natCast]
   ((with_reducible repeat (first | refine go_pos (by first | assumption | omega | rfl | exact B_pos (by omega)) ?_ | refine go_neg (by first | assumption | omega | decide | exact B_not (by omega)) ?_ | refine go_bind (by first | assumption) ?_ | dsimp only)); first | done | (with_reducible rfl) | simp (disch := omega) only [w64] | (show False; done))
 obtain ⟨p, h1, h2⟩ := key _ (Nat.le_refl _)
 refine ⟨p, ?_, h2⟩
 rw [h1, impl_bounded.l0_eq]
 ((with_reducible repeat (first | refine go_pos (by first | assumption | omega | rfl | exact B_pos (by omega)) ?_ | refine go_neg (by first | assumption | omega | decide | exact B_not (by omega)) ?_ | refine go_bind (by first | assumption) ?_ | dsimp only)); first | done | (with_reducible rfl) | simp (disch := omega) only [w64] | (show False; done))
def rowsFrom (p : List (List Int)) (A B : Nat) : List (List Int) := (List.range B).map fun j : Nat => (row p ((A + j : Nat) : Int)).drop A
theorem rowsFrom_row {p : List (List Int)} {A B j : Nat} (h : j < B) : row (rowsFrom p A B) (j : Int) = (row p ((A + j : Nat) : Int)).drop A := by
 rw [row_get (by simpa [rowsFrom] using h)]
 simp [rowsFrom]
theorem rows_step (F : Nat → List Int) (B k : Nat) (h : k < B) : ((List.range k).map F ++ List.replicate (B - k) []).set k (F k) = (List.range (k + 1)).map F ++ List.replicate (B - (k + 1)) [] := by
 rw [List.set_append, if_neg (by simp), List.length_map, List.length_range, Nat.sub_self, show B - k = (B - (k + 1)) + 1 by omega, List.replicate_succ, List.set_cons_zero, List.range_succ, List.map_append]
 simp
theorem rows_stay (F : Nat → List Int) (B k : Nat) (h : k < B) (e : F k = []) : (List.range k).map F ++ List.replicate (B - k) [] = (List.range (k + 1)).map F ++ List.replicate (B - (k + 1)) [] := by
 rw [show B - k = (B - (k + 1)) + 1 by omega, List.replicate_succ, List.range_succ, List.map_append, List.map_singleton, e]
 simp
theorem rowz_len (F : Nat → List Int) (B k : Nat) (h : k ≤ B) : ((List.range k).map F ++ List.replicate (B - k) []).length = B := by simp; omega
theorem part_ {m : Int} {p : List (List Int)} {A B : Nat} (hA : A ≤ 100000) (hB : B ≤ 100000) (ht : PTab m (A + B) p) : impl_span_part.f m p (A : Int) = some (m, rowsFrom p A B, m, p) := by
 have hl := ht.len
 have w : wrapI ((p.length : Int) - (A : Int)) = (B : Int) := by rw [w64 (by omega) (by omega)]; omega
 rw [impl_span_part.f_eq, w, newSpan_ m hB, Option.bind_some]
 obtain ⟨F, hF⟩ : ∃ F : Nat → List Int, F = fun j : Nat => (row p ((A + j : Nat) : Int)).drop A := ⟨_, rfl⟩
 have loop := up B (fun k => impl_span_part.l0 (A : Int) ((A + k : Nat) : Int) m p m ((List.range k).map F ++ List.replicate (B - k) [])) (fun k hk => by
  have hw : wrapI (((A + k : Nat) : Int) - (A : Int)) = (k : Int) := by rw [w64 (by omega) (by omega)]; omega
  have rl := rowz_len F B k (by omega)
  have hFk : F k = (row p ((A + k : Nat) : Int)).drop A := by rw [hF]
  rw [show A + (k + 1) = A + k + 1 from rfl, impl_span_part.l0_eq, wn (j := A + k) (by omega), hw]
  simp only [Int.toNat_natCast]
  rw [← hFk]
  by_cases hr : row p ((A + k : Nat) : Int) = []
  ·
   have e0 : (row p ((A + k : Nat) : Int)).length = 0 := by rw [hr]; rfl
   rw [← rows_stay F B k hk (by rw [hFk, hr]; simp)]
   ((with_reducible repeat (first | refine go_pos (by first | assumption | omega | rfl | exact B_pos (by omega)) ?_ | refine go_neg (by first | assumption | omega | decide | exact B_not (by omega)) ?_ | refine go_bind (by first | assumption) ?_ | dsimp only)); first | done | (with_reducible rfl) | simp (disch := omega) only [w64] | (show False; done))
  ·
   have hP := ht.prow (show A + k < A + B by omega) hr
   have e1 := hP.len
   have e2 : (F k).length = B := by rw [hFk, List.length_drop, e1]; omega
   rw [← rows_step F B k hk]
   ((with_reducible repeat (first | refine go_pos (by first | assumption | omega | rfl | exact B_pos (by omega)) ?_ | refine go_neg (by first | assumption | omega | decide | exact B_not (by omega)) ?_ | refine go_bind (by first | assumption) ?_ | dsimp only)); first | done | (with_reducible rfl) | simp (disch := omega) only [w64] | (show False; done)))
 rw [List.range_zero, List.map_nil, List.nil_append, Nat.sub_zero, Nat.add_zero, Nat.sub_self, List.replicate_zero, List.append_nil] at loop
 rw [show rowsFrom p A B = (List.range B).map F by rw [hF]; rfl]
 refine loop.trans ?_
 rw [impl_span_part.l0_eq]
 ((with_reducible repeat (first | refine go_pos (by first | assumption | omega | rfl | exact B_pos (by omega)) ?_ | refine go_neg (by first | assumption | omega | decide | exact B_not (by omega)) ?_ | refine go_bind (by first | assumption) ?_ | dsimp only)); first | done | (with_reducible rfl) | simp (disch := omega) only [w64] | (show False; done))
noncomputable def coM (g : List (List Int)) (m : Int) (u : List Int) (n : Nat) : Vc → Prop := fun x => Sp m (nB g (n + 1) + nB g n) (Gn (bdA g m u n) (nB g n)) (pad (nB g (n + 1)) x)
theorem rowsFrom_lead {m : Int} {p : List (List Int)} {A B : Nat} {M : Vc → Prop} (m0 : 0 < m) (h : Lead m (A + B) p M) : Lead m B (rowsFrom p A B) (fun x => M (pad A x)) :=
 h.last m0 (by simp [rowsFrom]) fun j hj => rowsFrom_row hj
theorem cocycles_ {g : List (List Int)} (hg : Grp g) {m : Int} {u : List Int} (hm : Mdl g m u) {n : Nat} (hn : n ≤ 3) :
  ∃ q, impl_cocycles.f g m u (n : Int) = some (m, q) ∧ Lead m (nB g n) q (coM g m u n) := by
 have m2 := hm.m2
 obtain ⟨b1, b2⟩ := nA_bd hg (e := n) (by omega)
 obtain ⟨c1, c2⟩ := nA_bd hg (e := n + 1) (by omega)
 obtain ⟨p, h1, h2⟩ := bounded_ hg hm hn
 have h3 := h2.lead (by omega)
 have h4 := part_ (m := m) (A := nB g (n + 1)) (B := nB g n) (by omega) (by omega) h3.tab
 refine ⟨_, ?_, rowsFrom_lead (by omega) h3⟩
 rw [impl_cocycles.f_eq]
 ((with_reducible repeat (first | refine go_pos (by first | assumption | omega | rfl | exact B_pos (by omega)) ?_ | refine go_neg (by first | assumption | omega | decide | exact B_not (by omega)) ?_ | refine go_bind (by first | assumption) ?_ | dsimp only)); first | done | (with_reducible rfl) | simp (disch := omega) only [w64] | (show False; done))
noncomputable def allM (g : List (List Int)) (m : Int) (u : List Int) (e : Nat) : Vc → Prop := Sp m (nB g (e + 1) + nB g e) (Gn (bdA g m u e) (nB g e))
end Go.Proofs.Ytjknpaplgclflaa.V
namespace Go.Proofs.Ytjknpaplgclflaa.V
open Go.RowKit Go.Proofs.Ytjknpaplgclflaa.D
def sgn : Nat → Int
 | 0 => -1
 | j + 1 => 0 - sgn j
def sumJ (g : List (List Int)) (A : List Int → Int) (xs : List Int) : Nat → Int
 | 0 => 0
 | j + 1 => sumJ g A xs j + sgn j * A (join2 g xs j)
def BdS (g : List (List Int)) (u : List Int) (A : List Int → Int) (xs : List Int) (d : Nat) : Int := rd u (rd xs 0) * A (xs.drop 1) + sumJ g A xs d + sgn d * A (xs.take d)
theorem Bd_eq (g : List (List Int)) (u v xs : List Int) (d : Nat) : Bd g u v xs d = BdS g u (At g v) xs d := by
 have h : ∀ j, bsum g u v xs j = (rd u (rd xs 0) * At g v (xs.drop 1) + sumJ g (At g v) xs j, sgn j) := by
  intro j
  induction j with
  | zero => simp [bsum, sumJ, sgn]
  | succ j ih => simp only [bsum, ih, sumJ, sgn, Int.add_assoc]
 unfold Bd BdS
 rw [h d]
theorem sumJ_lin (g : List (List Int)) (A A' : List Int → Int) (c : Int) (xs : List Int) : ∀ d, sumJ g (fun l => A l + c * A' l) xs d = sumJ g A xs d + c * sumJ g A' xs d := by
 intro d
 induction d with
 | zero => simp [sumJ]
 | succ d ih =>
  simp only [sumJ, ih, Int.mul_add]
  rw [← Int.mul_assoc (sgn d) c, Int.mul_comm (sgn d) c, Int.mul_assoc]
  omega
theorem BdS_lin (g : List (List Int)) (u : List Int) (A A' : List Int → Int) (c : Int) (xs : List Int) (d : Nat) : BdS g u (fun l => A l + c * A' l) xs d = BdS g u A xs d + c * BdS g u A' xs d := by
 unfold BdS
 rw [sumJ_lin]
 simp only [Int.mul_add]
 rw [← Int.mul_assoc (sgn d) c, Int.mul_comm (sgn d) c, Int.mul_assoc, ← Int.mul_assoc (rd u (rd xs 0)) c, Int.mul_comm (rd u (rd xs 0)) c, Int.mul_assoc]
 omega
noncomputable def AtF (g : List (List Int)) (h : Vc) (xs : List Int) : Int := ite_ (NoUnit xs) (h (idx g xs).toNat) 0
theorem At_F (g : List (List Int)) (v : List Int) : At g v = AtF g (V v) := by
 funext xs
 unfold At AtF
 by_cases h : NoUnit xs
 ·
  rw [ite_pos h, ite_pos h]; show v.getD (idx g xs).toNat 0 = v.getD ((((idx g xs).toNat : Nat) : Int)).toNat 0; rw [Int.toNat_natCast]
 ·
  rw [ite_neg h, ite_neg h]
theorem AtF_lin (g : List (List Int)) (h h' : Vc) (c : Int) : AtF g (fun i => h i + c * h' i) = fun l => AtF g h l + c * AtF g h' l := by
 funext xs
 unfold AtF
 by_cases k : NoUnit xs
 ·
  simp only [ite_pos k]
 ·
  simp only [ite_neg k]; omega
theorem AtF_zero (g : List (List Int)) : AtF g (fun _ => 0) = fun _ => 0 := by
 funext xs
 unfold AtF
 by_cases k : NoUnit xs
 ·
  rw [ite_pos k]
 ·
  rw [ite_neg k]
theorem sumJ_zero (g : List (List Int)) (xs : List Int) : ∀ d, sumJ g (fun _ => 0) xs d = 0 := by
 intro d
 induction d with
 | zero => rfl
 | succ d ih => simp [sumJ, ih]
theorem BdS_zero (g : List (List Int)) (u xs : List Int) (d : Nat) : BdS g u (fun _ => 0) xs d = 0 := by unfold BdS; rw [sumJ_zero]; simp
theorem idx_nB {g : List (List Int)} (hg : Grp g) {e : Nat} (he : e ≤ 3) {xs : List Int} (hx : AllIn g.length xs) (hl : xs.length = e) (h : NoUnit xs) : 0 ≤ idx g xs ∧ (idx g xs).toNat < nB g e := by
 obtain ⟨a, b⟩ := idx_cells hg (unitCo hg (m := 2) (by omega) he 0) hx (by omega) h
 rw [unitC_length] at b
 have : ((cells g (e : Int)).toNat : Int) = ((nB g e : Nat) : Int) := rfl
 omega
theorem AtF_alike {g : List (List Int)} (hg : Grp g) {m : Int} {e : Nat} (he : e ≤ 3) {h h' : Vc} (hh : ∀ i, i < nB g e → m ∣ h i - h' i) {xs : List Int} (hx : AllIn g.length xs) (hl : xs.length = e) : m ∣ AtF g h xs - AtF g h' xs := by
 unfold AtF
 by_cases k : NoUnit xs
 ·
  rw [ite_pos k, ite_pos k]
  exact hh _ (idx_nB hg he hx hl k).2
 ·
  rw [ite_neg k, ite_neg k]
  exact ⟨0, by omega⟩
theorem dvd_mul_sub {m a b c : Int} (h : m ∣ a - b) : m ∣ c * a - c * b := by
 rw [← Int.mul_sub]; exact Int.dvd_mul_of_dvd_right h
theorem dvd_add_sub {m a b c d : Int} (h : m ∣ a - b) (h' : m ∣ c - d) : m ∣ (a + c) - (b + d) := by
 have := Int.dvd_add h h'
 rwa [show a - b + (c - d) = a + c - (b + d) by omega] at this
theorem BdS_alike {g : List (List Int)} (hg : Grp g) {m : Int} {u : List Int} {e : Nat} (he : e ≤ 3) {h h' : Vc} (hh : ∀ i, i < nB g e → m ∣ h i - h' i) {xs : List Int} (hx : AllIn g.length xs) (hl : xs.length = e + 1) : m ∣ BdS g u (AtF g h) xs e - BdS g u (AtF g h') xs e := by
 unfold BdS
 refine dvd_add_sub (dvd_add_sub (dvd_mul_sub (AtF_alike hg he hh (hx.drop 1) (by rw [List.length_drop]; omega))) ?_) (dvd_mul_sub (AtF_alike hg he hh (hx.take e) (by rw [List.length_take]; omega)))
 have : ∀ d, d ≤ e → m ∣ sumJ g (AtF g h) xs d - sumJ g (AtF g h') xs d := by
  intro d
  induction d with
  | zero => intro _; exact ⟨0, by simp [sumJ]⟩
  | succ d ih =>
   intro hd
   obtain ⟨k1, k2⟩ := join2_in hg hx (j := d) (by omega)
   exact dvd_add_sub (ih (by omega)) (dvd_mul_sub (AtF_alike hg he hh k1 (by omega)))
 exact this e (Nat.le_refl _)
def Bnd (g : List (List Int)) (m : Int) (u : List Int) (e : Nat) (z : Vc) : Prop := ∀ i, i < nB g (e + 1) → m ∣ z i - BdS g u (AtF g fun k => z (nB g (e + 1) + k)) (lst ((g.length : Int) - 1) (e + 1) (i : Int)) e
theorem lst_ok {g : List (List Int)} (hg : Grp g) {e i : Nat} (he : e ≤ 3) (hi : i < nB g (e + 1)) : AllIn g.length (lst ((g.length : Int) - 1) (e + 1) (i : Int)) ∧ NoUnit (lst ((g.length : Int) - 1) (e + 1) (i : Int)) := by
 obtain ⟨c1, c2⟩ := nA_bd hg (e := e + 1) (by omega)
 exact lst_grp hg (n := e + 1) (by omega)
theorem allM_bnd {g : List (List Int)} (hg : Grp g) {m : Int} (m2 : 2 ≤ m) {u : List Int} {e : Nat} (he : e ≤ 3) {z : Vc} (hz : allM g m u e z) : Bnd g m u e z := by
 have hs : Sub m (nB g (e + 1) + nB g e) (Bnd g m u e) := by
  refine ⟨fun i hi => ?_, fun x y hx hy c i hi => ?_, fun x y hx h i hi => ?_⟩
  ·
   rw [AtF_zero, BdS_zero]; exact ⟨0, by dsimp only; omega⟩
  ·
   have e1 := AtF_lin g (fun k => x (nB g (e + 1) + k)) (fun k => y (nB g (e + 1) + k)) c
   rw [e1, BdS_lin]
   exact dvd_add_sub (hx i hi) (dvd_mul_sub (hy i hi))
  ·
   have h1 := hx i hi
   have h2 := h i (by omega)
   have h3 := BdS_alike hg (u := u) he (h := fun k => x (nB g (e + 1) + k)) (h' := fun k => y (nB g (e + 1) + k)) (m := m) (fun k hk => h _ (by omega)) (lst_ok hg he hi).1 (lst_length ..)
   have := Int.dvd_add (Int.dvd_sub h1 h2) h3
   rwa [show ∀ a b c d : Int, a - b - (a - c) + (b - d) = c - d from fun a b c d => by omega] at this
 refine hs.all (fun w hw => ?_) hz
 obtain ⟨k, hk, rfl⟩ := hw
 intro i hi
 have bl : (bdU g m u e k).length = nB g (e + 1) := bdL_length ..
 have e1 : (fun j => V (bdA g m u e k) (nB g (e + 1) + j)) = V (unitC (cells g (e : Int)).toNat k) := by
  funext j
  show rd (bdU g m u e k ++ unitC (nB g e) k) ((nB g (e + 1) + j : Nat) : Int) = rd (unitC (nB g e) k) (j : Int)
  rw [rd_app_right (by omega), bl, show nB g (e + 1) + j - nB g (e + 1) = j by omega]
 have e2 : V (bdA g m u e k) i = bdV g u (unitC (cells g (e : Int)).toNat k) e i % m := by
  show rd (bdU g m u e k ++ unitC (nB g e) k) (i : Int) = _
  rw [rd_app_left (by omega), rd_get (by omega)]
  simp only [bdU, bdL, List.getElem_map, List.getElem_range]
 rw [e1, e2, ← At_F, ← Bd_eq]
 exact ⟨-(bdV g u (unitC (cells g (e : Int)).toNat k) e i / m), by
  have := Int.mul_ediv_add_emod (bdV g u (unitC (cells g (e : Int)).toNat k) e i) m
  rw [Int.mul_neg]
  show bdV g u (unitC (cells g (e : Int)).toNat k) e i % m - bdV g u (unitC (cells g (e : Int)).toNat k) e i = _
  omega⟩
noncomputable def sumA (g : List (List Int)) (m : Int) (u : List Int) (e : Nat) (y : Vc) : Nat → Vc
 | 0 => fun _ => 0
 | k + 1 => fun i => sumA g m u e y k i + y k * V (bdA g m u e k) i
theorem sumA_mem {g : List (List Int)} {m : Int} {u : List Int} {e : Nat} (y : Vc) : ∀ k, k ≤ nB g e → allM g m u e (sumA g m u e y k) := by
 intro k
 induction k with
 | zero => exact fun _ => .nil
 | succ k ih => exact fun hk => .add _ (ih (by omega)) ⟨k, by omega, rfl⟩
theorem unitC_rd {c k j : Nat} (hk : k < c) : rd (unitC c k) (j : Int) = if j = k then 1 else 0 := by
 unfold unitC
 by_cases e : j = k
 ·
  subst e; rw [if_pos rfl, rd_set_same (by simpa using hk)]
 ·
  rw [if_neg e, rd_set_ne e, rd_zeros]
theorem sumA_tail {g : List (List Int)} {m : Int} {u : List Int} {e : Nat} (y : Vc) (j : Nat) : ∀ k, k ≤ nB g e → sumA g m u e y k (nB g (e + 1) + j) = if j < k then y j else 0 := by
 intro k
 induction k with
 | zero => intro _; simp [sumA]
 | succ k ih =>
  intro hk
  have bl : (bdU g m u e k).length = nB g (e + 1) := bdL_length ..
  have e1 : V (bdA g m u e k) (nB g (e + 1) + j) = if j = k then 1 else 0 := by
   show rd (bdU g m u e k ++ unitC (nB g e) k) ((nB g (e + 1) + j : Nat) : Int) = _
   rw [rd_app_right (by omega), bl, show nB g (e + 1) + j - nB g (e + 1) = j by omega, unitC_rd (by omega)]
  show sumA g m u e y k (nB g (e + 1) + j) + y k * V (bdA g m u e k) (nB g (e + 1) + j) = _
  rw [ih (by omega), e1]
  by_cases h1 : j < k
  ·
   rw [if_pos h1, if_neg (by omega), if_pos (by omega)]; omega
  ·
   by_cases h2 : j = k
   ·
    subst h2; rw [if_neg h1, if_pos rfl, if_pos (by omega)]; omega
   ·
    rw [if_neg h1, if_neg h2, if_neg (by omega)]; omega
theorem bnd_allM {g : List (List Int)} (hg : Grp g) {m : Int} (m2 : 2 ≤ m) {u : List Int} {e : Nat} (he : e ≤ 3) {z : Vc} (hz : Bnd g m u e z) : allM g m u e z := by
 have h1 := sumA_mem (g := g) (m := m) (u := u) (e := e) (fun k => z (nB g (e + 1) + k)) (nB g e) (Nat.le_refl _)
 have h2 := allM_bnd hg m2 he h1
 have ht : ∀ j, j < nB g e → sumA g m u e (fun k => z (nB g (e + 1) + k)) (nB g e) (nB g (e + 1) + j) = z (nB g (e + 1) + j) := fun j hj => by
  rw [sumA_tail _ _ _ (Nat.le_refl _), if_pos hj]
 refine .alike h1 fun i hi => ?_
 by_cases k : i < nB g (e + 1)
 ·
  have a := h2 i k
  have b := hz i k
  have c := BdS_alike hg (u := u) (m := m) he (h := fun k => sumA g m u e (fun k => z (nB g (e + 1) + k)) (nB g e) (nB g (e + 1) + k)) (h' := fun k => z (nB g (e + 1) + k)) (fun j hj => dvd_same (ht j hj)) (lst_ok hg he k).1 (lst_length ..)
  have := Int.dvd_sub (Int.dvd_add a c) b
  rwa [show ∀ a b c d : Int, a - b + (b - c) - (d - c) = a - d from fun a b c d => by omega] at this
 ·
  obtain ⟨j, rfl⟩ : ∃ j, i = nB g (e + 1) + j := ⟨i - nB g (e + 1), by omega⟩
  exact dvd_same (ht j (by omega))
theorem allM_iff {g : List (List Int)} (hg : Grp g) {m : Int} (m2 : 2 ≤ m) {u : List Int} {e : Nat} (he : e ≤ 3) {w y : List Int} (hw : w.length = nB g (e + 1)) : allM g m u e (V (w ++ y)) ↔ ∀ i, i < nB g (e + 1) → m ∣ rd w (i : Int) - bdV g u y e i := by
 have e1 : (fun k => V (w ++ y) (nB g (e + 1) + k)) = V y := by
  funext k
  show rd (w ++ y) ((nB g (e + 1) + k : Nat) : Int) = rd y (k : Int)
  rw [rd_app_right (by omega), hw, show nB g (e + 1) + k - nB g (e + 1) = k by omega]
 have e2 : Bnd g m u e (V (w ++ y)) ↔ ∀ i, i < nB g (e + 1) → m ∣ rd w (i : Int) - bdV g u y e i := by
  unfold Bnd
  rw [e1]
  constructor
  ·
   intro h i hi
   have := h i hi
   rw [← At_F, ← Bd_eq] at this
   rwa [show V (w ++ y) i = rd w (i : Int) from rd_app_left (by omega)] at this
  ·
   intro h i hi
   rw [← At_F, ← Bd_eq, show V (w ++ y) i = rd w (i : Int) from rd_app_left (by omega)]
   exact h i hi
 exact ⟨fun h => e2.1 (allM_bnd hg m2 he h), fun h => bnd_allM hg m2 he (e2.2 h)⟩
end Go.Proofs.Ytjknpaplgclflaa.V
namespace Go.Proofs.Ytjknpaplgclflaa.V
open Go.RowKit Go.Proofs.Ytjknpaplgclflaa.D Go.Proofs.Ytjknpaplgclflaa.P
theorem snoc_of {xs : List Int} {n : Nat} (h : xs.length = n + 1) : ∃ ys x, xs = ys ++ [x] ∧ ys.length = n := by
 have hne : xs ≠ [] := fun e => by rw [e] at h; simp at h
 refine ⟨xs.dropLast, xs.getLast hne, (List.dropLast_concat_getLast hne).symm, by rw [List.length_dropLast]; omega⟩
theorem lst_idx {g : List (List Int)} : ∀ (n : Nat) (xs : List Int), xs.length = n → (∀ x ∈ xs, 1 ≤ x ∧ x < g.length) → lst ((g.length : Int) - 1) n (idx g xs) = xs := by
 intro n
 induction n with
 | zero => intro xs hl _; rw [List.eq_nil_of_length_eq_zero hl]; rfl
 | succ n ih =>
  intro xs hl hx
  obtain ⟨ys, x, rfl, hy⟩ := snoc_of hl
  obtain ⟨x0, x1⟩ := hx x (by simp)
  rw [idx_snoc, lst]
  have e1 : (idx g ys * ((g.length : Int) - 1) + x - 1) / ((g.length : Int) - 1) = idx g ys := by
   rw [show idx g ys * ((g.length : Int) - 1) + x - 1 = (x - 1) + idx g ys * ((g.length : Int) - 1) by omega, Int.add_mul_ediv_right _ _ (by omega), Int.ediv_eq_zero_of_lt (by omega) (by omega)]
   omega
  have e2 : (idx g ys * ((g.length : Int) - 1) + x - 1) % ((g.length : Int) - 1) = x - 1 := by
   rw [show idx g ys * ((g.length : Int) - 1) + x - 1 = (x - 1) + idx g ys * ((g.length : Int) - 1) by omega, Int.add_mul_emod_self_right, Int.emod_eq_of_lt (by omega) (by omega)]
  rw [e1, e2, ih ys hy fun z hz => hx z (by simp [hz]), show x - 1 + 1 = x by omega]
theorem idx_lst {g : List (List Int)} : ∀ (n : Nat) (i : Int), 0 ≤ i → i < ((g.length : Int) - 1) ^ n → (n = 0 ∨ 2 ≤ g.length) → idx g (lst ((g.length : Int) - 1) n i) = i := by
 intro n
 induction n with
 | zero => intro i i0 i1 _; rw [Int.pow_zero] at i1; simp [lst, idx]; omega
 | succ n ih =>
  intro i i0 i1 h2
  have hb : 0 < (g.length : Int) - 1 := by omega
  rw [lst, idx_snoc, ih _ (Int.ediv_nonneg i0 (by omega)) (by
   rw [Int.pow_succ] at i1
   exact Int.ediv_lt_of_lt_mul hb i1) (by omega)]
  have := Int.mul_ediv_add_emod i ((g.length : Int) - 1)
  rw [Int.mul_comm] at this
  omega
def ConP (g : List (List Int)) (m : Int) (u v r : List Int) (n : Nat) : Prop := ∀ x : Int, 0 ≤ x → x < n → ∀ y : Int, 0 ≤ y → y < n → T g x y < n → (rd r x + rd u x * rd r y + At g v [x, y]) % m = rd r (T g x y)
theorem ConP.pre {g : List (List Int)} {m : Int} {u v r r' : List Int} {n n' : Nat} (h : ConP g m u v r n) (hn : n' ≤ n) (hg : Grp g) (hN : n ≤ g.length) (he : ∀ i : Int, 0 ≤ i → i < n' → rd r' i = rd r i) : ConP g m u v r' n' := by
 intro x x0 x1 y y0 y1 ht
 have e := h x x0 (by omega) y y0 (by omega) (by omega)
 obtain ⟨t0, _⟩ := hg.ent x y x0 (by omega) y0 (by omega)
 rw [he x x0 x1, he y y0 y1, he _ t0 ht]
 exact e
theorem take_rdi {r l : List Int} (h : r.take l.length = l) {i : Int} (i0 : 0 ≤ i) (i1 : i < l.length) : rd l i = rd r i := by
 obtain ⟨n, rfl⟩ := Int.eq_ofNat_of_zero_le i0
 rw [← h, rd_take (by omega)]
theorem idx_one {g : List (List Int)} (z : Int) : idx g [z] = z - 1 := by simp [idx]
theorem At_one {g : List (List Int)} {h : List Int} {z : Int} (z0 : 0 ≤ z) : At g h [z] = rd (0 :: h) z := by
 unfold At
 by_cases e : z = 0
 ·
  rw [ite_neg (fun q => q 0 (by omega) (by simp) (by simp [rd, e]))]
  simp [rd, e]
 ·
  rw [ite_pos (show NoUnit [z] from fun j j0 j1 => by
   have : j = 0 := by simp at j1; omega
   subst this
   exact e), idx_one]
  obtain ⟨n, rfl⟩ := Int.eq_ofNat_of_zero_le z0
  cases n with
  | zero => exact absurd rfl e
  | succ n =>
   simp only [rd]
   rw [show (((n + 1 : Nat) : Int) - 1).toNat = n by omega, Int.toNat_natCast]
   rfl
theorem bd_one {g : List (List Int)} {u h : List Int} {x y : Int} : Bd g u h [x, y] 1 = rd u x * At g h [y] - At g h [T g x y] + At g h [x] := by
 simp only [Bd, bsum, join2, List.take_zero, List.nil_append, List.drop_succ_cons, List.drop_zero, List.take_succ_cons]
 have e0 : rd [x, y] 0 = x := rfl
 have e1 : rd [x, y] ((0 + 1 : Nat) : Int) = y := rfl
 have e2 : rd [x, y] ((0 : Nat) : Int) = x := rfl
 rw [e0, e1, e2, List.append_nil]
 omega
theorem two_list {g : List (List Int)} {i : Int} : ∃ x y, lst ((g.length : Int) - 1) 2 i = [x, y] := ⟨_, _, rfl⟩
theorem ext_iff {g : List (List Int)} (hg : Grp g) {m : Int} {u v h w : List Int} (hm : Mdl g m u) (hc : Co g m 2 v) (hl : h.length = nB g 1) (ha : AllIn m h) (hw : w.length = nB g 2) (hwv : ∀ i, i < nB g 2 → m ∣ rd w (i : Int) + rd v (i : Int)) :
  ConP g m u v (0 :: h) g.length ↔ allM g m u 1 (V (w ++ h)) := by
 have m2 := hm.m2; have m12 := hm.m12; have n1 := hg.n1; have n8 := hg.n8
 obtain ⟨c1, c2⟩ := nA_bd hg (e := 2) (by omega)
 obtain ⟨b1, b2⟩ := nA_bd hg (e := 1) (by omega)
 have hN1 : (nB g 1 : Int) = g.length - 1 := by rw [b2]; show ((g.length : Int) - 1) ^ 1 = _; rw [Int.pow_succ, Int.pow_zero]; omega
 have hal : AllIn m (0 :: h) := allIn_of fun z hz => by
  rcases List.mem_cons.1 hz with rfl | hz
  ·
   omega
  ·
   exact ha.mem hz
 have hrl : ((0 :: h).length : Int) = g.length := by rw [List.length_cons]; omega
 rw [allM_iff hg m2 (by omega) hw]
 have key : ∀ x y : Int, 0 ≤ x → x < g.length → 0 ≤ y → y < g.length → ((rd (0 :: h) x + rd u x * rd (0 :: h) y + At g v [x, y]) % m = rd (0 :: h) (T g x y) ↔ m ∣ At g v [x, y] + Bd g u h [x, y] 1) := fun x y x0 x1 y0 y1 => by
  obtain ⟨t0, t1⟩ := hg.ent x y x0 x1 y0 y1
  obtain ⟨r0, r1⟩ := hal (T g x y) t0 (by omega)
  rw [bd_one, At_one x0, At_one y0, At_one t0]
  constructor
  ·
   intro q
   have := Int.mul_ediv_add_emod (rd (0 :: h) x + rd u x * rd (0 :: h) y + At g v [x, y]) m
   rw [q] at this
   exact ⟨(rd (0 :: h) x + rd u x * rd (0 :: h) y + At g v [x, y]) / m, by omega⟩
  ·
   rintro ⟨q, hq⟩
   rw [show rd (0 :: h) x + rd u x * rd (0 :: h) y + At g v [x, y] = rd (0 :: h) (T g x y) + m * q by omega, Int.add_mul_emod_self_left, Int.emod_eq_of_lt r0 r1]
 have hval : ∀ i : Nat, i < nB g 2 → ∃ x y : Int, 1 ≤ x ∧ x < g.length ∧ 1 ≤ y ∧ y < g.length ∧ lst ((g.length : Int) - 1) 2 (i : Int) = [x, y] ∧ At g v [x, y] = rd v (i : Int) := fun i hi => by
  obtain ⟨x, y, e⟩ := two_list (g := g) (i := (i : Int))
  obtain ⟨hx, hn⟩ := lst_ok hg (e := 1) (by omega) hi
  have hL : lst ((g.length : Int) - 1) (1 + 1) (i : Int) = [x, y] := e
  rw [hL] at hx hn
  have hx0 := hx.mem (show x ∈ [x, y] by simp)
  have hy0 := hx.mem (show y ∈ [x, y] by simp)
  have nx : ¬ x = 0 := hn 0 (by omega) (by simp)
  have ny : ¬ y = 0 := hn 1 (by omega) (by simp)
  refine ⟨x, y, by omega, by omega, by omega, by omega, e, ?_⟩
  have hi2 : (i : Int) < ((g.length : Int) - 1) ^ 2 := by
   have : cells g 2 = ((g.length : Int) - 1) ^ 2 := rfl
   have c2' : ((nB g 2 : Nat) : Int) = cells g 2 := c2
   omega
  have := idx_lst (g := g) 2 (i : Int) (by omega) hi2 (by omega)
  rw [e] at this
  unfold At
  rw [ite_pos hn, this]
 constructor
 ·
  intro hC i hi
  obtain ⟨x, y, x0, x1, y0, y1, e, hv⟩ := hval i hi
  have h1 := (key x y (by omega) x1 (by omega) y1).1 (hC x (by omega) x1 y (by omega) y1 (hg.ent x y (by omega) x1 (by omega) y1).2)
  rw [hv] at h1
  have e2 : bdV g u h 1 i = Bd g u h [x, y] 1 := by show Bd g u h (lst ((g.length : Int) - 1) 2 (i : Int)) 1 = _; rw [e]
  rw [e2]
  have := Int.dvd_sub (hwv i hi) h1
  rwa [show ∀ a b c : Int, a + b - (b + c) = a - c from fun a b c => by omega] at this
 ·
  intro hB x x0 x1 y y0 y1 _
  have one := hm.one hg
  by_cases hx : x = 0
  ·
   subst hx
   have z : At g v [0, y] = 0 := by unfold At; rw [ite_neg fun q => q 0 (by omega) (by simp) rfl]
   obtain ⟨r0, r1⟩ := hal y y0 (by omega)
   rw [z, hg.one y y0 y1, one, show rd (0 :: h) (0 : Int) = 0 from rfl, Int.one_mul, Int.zero_add, Int.add_zero, Int.emod_eq_of_lt r0 r1]
  by_cases hy : y = 0
  ·
   subst hy
   have z : At g v [x, 0] = 0 := by unfold At; rw [ite_neg fun q => q 1 (by omega) (by simp) rfl]
   obtain ⟨r0, r1⟩ := hal x x0 (by omega)
   rw [z, hg.one' x x0 x1, show rd (0 :: h) (0 : Int) = 0 from rfl, Int.mul_zero, Int.add_zero, Int.add_zero, Int.emod_eq_of_lt r0 r1]
  refine (key x y x0 x1 y0 y1).2 ?_
  have hnu : NoUnit [x, y] := fun j j0 j1 => by
   have : j = 0 ∨ j = 1 := by simp at j1; omega
   rcases this with rfl | rfl
   ·
    exact hx
   ·
    exact hy
  obtain ⟨i0, i1⟩ := idx_nB hg (e := 2) (by omega) (allIn_two x0 x1 y0 y1) rfl hnu
  have hL := lst_idx (g := g) 2 [x, y] rfl (fun z hz => by
   simp only [List.mem_cons, List.not_mem_nil, or_false] at hz
   rcases hz with rfl | rfl <;> omega)
  have h2 := hB (idx g [x, y]).toNat i1
  have e2 : bdV g u h 1 (idx g [x, y]).toNat = Bd g u h [x, y] 1 := by
   show Bd g u h (lst ((g.length : Int) - 1) 2 (((idx g [x, y]).toNat : Nat) : Int)) 1 = _
   rw [Int.toNat_of_nonneg i0, hL]
  have e3 : At g v [x, y] = rd v ((((idx g [x, y]).toNat : Nat)) : Int) := by
   unfold At
   rw [ite_pos hnu, Int.toNat_of_nonneg i0]
  rw [e2] at h2
  rw [e3]
  have := Int.dvd_sub (hwv _ i1) h2
  rwa [show ∀ a b c : Int, a + b - (a - c) = b + c from fun a b c => by omega] at this
end Go.Proofs.Ytjknpaplgclflaa.V
set_option maxHeartbeats 2000000
namespace Go.Proofs.Ytjknpaplgclflaa.V
open Go.RowKit Go.Proofs.Ytjknpaplgclflaa.D Go.Proofs.Ytjknpaplgclflaa.P
def Nums (g : List (List Int)) (m : Int) (l : List Int) : Prop := (l.length : Int) = g.length ∧ AllIn m l
def Crs (g : List (List Int)) (m : Int) (u l : List Int) : Prop := ∀ x : Int, 0 ≤ x → x < g.length → ∀ y : Int, 0 ≤ y → y < g.length → rd l (T g x y) = (rd l x + rd u x * rd l y) % m
end Go.Proofs.Ytjknpaplgclflaa.V
