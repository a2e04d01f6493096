/- What the proof of the law CentreOfExtension stands on, part 5: words, each Go function's Lean function, and that the Go code comes to its answers; no condition. (Packed by wip/myprint/pack.py out of what the kit's printer wrote, its words among it, partly by our patches of it, and out of texts of this session.) -/
import Derived.ChangeSlices
import Derived.ChangeSame
import Derived.Deep.Matrix
import Derived.Lib.SmallJoins
import Derived.Test.YtdiadcmkddkjpaaKCentreOfExtension3
import Derived.Test.YtdiadcmkddkjpaaKCentreOfExtension4
set_option linter.unusedVariables false
set_option linter.unusedSimpArgs false
set_option maxHeartbeats 2000000
set_option maxRecDepth 20000
namespace Go.Proofs.Ytdiadcmkddkjpaa.V
open Go.RowKit Go.Proofs.Ytdiadcmkddkjpaa.D Go.Proofs.Ytdiadcmkddkjpaa.P
structure Mdl (g : List (List Int)) (m : Int) (u : List Int) : Prop where
  m2 : 2 ≤ m
  m12 : m ≤ 12
  len : u.length = g.length
  unit : ∀ i : Int, 0 ≤ i → i < u.length → 1 ≤ rd u i ∧ rd u i < m ∧ Int.gcd (rd u i) m = 1
  hom : ∀ i : Int, 0 ≤ i → i < u.length → ∀ j : Int, 0 ≤ j → j < u.length → rd u (T g i j) = rd u i * rd u j % m
theorem unit_one : ∀ m : Nat, m ≤ 12 → ∀ u : Nat, u < m → Nat.gcd u m = 1 → u = u * u % m → 1 ≤ u → u = 1 := by decide
theorem Mdl.one {g : List (List Int)} {m : Int} {u : List Int} (hg : Grp g) (h : Mdl g m u) : rd u 0 = 1 := by
  have n1 := hg.n1
  have hl := h.len
  obtain ⟨a1, a2, a3⟩ := h.unit 0 (by omega) (by omega)
  have e := h.hom 0 (by omega) (by omega) 0 (by omega) (by omega)
  rw [hg.one 0 (by omega) (by omega)] at e
  have m2 := h.m2; have m12 := h.m12
  obtain ⟨M, rfl⟩ := Int.eq_ofNat_of_zero_le (show 0 ≤ m by omega)
  obtain ⟨U, hU⟩ := Int.eq_ofNat_of_zero_le (show 0 ≤ rd u 0 by omega)
  rw [hU] at a1 a2 a3 e ⊢
  have := unit_one M (by omega) U (by omega) (by simpa [Int.gcd] using a3) (by exact_mod_cast e) (by omega)
  omega
theorem mul_lt_small {a b m : Int} (a0 : 0 ≤ a) (a1 : a < m) (b0 : 0 ≤ b) (b1 : b < m) (hm : m ≤ 1000) : 0 ≤ a * b ∧ a * b ≤ 1000000 := by
  refine ⟨Int.mul_nonneg a0 b0, ?_⟩
  have h1 : a * b ≤ 1000 * b := Int.mul_le_mul_of_nonneg_right (by omega) b0
  omega
theorem Mdl.at {g : List (List Int)} {m : Int} {u : List Int} (h : Mdl g m u) {x : Int} (x0 : 0 ≤ x) (x1 : x < g.length) : 1 ≤ rd u x ∧ rd u x < m := by
  have hl := h.len
  obtain ⟨a, b, _⟩ := h.unit x x0 (by omega)
  exact ⟨a, b⟩
theorem small_prod {m x : Int} {u : List Int} {g : List (List Int)} (hm : Mdl g m u) (x0 : 0 ≤ x) (x1 : x < g.length) {b : Int} (b0 : 0 ≤ b) (b1 : b < m) : 0 ≤ rd u x * b ∧ rd u x * b ≤ 1000000 := by
  have m12 := hm.m12
  have := hm.at x0 x1
  exact mul_lt_small (by omega) this.2 b0 b1 (by omega)
theorem isUnit {m x : Int} (m0 : 0 ≤ m) : impl_isUnit.f m x = some (B (1 ≤ x ∧ x < m ∧ Int.gcd x m = 1)) := by
  rw [impl_isUnit.f_eq]
  by_cases h1 : 1 ≤ x ∧ x < m
  · have h := gcd_ m0 (show 0 ≤ x by omega)
    (with_reducible repeat (first | refine go_pos (by first | assumption | omega | rfl | exact B_pos (by omega)) ?_ | refine go_neg (by first | assumption | omega | decide | exact B_not (by omega)) ?_ | refine go_bind (by first | assumption) ?_ | dsimp only))
    rw [Int.gcd_comm]
    by_cases h3 : Int.gcd x m = 1
    · rw [B_pos ⟨h1.1, h1.2, h3⟩]; simp [h3]
    · rw [B_neg fun h => h3 h.2.2]
      simp; omega
  · rw [B_neg fun h => h1 ⟨h.1, h.2.1⟩]
    by_cases h2 : 1 ≤ x <;> ((with_reducible repeat (first | refine go_pos (by first | assumption | omega | rfl | exact B_pos (by omega)) ?_ | refine go_neg (by first | assumption | omega | decide | exact B_not (by omega)) ?_ | refine go_bind (by first | assumption) ?_ | dsimp only)); first | done | (with_reducible rfl) | simp (disch := omega) only [w64] | (show False; done))
theorem isModulus (m : Int) : impl_isModulus.f m = some (B (2 ≤ m ∧ m ≤ 12)) := by
  rw [impl_isModulus.f_eq]
  by_cases h : m ≥ 2
  · rw [if_pos h, B_decide, B_congr (show m ≤ 12 ↔ (2 ≤ m ∧ m ≤ 12) from ⟨fun h' => ⟨h, h'⟩, fun h' => h'.2⟩)]
  · rw [if_neg h, B_neg (fun h' => h h'.1)]
theorem mdl_iff (g : List (List Int)) (m : Int) (u : List Int) : Mdl g m u ↔ (2 ≤ m ∧ m ≤ 12) ∧ u.length = g.length ∧ (∀ i : Int, 0 ≤ i → i < u.length → 1 ≤ rd u i ∧ rd u i < m ∧ Int.gcd (rd u i) m = 1) ∧ ∀ i : Int, 0 ≤ i → i < u.length → ∀ j : Int, 0 ≤ j → j < u.length → rd u (T g i j) = rd u i * rd u j % m :=
  ⟨fun h => ⟨⟨h.m2, h.m12⟩, h.len, h.unit, h.hom⟩, fun ⟨⟨a, b⟩, c, d, e⟩ => ⟨a, b, c, d, e⟩⟩
theorem isModule {g : List (List Int)} (hg : Grp g) (m : Int) (u : List Int) (hl : u.length ≤ maxLen) : impl_isModule.f g m u = some (B (Mdl g m u)) := by
  have hm := maxLen_le
  have n1 := hg.n1
  (rw [impl_isModule.f_eq])
  by_cases h1 : 2 ≤ m ∧ m ≤ 12
  rotate_left
  · rw [B_neg fun h => h1 ⟨h.m2, h.m12⟩]
    ((with_reducible repeat (first | refine go_pos (by first | assumption | omega | rfl | exact B_pos (by omega)) ?_ | refine go_neg (by first | assumption | omega | decide | exact B_not (by omega)) ?_ | refine go_bind (by first | assumption | exact isModulus _ | exact impl_order.f_eq _) ?_ | dsimp only)); first | done | (with_reducible rfl) | simp (disch := omega) only [w64] | (show False; done))
  by_cases h3 : (u.length : Int) = g.length
  rotate_left
  · rw [B_neg fun h => h3 (by rw [h.len])]
    ((with_reducible repeat (first | refine go_pos (by first | assumption | omega | rfl | exact B_pos (by omega)) ?_ | refine go_neg (by first | assumption | omega | decide | exact B_not (by omega)) ?_ | refine go_bind (by first | assumption | exact isModulus _ | exact impl_order.f_eq _) ?_ | dsimp only)); first | done | (with_reducible rfl) | simp (disch := omega) only [w64] | (show False; done))
  by_cases h5 : rd u 0 = 1
  rotate_left
  · rw [B_neg fun h => h5 (h.one hg)]
    ((with_reducible repeat (first | refine go_pos (by first | assumption | omega | rfl | exact B_pos (by omega)) ?_ | refine go_neg (by first | assumption | omega | decide | exact B_not (by omega)) ?_ | refine go_bind (by first | assumption | exact isModulus _ | exact impl_order.f_eq _) ?_ | dsimp only)); first | done | (with_reducible rfl) | simp (disch := omega) only [w64] | (show False; done))
  (with_reducible repeat (first | refine go_pos (by first | assumption | omega | rfl | exact B_pos (by omega)) ?_ | refine go_neg (by first | assumption | omega | decide | exact B_not (by omega)) ?_ | refine go_bind (by first | assumption | exact isModulus _ | exact impl_order.f_eq _) ?_ | dsimp only))
  rw [B_congr (mdl_iff g m u), B_congr (show ((2 ≤ m ∧ m ≤ 12) ∧ u.length = g.length ∧ (∀ i : Int, 0 ≤ i → i < u.length → 1 ≤ rd u i ∧ rd u i < m ∧ Int.gcd (rd u i) m = 1) ∧ ∀ i : Int, 0 ≤ i → i < u.length → ∀ j : Int, 0 ≤ j → j < u.length → rd u (T g i j) = rd u i * rd u j % m) ↔ _ from ⟨fun h => h.2.2, fun h => ⟨h1, by omega, h⟩⟩)]
  refine scanB u.length (fun i => impl_isModule.l0 u (u.length : Int) i g m u) (fun i => 1 ≤ rd u i ∧ rd u i < m ∧ Int.gcd (rd u i) m = 1) _ (fun i i0 i1 _ => ?_) (fun hu => ?_)
  · have hu := isUnit (m := m) (x := rd u i) (by omega)
    refine ⟨fun h => ?_, fun h => ?_⟩ <;> (rw [impl_isModule.l0_eq]) <;> ((with_reducible repeat (first | refine go_pos (by first | assumption | omega | rfl | exact B_pos (by omega)) ?_ | refine go_neg (by first | assumption | omega | decide | exact B_not (by omega)) ?_ | refine go_bind (by first | assumption) ?_ | dsimp only)); first | done | (with_reducible rfl) | simp (disch := omega) only [w64] | (show False; done))
  (rw [impl_isModule.l0_eq])
  (with_reducible repeat (first | refine go_pos (by first | assumption | omega | rfl | exact B_pos (by omega)) ?_ | refine go_neg (by first | assumption | omega | decide | exact B_not (by omega)) ?_ | refine go_bind (by first | assumption | exact impl_order.f_eq _) ?_ | dsimp only))
  rw [← h3]
  refine scanT u.length (fun i => impl_isModule.l1 (u.length : Int) i g m u) (fun i => ∀ j : Int, 0 ≤ j → j < u.length → rd u (T g i j) = rd u i * rd u j % m) (fun i i0 i1 _ => ?_) (fun _ => by (rw [impl_isModule.l1_eq]); ((with_reducible repeat (first | refine go_pos (by first | assumption | omega | rfl | exact B_pos (by omega)) ?_ | refine go_neg (by first | assumption | omega | decide | exact B_not (by omega)) ?_ | refine go_bind (by first | assumption) ?_ | dsimp only)); first | done | (with_reducible rfl) | simp (disch := omega) only [w64] | (show False; done)))
  have inner := scanI u.length (fun j => impl_isModule.l2 i (u.length : Int) i (u.length : Int) j g m u) (fun j => rd u (T g i j) = rd u i * rd u j % m) (some false) (impl_isModule.l1 (u.length : Int) (i + 1) g m u) (fun j j0 j1 _ => by
    have ht := times2 hg i0 (by omega) j0 (by omega)
    obtain ⟨e0, e1⟩ := hg.ent i j i0 (by omega) j0 (by omega)
    obtain ⟨p0, p1⟩ := mul_lt_small (show 0 ≤ rd u i by have := (hu i i0 i1).1; omega) (hu i i0 i1).2.1 (show 0 ≤ rd u j by have := (hu j j0 j1).1; omega) (hu j j0 j1).2.1 (by omega)
    have hwp : wrapI (rd u i * rd u j) = rd u i * rd u j := w64 (by omega) (by omega)
    have e := tmod_nn (m := m) p0
    refine ⟨fun h => ?_, fun h => ?_⟩ <;> (rw [impl_isModule.l2_eq, hwp, e]) <;> ((with_reducible repeat (first | refine go_pos (by first | assumption | omega | rfl | exact B_pos (by omega)) ?_ | refine go_neg (by first | assumption | omega | decide | exact B_not (by omega)) ?_ | refine go_bind (by first | assumption) ?_ | dsimp only)); first | done | (with_reducible rfl) | simp (disch := omega) only [w64] | (show False; done))) (fun _ => by (rw [impl_isModule.l2_eq]); ((with_reducible repeat (first | refine go_pos (by first | assumption | omega | rfl | exact B_pos (by omega)) ?_ | refine go_neg (by first | assumption | omega | decide | exact B_not (by omega)) ?_ | refine go_bind (by first | assumption) ?_ | dsimp only)); first | done | (with_reducible rfl) | simp (disch := omega) only [w64] | (show False; done)))
  refine ⟨fun h => ?_, fun h => ?_⟩ <;> (rw [impl_isModule.l1_eq]) <;> (with_reducible repeat (first | refine go_pos (by first | assumption | omega | rfl | exact B_pos (by omega)) ?_ | refine go_neg (by first | assumption | omega | decide | exact B_not (by omega)) ?_ | refine go_bind (by first | assumption | exact impl_order.f_eq _) ?_ | dsimp only)) <;> rw [← h3]
  · exact inner.1 h
  · exact inner.2 h
theorem Is02 {g : List (List Int)} (hg : Grp g) (m : Int) (u : List Int) (hl : u.length ≤ maxLen) : spec_l02Is.f g m u = some (B (Mdl g m u)) := by
  have hm := maxLen_le
  have n1 := hg.n1
  (rw [spec_l02Is.f_eq])
  by_cases h1 : 2 ≤ m ∧ m ≤ 12
  rotate_left
  · rw [B_neg fun h => h1 ⟨h.m2, h.m12⟩]
    ((with_reducible repeat (first | refine go_pos (by first | assumption | omega | rfl | exact B_pos (by omega)) ?_ | refine go_neg (by first | assumption | omega | decide | exact B_not (by omega)) ?_ | refine go_bind (by first | assumption | exact In_ _ _ _) ?_ | dsimp only)); first | done | (with_reducible rfl) | simp (disch := omega) only [w64] | (show False; done))
  by_cases h3 : (u.length : Int) = g.length
  rotate_left
  · rw [B_neg fun h => h3 (by rw [h.len])]
    ((with_reducible repeat (first | refine go_pos (by first | assumption | omega | rfl | exact B_pos (by omega)) ?_ | refine go_neg (by first | assumption | omega | decide | exact B_not (by omega)) ?_ | refine go_bind (by first | assumption | exact In_ _ _ _) ?_ | dsimp only)); first | done | (with_reducible rfl) | simp (disch := omega) only [w64] | (show False; done))
  (with_reducible repeat (first | refine go_pos (by first | assumption | omega | rfl | exact B_pos (by omega)) ?_ | refine go_neg (by first | assumption | omega | decide | exact B_not (by omega)) ?_ | refine go_bind (by first | assumption | exact In_ _ _ _) ?_ | dsimp only))
  rw [B_congr (mdl_iff g m u), B_congr (show ((2 ≤ m ∧ m ≤ 12) ∧ u.length = g.length ∧ (∀ i : Int, 0 ≤ i → i < u.length → 1 ≤ rd u i ∧ rd u i < m ∧ Int.gcd (rd u i) m = 1) ∧ ∀ i : Int, 0 ≤ i → i < u.length → ∀ j : Int, 0 ≤ j → j < u.length → rd u (T g i j) = rd u i * rd u j % m) ↔ _ from ⟨fun h => h.2.2, fun h => ⟨h1, by omega, h⟩⟩)]
  have hw1 : wrapI (m - 1) = m - 1 := w64 (by omega) (by omega)
  refine scanB u.length (fun i => spec_l02Is.l0 i g m u) (fun i => 1 ≤ rd u i ∧ rd u i < m ∧ Int.gcd (rd u i) m = 1) _ (fun i i0 i1 _ => ?_) (fun hu => ?_)
  · refine ⟨fun h => ?_, fun h => ?_⟩ <;> (rw [spec_l02Is.l0_eq, hw1])
    · have hgc := Gcd_ (a := rd u i) (b := m) (by omega) (by omega) (by omega) (by omega)
      ((with_reducible repeat (first | refine go_pos (by first | assumption | omega | rfl | exact B_pos (by omega)) ?_ | refine go_neg (by first | assumption | omega | decide | exact B_not (by omega)) ?_ | refine go_bind (by first | assumption | exact In_ _ _ _) ?_ | dsimp only)); first | done | (with_reducible rfl) | simp (disch := omega) only [w64] | (show False; done))
    · by_cases h6 : 1 ≤ rd u i ∧ rd u i < m
      · have hgc := Gcd_ (a := rd u i) (b := m) (by omega) (by omega) (by omega) (by omega)
        ((with_reducible repeat (first | refine go_pos (by first | assumption | omega | rfl | exact B_pos (by omega)) ?_ | refine go_neg (by first | assumption | omega | decide | exact B_not (by omega)) ?_ | refine go_bind (by first | assumption | exact In_ _ _ _) ?_ | dsimp only)); first | done | (with_reducible rfl) | simp (disch := omega) only [w64] | (show False; done))
      · ((with_reducible repeat (first | refine go_pos (by first | assumption | omega | rfl | exact B_pos (by omega)) ?_ | refine go_neg (by first | assumption | omega | decide | exact B_not (by omega)) ?_ | refine go_bind (by first | assumption | exact In_ _ _ _) ?_ | dsimp only)); first | done | (with_reducible rfl) | simp (disch := omega) only [w64] | (show False; done))
  (rw [spec_l02Is.l0_eq])
  (with_reducible repeat (first | refine go_pos (by first | assumption | omega | rfl | exact B_pos (by omega)) ?_ | refine go_neg (by first | assumption | omega | decide | exact B_not (by omega)) ?_ | refine go_bind (by first | assumption) ?_ | dsimp only))
  refine scanT u.length (fun i => spec_l02Is.l1 i g m u) (fun i => ∀ j : Int, 0 ≤ j → j < u.length → rd u (T g i j) = rd u i * rd u j % m) (fun i i0 i1 _ => ?_) (fun _ => by (rw [spec_l02Is.l1_eq]); ((with_reducible repeat (first | refine go_pos (by first | assumption | omega | rfl | exact B_pos (by omega)) ?_ | refine go_neg (by first | assumption | omega | decide | exact B_not (by omega)) ?_ | refine go_bind (by first | assumption) ?_ | dsimp only)); first | done | (with_reducible rfl) | simp (disch := omega) only [w64] | (show False; done)))
  have ri := hg.row i i0 (by omega)
  have inner := scanI u.length (fun j => spec_l02Is.l2 i j g m u) (fun j => rd u (T g i j) = rd u i * rd u j % m) (some false) (spec_l02Is.l1 (i + 1) g m u) (fun j j0 j1 _ => by
    obtain ⟨e0, e1⟩ := hg.ent i j i0 (by omega) j0 (by omega)
    obtain ⟨p0, p1⟩ := mul_lt_small (show 0 ≤ rd u i by have := (hu i i0 i1).1; omega) (hu i i0 i1).2.1 (show 0 ≤ rd u j by have := (hu j j0 j1).1; omega) (hu j j0 j1).2.1 (by omega)
    have hwp : wrapI (rd u i * rd u j) = rd u i * rd u j := w64 (by omega) (by omega)
    have e := tmod_nn (m := m) p0
    refine ⟨fun h => ?_, fun h => ?_⟩ <;> (rw [spec_l02Is.l2_eq, hwp, e]) <;> ((with_reducible repeat (first | refine go_pos (by first | assumption | omega | rfl | exact B_pos (by omega)) ?_ | refine go_neg (by first | assumption | omega | decide | exact B_not (by omega)) ?_ | refine go_bind (by first | assumption) ?_ | dsimp only)); first | done | (with_reducible rfl) | simp (disch := omega) only [w64] | (show False; done))) (fun _ => by (rw [spec_l02Is.l2_eq]); ((with_reducible repeat (first | refine go_pos (by first | assumption | omega | rfl | exact B_pos (by omega)) ?_ | refine go_neg (by first | assumption | omega | decide | exact B_not (by omega)) ?_ | refine go_bind (by first | assumption) ?_ | dsimp only)); first | done | (with_reducible rfl) | simp (disch := omega) only [w64] | (show False; done)))
  refine ⟨fun h => ?_, fun h => ?_⟩ <;> (rw [spec_l02Is.l1_eq]) <;> (with_reducible repeat (first | refine go_pos (by first | assumption | omega | rfl | exact B_pos (by omega)) ?_ | refine go_neg (by first | assumption | omega | decide | exact B_not (by omega)) ?_ | refine go_bind (by first | assumption) ?_ | dsimp only))
  · exact inner.1 h
  · exact inner.2 h
def GM (g : List (List Int)) (m : Int) (u : List Int) : Prop := Grp g ∧ Mdl g m u
theorem areModules1 (g : List (List Int)) (hl : g.length ≤ maxLen) (hr : ∀ r ∈ g, r.length ≤ maxLen) (m : Int) (u : List Int) (hu : u.length ≤ maxLen) : impl_areModules.f g [(m, u)] = some (B (GM g m u)) := by
  have hG := isGroup g hl hr
  rw [impl_areModules.f_eq]
  have st : impl_areModules.l0 [(m, u)] (([(m, u)] : List (Int × List Int)).length : Int) 1 g = some true := by (rw [impl_areModules.l0_eq]); exact if_neg (by simp)
  (rw [impl_areModules.l0_eq])
  rw [if_pos (by simp), if_pos (by simp), if_pos (by simp), hG]
  by_cases h1 : Grp g
  · have hM := isModule h1 m u hu
    rw [B_pos h1]
    show (Option.bind (impl_isModule.f g m u) _) = _
    rw [hM]
    by_cases h2 : Mdl g m u
    · rw [B_pos h2, B_pos ⟨h1, h2⟩]
      simpa [show wrapI 1 = 1 from w64 (by omega) (by omega)] using st
    · rw [B_neg h2, B_neg fun h => h2 h.2]
      rfl
  · rw [B_neg h1, B_neg fun h => h1 h.1]
    rfl
end Go.Proofs.Ytdiadcmkddkjpaa.V
set_option linter.unusedVariables false
set_option linter.unusedSimpArgs false
set_option maxHeartbeats 2000000
set_option maxRecDepth 20000
namespace Go.Proofs.Ytdiadcmkddkjpaa.V
open Go.RowKit Go.Proofs.Ytdiadcmkddkjpaa.D Go.Proofs.Ytdiadcmkddkjpaa.P
theorem Mod_ {a m : Int} (h0 : -1000000000 ≤ a) (h1 : a ≤ 1000000000) (m0 : 0 < m) (m1 : m ≤ 1000000) : spec_l01Mod.f a m = some (a % m) := by
  rw [spec_l01Mod.f_eq]
  have t0 := Int.tmod_lt_of_pos a m0
  have t1 : -m < Int.tmod a m := Int.lt_tmod_of_pos a m0
  have hq := Int.mul_tdiv_add_tmod a m
  have h5 : (m * a.tdiv m + a.tmod m) % m = a.tmod m % m := by rw [Int.add_comm, Int.add_mul_emod_self_left]
  rw [hq] at h5
  rw [w64 (by omega) (by omega), Int.tmod_eq_emod_of_nonneg (show 0 ≤ Int.tmod a m + m by omega), Int.add_emod_right, ← h5]
  ((with_reducible repeat (first | refine go_pos (by first | assumption | omega | rfl | exact B_pos (by omega)) ?_ | refine go_neg (by first | assumption | omega | decide | exact B_not (by omega)) ?_ | refine go_bind (by first | assumption) ?_ | dsimp only)); first | done | (with_reducible rfl) | simp (disch := omega) only [w64] | (show False; done))
theorem pow_nat : ∀ n : Nat, n ≤ 7 → ∀ i : Nat, i ≤ 5 → n ^ i ≤ 16807 := by decide
theorem pow_bd {a : Int} (h0 : 0 ≤ a) (h1 : a ≤ 7) (i : Nat) (hi : i ≤ 5) : 0 ≤ a ^ i ∧ a ^ i ≤ 16807 := by
  obtain ⟨n, rfl⟩ := Int.eq_ofNat_of_zero_le h0
  have h := pow_nat n (by omega) i hi
  rw [← Int.natCast_pow]
  omega
def cells (g : List (List Int)) (d : Int) : Int := ((g.length : Int) - 1) ^ d.toNat
theorem cells_bd {g : List (List Int)} (hg : Grp g) {d : Int} (h1 : d ≤ 5) : 0 ≤ cells g d ∧ cells g d ≤ 16807 := by
  have n8 := hg.n8; have n0 := hg.n1
  exact pow_bd (by omega) (by omega) _ (by omega)
theorem power {a d : Int} (h0 : 0 ≤ a) (h1 : a ≤ 7) (d0 : 0 ≤ d) (d1 : d ≤ 4) : impl_power.f a d = some (a ^ d.toNat) := by
  obtain ⟨n, rfl⟩ := Int.eq_ofNat_of_zero_le d0
  have := up n (fun j => impl_power.l0 a (a ^ j) (n : Int) (j : Int)) (fun j hj => by
    have hw : wrapI ((j : Int) + 1) = ((j + 1 : Nat) : Int) := by rw [w64 (by omega) (by omega)]; omega
    have b := pow_bd h0 h1 (j + 1) (by omega)
    have hp : wrapI (a ^ j * a) = a ^ (j + 1) := by rw [show a ^ j * a = a ^ (j + 1) from (Int.pow_succ a j).symm]; exact w64 (by omega) (by omega)
    rw [impl_power.l0_eq, hw, hp]
    ((with_reducible repeat (first | refine go_pos (by first | assumption | omega | rfl | exact B_pos (by omega)) ?_ | refine go_neg (by first | assumption | omega | decide | exact B_not (by omega)) ?_ | refine go_bind (by first | assumption) ?_ | dsimp only)); first | done | (with_reducible rfl) | simp (disch := omega) only [w64] | (show False; done)))
  simp only [Int.pow_zero, Int.natCast_zero] at this
  rw [impl_power.f_eq, this, impl_power.l0_eq, Int.toNat_natCast]
  ((with_reducible repeat (first | refine go_pos (by first | assumption | omega | rfl | exact B_pos (by omega)) ?_ | refine go_neg (by first | assumption | omega | decide | exact B_not (by omega)) ?_ | refine go_bind (by first | assumption) ?_ | dsimp only)); first | done | (with_reducible rfl) | simp (disch := omega) only [w64] | (show False; done))
theorem cells_ {g : List (List Int)} (hg : Grp g) {d : Int} (d0 : 0 ≤ d) (d1 : d ≤ 4) : impl_cells.f g d = some (cells g d) := by
  have n8 := hg.n8; have n0 := hg.n1
  have hw : wrapI ((g.length : Int) - 1) = g.length - 1 := w64 (by omega) (by omega)
  have hp := power (a := (g.length : Int) - 1) (by omega) (by omega) d0 d1
  show _ = some (((g.length : Int) - 1) ^ d.toNat)
  rw [impl_cells.f_eq, impl_order.f_eq, Option.bind_some, hw]
  ((with_reducible repeat (first | refine go_pos (by first | assumption | omega | rfl | exact B_pos (by omega)) ?_ | refine go_neg (by first | assumption | omega | decide | exact B_not (by omega)) ?_ | refine go_bind (by first | assumption) ?_ | dsimp only)); first | done | (with_reducible rfl) | simp (disch := omega) only [w64] | (show False; done))
theorem Cells_ {g : List (List Int)} (hg : Grp g) {d : Int} (d0 : 0 ≤ d) (d1 : d ≤ 4) : spec_l03Cells.f g d = some (cells g d) := by
  have n8 := hg.n8; have n0 := hg.n1
  unfold cells
  have hw : wrapI ((g.length : Int) - 1) = g.length - 1 := w64 (by omega) (by omega)
  obtain ⟨n, rfl⟩ := Int.eq_ofNat_of_zero_le d0
  suffices H : ∀ n j : Nat, n + j ≤ 4 → spec_l03Cells.l0 (n : Int) (((g.length : Int) - 1) ^ j) g = some (((g.length : Int) - 1) ^ (j + n)) by
    have := H n 0 (by omega)
    rw [spec_l03Cells.f_eq]
    simpa using this
  intro n
  induction n with
  | zero => intro j hj; rw [spec_l03Cells.l0_eq, Nat.add_zero]; ((with_reducible repeat (first | refine go_pos (by first | assumption | omega | rfl | exact B_pos (by omega)) ?_ | refine go_neg (by first | assumption | omega | decide | exact B_not (by omega)) ?_ | refine go_bind (by first | assumption) ?_ | dsimp only)); first | done | (with_reducible rfl) | simp (disch := omega) only [w64] | (show False; done))
  | succ n ih =>
    intro j hj
    have b := pow_bd (a := (g.length : Int) - 1) (by omega) (by omega) (j + 1) (by omega)
    have hp : wrapI (((g.length : Int) - 1) ^ j * ((g.length : Int) - 1)) = ((g.length : Int) - 1) ^ (j + 1) := by rw [show ((g.length : Int) - 1) ^ j * ((g.length : Int) - 1) = ((g.length : Int) - 1) ^ (j + 1) from (Int.pow_succ _ j).symm]; exact w64 (by omega) (by omega)
    have h1 : wrapI (((n + 1 : Nat) : Int) - 1) = (n : Int) := by rw [w64 (by omega) (by omega)]; omega
    have := ih (j + 1) (by omega)
    rw [show j + 1 + n = j + (n + 1) by omega] at this
    rw [spec_l03Cells.l0_eq, spec_l01N.f_eq, Option.bind_some, hw, hp, h1]
    (with_reducible repeat (first | refine go_pos (by first | assumption | omega | rfl | exact B_pos (by omega)) ?_ | refine go_neg (by first | assumption | omega | decide | exact B_not (by omega)) ?_ | refine go_bind (by first | assumption) ?_ | dsimp only))
    exact this
def Co (g : List (List Int)) (m d : Int) (v : List Int) : Prop := (0 ≤ d ∧ d ≤ 3) ∧ (v.length : Int) = cells g d ∧ AllIn m v
theorem isDegree (d : Int) : impl_isDegree.f d = some (B (0 ≤ d ∧ d ≤ 3)) := by
  rw [impl_isDegree.f_eq]
  by_cases h : d ≥ 0
  · rw [if_pos h, B_decide, B_congr (show d ≤ 3 ↔ (0 ≤ d ∧ d ≤ 3) from ⟨fun h' => ⟨h, h'⟩, fun h' => h'.2⟩)]
  · rw [if_neg h, B_neg (fun h' => h h'.1)]
theorem isCochain {g : List (List Int)} (hg : Grp g) (m : Int) (u : List Int) (d : Int) (v : List Int) (hv : v.length ≤ maxLen) : impl_isCochain.f g m u d v = some (B (Co g m d v)) := by
  rw [impl_isCochain.f_eq]
  by_cases h1 : 0 ≤ d ∧ d ≤ 3
  rotate_left
  · rw [B_neg fun h => h1 h.1]
    ((with_reducible repeat (first | refine go_pos (by first | assumption | omega | rfl | exact B_pos (by omega)) ?_ | refine go_neg (by first | assumption | omega | decide | exact B_not (by omega)) ?_ | refine go_bind (by first | assumption | exact isDegree _) ?_ | dsimp only)); first | done | (with_reducible rfl) | simp (disch := omega) only [w64] | (show False; done))
  have hc := cells_ hg h1.1 (by omega)
  have ha := areIn m v hv
  by_cases h2 : (v.length : Int) = cells g d
  rotate_left
  · rw [B_neg fun h => h2 h.2.1]
    ((with_reducible repeat (first | refine go_pos (by first | assumption | omega | rfl | exact B_pos (by omega)) ?_ | refine go_neg (by first | assumption | omega | decide | exact B_not (by omega)) ?_ | refine go_bind (by first | assumption | exact isDegree _) ?_ | dsimp only)); first | done | (with_reducible rfl) | simp (disch := omega) only [w64] | (show False; done))
  (with_reducible repeat (first | refine go_pos (by first | assumption | omega | rfl | exact B_pos (by omega)) ?_ | refine go_neg (by first | assumption | omega | decide | exact B_not (by omega)) ?_ | refine go_bind (by first | assumption | exact isDegree _) ?_ | dsimp only))
  rw [B_congr (show AllIn m v ↔ Co g m d v from ⟨fun h => ⟨h1, h2, h⟩, fun h => h.2.2⟩)]
  simp
theorem Is03 {g : List (List Int)} (hg : Grp g) {m : Int} {u : List Int} (hm : Mdl g m u) (d : Int) (v : List Int) (hv : v.length ≤ maxLen) : spec_l03Is.f g m u d v = some (B (Co g m d v)) := by
  have hml := maxLen_le
  have m2 := hm.m2; have m12 := hm.m12
  rw [spec_l03Is.f_eq]
  by_cases h1 : 0 ≤ d ∧ d ≤ 3
  rotate_left
  · rw [B_neg fun h => h1 h.1]
    ((with_reducible repeat (first | refine go_pos (by first | assumption | omega | rfl | exact B_pos (by omega)) ?_ | refine go_neg (by first | assumption | omega | decide | exact B_not (by omega)) ?_ | refine go_bind (by first | assumption | exact In_ _ _ _) ?_ | dsimp only)); first | done | (with_reducible rfl) | simp (disch := omega) only [w64] | (show False; done))
  have hc := Cells_ hg h1.1 (by omega)
  by_cases h2 : (v.length : Int) = cells g d
  rotate_left
  · rw [B_neg fun h => h2 h.2.1]
    ((with_reducible repeat (first | refine go_pos (by first | assumption | omega | rfl | exact B_pos (by omega)) ?_ | refine go_neg (by first | assumption | omega | decide | exact B_not (by omega)) ?_ | refine go_bind (by first | assumption | exact In_ _ _ _) ?_ | dsimp only)); first | done | (with_reducible rfl) | simp (disch := omega) only [w64] | (show False; done))
  (with_reducible repeat (first | refine go_pos (by first | assumption | omega | rfl | exact B_pos (by omega)) ?_ | refine go_neg (by first | assumption | omega | decide | exact B_not (by omega)) ?_ | refine go_bind (by first | assumption | exact In_ _ _ _) ?_ | dsimp only))
  rw [B_congr (show Co g m d v ↔ AllIn m v from ⟨fun h => h.2.2, fun h => ⟨h1, h2, h⟩⟩)]
  have hw : wrapI (m - 1) = m - 1 := w64 (by omega) (by omega)
  refine scanT v.length (fun i => spec_l03Is.l0 i m u d v) (fun i => 0 ≤ rd v i ∧ rd v i < m) (fun i i0 i1 _ => ?_) (fun _ => by (rw [spec_l03Is.l0_eq]); ((with_reducible repeat (first | refine go_pos (by first | assumption | omega | rfl | exact B_pos (by omega)) ?_ | refine go_neg (by first | assumption | omega | decide | exact B_not (by omega)) ?_ | refine go_bind (by first | assumption) ?_ | dsimp only)); first | done | (with_reducible rfl) | simp (disch := omega) only [w64] | (show False; done)))
  refine ⟨fun h => ?_, fun h => ?_⟩ <;> (rw [spec_l03Is.l0_eq, hw]) <;> ((with_reducible repeat (first | refine go_pos (by first | assumption | omega | rfl | exact B_pos (by omega)) ?_ | refine go_neg (by first | assumption | omega | decide | exact B_not (by omega)) ?_ | refine go_bind (by first | assumption | exact In_ _ _ _) ?_ | dsimp only)); first | done | (with_reducible rfl) | simp (disch := omega) only [w64] | (show False; done))
theorem co_codes (g : List (List Int)) (hl : g.length ≤ maxLen) (hr : ∀ r ∈ g, r.length ≤ maxLen) (m : Int) (u : List Int) (hu : u.length ≤ maxLen) (d : Int) (v : List Int) (hv : v.length ≤ maxLen) :
    (Grp g ∧ Mdl g m u ∧ Co g m d v ∧ impl_cochainCode.f g m u [(d, v)] = some 0 ∧ spec_l03Code.f g m u [(d, v)] = some 0) ∨
    (¬ (Grp g ∧ Mdl g m u ∧ Co g m d v) ∧ impl_cochainCode.f g m u [(d, v)] = some 1 ∧ spec_l03Code.f g m u [(d, v)] = some 1) := by
  have hA := areModules1 g hl hr m u hu
  have hS := Is_ g
  have w1 : wrapI (0 + 1) = 1 := w64 (by omega) (by omega)
  have stI : impl_cochainCode.l0 [(d, v)] (([(d, v)] : List (Int × List Int)).length : Int) 1 g m u = some 0 := by rw [impl_cochainCode.l0_eq]; exact if_neg (by simp)
  have stS : spec_l03Code.l0 [(d, v)] 1 g m u = some 0 := by rw [spec_l03Code.l0_eq]; exact if_neg (by simp)
  have r0 : Ty.rd (.pr (.int .i64) (.sl 2 (.int .i64))) [(d, v)] 0 = (d, v) := rfl
  rw [impl_cochainCode.f_eq, spec_l03Code.f_eq]
  by_cases h : GM g m u
  rotate_left
  · refine .inr ⟨fun k => h ⟨k.1, k.2.1⟩, ?_, ?_⟩
    · ((with_reducible repeat (first | refine go_pos (by first | assumption | omega | rfl | exact B_pos (by omega)) ?_ | refine go_neg (by first | assumption | omega | decide | exact B_not (by omega)) ?_ | refine go_bind (by first | assumption) ?_ | dsimp only)); first | done | (with_reducible rfl) | simp (disch := omega) only [w64] | (show False; done))
    · by_cases h1 : Grp g
      · have hM := Is02 h1 m u hu
        rw [B_neg fun k => h ⟨h1, k⟩] at hM
        ((with_reducible repeat (first | refine go_pos (by first | assumption | omega | rfl | exact B_pos (by omega)) ?_ | refine go_neg (by first | assumption | omega | decide | exact B_not (by omega)) ?_ | refine go_bind (by first | assumption) ?_ | dsimp only)); first | done | (with_reducible rfl) | simp (disch := omega) only [w64] | (show False; done))
      · ((with_reducible repeat (first | refine go_pos (by first | assumption | omega | rfl | exact B_pos (by omega)) ?_ | refine go_neg (by first | assumption | omega | decide | exact B_not (by omega)) ?_ | refine go_bind (by first | assumption) ?_ | dsimp only)); first | done | (with_reducible rfl) | simp (disch := omega) only [w64] | (show False; done))
  have hM := Is02 h.1 m u hu
  have hI := isCochain h.1 m u d v hv
  have hC := Is03 h.1 h.2 d v hv
  rw [impl_cochainCode.l0_eq, spec_l03Code.l0_eq, r0, w1]
  have k1 : (0 : Int) < (([(d, v)] : List (Int × List Int)).length : Int) := by simp
  have hB : B (GM g m u) = true := B_pos h
  have hGr := h.1
  have hMd := h.2
  by_cases h2 : Co g m d v
  · exact .inl ⟨h.1, h.2, h2, by (with_reducible repeat (first | refine go_pos (by first | assumption | omega | rfl | exact B_pos (by omega)) ?_ | refine go_neg (by first | assumption | omega | decide | exact B_not (by omega)) ?_ | refine go_bind (by first | assumption) ?_ | dsimp only)); exact stI, by (with_reducible repeat (first | refine go_pos (by first | assumption | omega | rfl | exact B_pos (by omega)) ?_ | refine go_neg (by first | assumption | omega | decide | exact B_not (by omega)) ?_ | refine go_bind (by first | assumption) ?_ | dsimp only)); exact stS⟩
  · exact .inr ⟨fun k => h2 k.2.2, by ((with_reducible repeat (first | refine go_pos (by first | assumption | omega | rfl | exact B_pos (by omega)) ?_ | refine go_neg (by first | assumption | omega | decide | exact B_not (by omega)) ?_ | refine go_bind (by first | assumption) ?_ | dsimp only)); first | done | (with_reducible rfl) | simp (disch := omega) only [w64] | (show False; done)), by ((with_reducible repeat (first | refine go_pos (by first | assumption | omega | rfl | exact B_pos (by omega)) ?_ | refine go_neg (by first | assumption | omega | decide | exact B_not (by omega)) ?_ | refine go_bind (by first | assumption) ?_ | dsimp only)); first | done | (with_reducible rfl) | simp (disch := omega) only [w64] | (show False; done))⟩
def idx (g : List (List Int)) (xs : List Int) : Int := xs.foldl (fun a x => a * ((g.length : Int) - 1) + x - 1) 0
theorem idx_snoc (g : List (List Int)) (xs : List Int) (x : Int) : idx g (xs ++ [x]) = idx g xs * ((g.length : Int) - 1) + x - 1 := by simp [idx]
theorem idx_take {g : List (List Int)} {xs : List Int} {i : Nat} (h : i < xs.length) : idx g (xs.take (i + 1)) = idx g (xs.take i) * ((g.length : Int) - 1) + rd xs (i : Int) - 1 := by
  rw [take_rd h, idx_snoc]
theorem idx_bd {g : List (List Int)} (hg : Grp g) {xs : List Int} (hx : AllIn g.length xs) : ∀ i : Nat, i ≤ xs.length → (∀ j : Int, 0 ≤ j → j < i → ¬ rd xs j = 0) → 0 ≤ idx g (xs.take i) ∧ idx g (xs.take i) + 1 ≤ ((g.length : Int) - 1) ^ i := by
  have n8 := hg.n8; have n1 := hg.n1
  intro i
  induction i with
  | zero => intro _ _; simp [idx]
  | succ i ih =>
    intro hi hz
    obtain ⟨a0, a1⟩ := ih (by omega) (fun j h0 h1 => hz j h0 (by omega))
    obtain ⟨x0, x1⟩ := hx i (by omega) (by omega)
    have x2 := hz i (by omega) (by omega)
    rw [idx_take (by omega), Int.pow_succ]
    have b1 : 0 ≤ idx g (xs.take i) * ((g.length : Int) - 1) := Int.mul_nonneg a0 (by omega)
    have b2 : (idx g (xs.take i) + 1) * ((g.length : Int) - 1) ≤ ((g.length : Int) - 1) ^ i * ((g.length : Int) - 1) := Int.mul_le_mul_of_nonneg_right a1 (by omega)
    rw [Int.add_mul, Int.one_mul] at b2
    omega
def NoUnit (xs : List Int) : Prop := ∀ j : Int, 0 ≤ j → j < xs.length → ¬ rd xs j = 0
noncomputable def At (g : List (List Int)) (v xs : List Int) : Int := ite_ (NoUnit xs) (rd v (idx g xs)) 0
theorem idx_step {g : List (List Int)} (hg : Grp g) {xs : List Int} (hx : AllIn g.length xs) (hl : xs.length ≤ 4) {n : Nat} (hn : n < xs.length) (hz : ∀ j : Int, 0 ≤ j → j < (n : Int) → ¬ rd xs j = 0) :
    wrapI (wrapI (wrapI (idx g (xs.take n) * wrapI ((g.length : Int) - 1)) + rd xs n) - 1) = idx g (xs.take (n + 1)) ∧ wrapI ((n : Int) + 1) = (n : Int) + 1 := by
  have n8 := hg.n8; have n1 := hg.n1
  obtain ⟨a0, a1⟩ := idx_bd hg hx n (by omega) hz
  obtain ⟨x0, x1⟩ := hx n (by omega) (by omega)
  have p := pow_bd (a := (g.length : Int) - 1) (by omega) (by omega) n (by omega)
  have b1 : 0 ≤ idx g (xs.take n) * ((g.length : Int) - 1) := Int.mul_nonneg a0 (by omega)
  have b2 : idx g (xs.take n) * ((g.length : Int) - 1) ≤ 16807 * 7 := Int.mul_le_mul (by omega) (by omega) (by omega) (by omega)
  rw [w64 (x := (g.length : Int) - 1) (by omega) (by omega), w64 (x := idx g (xs.take n) * ((g.length : Int) - 1)) (by omega) (by omega), w64 (x := idx g (xs.take n) * ((g.length : Int) - 1) + rd xs n) (by omega) (by omega), w64 (by omega) (by omega), w64 (by omega) (by omega), idx_take hn]
  exact ⟨rfl, rfl⟩
theorem cell_ {g : List (List Int)} (hg : Grp g) {xs : List Int} (hx : AllIn g.length xs) (hl : xs.length ≤ 4) :
    impl_cell.f g xs = some (ite_ (NoUnit xs) (idx g xs) (-1)) := by
  rw [impl_cell.f_eq]
  have := scan xs.length (fun i => impl_cell.l0 (idx g (xs.take i.toNat)) xs (xs.length : Int) i g) (fun j => ¬ rd xs j = 0) (some (-1)) (fun i i0 i1 hz => by
    obtain ⟨n, rfl⟩ := Int.eq_ofNat_of_zero_le i0
    obtain ⟨e1, e2⟩ := idx_step hg hx hl (n := n) (by omega) hz
    refine ⟨fun h => ?_, fun h => ?_⟩
    · rw [impl_cell.l0_eq, impl_order.f_eq, Option.bind_some, Int.toNat_natCast, e1, e2, show ((n : Int) + 1).toNat = n + 1 by omega]
      ((with_reducible repeat (first | refine go_pos (by first | assumption | omega | rfl | exact B_pos (by omega)) ?_ | refine go_neg (by first | assumption | omega | decide | exact B_not (by omega)) ?_ | refine go_bind (by first | assumption) ?_ | dsimp only)); first | done | (with_reducible rfl) | simp (disch := omega) only [w64] | (show False; done))
    · (rw [impl_cell.l0_eq])
      ((with_reducible repeat (first | refine go_pos (by first | assumption | omega | rfl | exact B_pos (by omega)) ?_ | refine go_neg (by first | assumption | omega | decide | exact B_not (by omega)) ?_ | refine go_bind (by first | assumption) ?_ | dsimp only)); first | done | (with_reducible rfl) | simp (disch := omega) only [w64] | (show False; done)))
  simp only [Int.toNat_zero, List.take_zero, Int.toNat_natCast, List.take_length] at this
  rcases this with ⟨h1, h2⟩ | ⟨j, j0, j1, _, h1, _, h2⟩
  · have h1 : NoUnit xs := h1
    rw [ite_pos h1, ← show impl_cell.l0 (idx g []) xs (xs.length : Int) 0 g = impl_cell.l0 0 xs (xs.length : Int) 0 g from rfl, h2]
    (rw [impl_cell.l0_eq])
    ((with_reducible repeat (first | refine go_pos (by first | assumption | omega | rfl | exact B_pos (by omega)) ?_ | refine go_neg (by first | assumption | omega | decide | exact B_not (by omega)) ?_ | refine go_bind (by first | assumption) ?_ | dsimp only)); first | done | (with_reducible rfl) | simp (disch := omega) only [w64] | (show False; done))
  · rw [ite_neg fun q => h1 (q j j0 j1)]
    exact h2
theorem idx_cells {g : List (List Int)} (hg : Grp g) {m d : Int} {v : List Int} (hc : Co g m d v) {xs : List Int} (hx : AllIn g.length xs) (hl : (xs.length : Int) = d) (h : NoUnit xs) : 0 ≤ idx g xs ∧ idx g xs < v.length := by
  obtain ⟨⟨d0, d1⟩, hv, ha⟩ := hc
  obtain ⟨a0, a1⟩ := idx_bd hg hx xs.length (by omega) h
  rw [List.take_length] at a0 a1
  have e : cells g d = ((g.length : Int) - 1) ^ xs.length := by unfold cells; rw [show d.toNat = xs.length by omega]
  omega
theorem at_ {g : List (List Int)} (hg : Grp g) {m d : Int} {v : List Int} (hc : Co g m d v) {xs : List Int} (hx : AllIn g.length xs) (hl : (xs.length : Int) = d) :
    impl_Cochain_at.f d v g xs = some (At g v xs) := by
  have hd := hc.1
  have h1 := cell_ hg hx (by omega)
  rw [impl_Cochain_at.f_eq]
  unfold At
  by_cases h : NoUnit xs
  · obtain ⟨a0, a1⟩ := idx_cells hg hc hx hl h
    rw [ite_pos h] at h1 ⊢
    ((with_reducible repeat (first | refine go_pos (by first | assumption | omega | rfl | exact B_pos (by omega)) ?_ | refine go_neg (by first | assumption | omega | decide | exact B_not (by omega)) ?_ | refine go_bind (by first | assumption) ?_ | dsimp only)); first | done | (with_reducible rfl) | simp (disch := omega) only [w64] | (show False; done))
  · rw [ite_neg h] at h1 ⊢
    ((with_reducible repeat (first | refine go_pos (by first | assumption | omega | rfl | exact B_pos (by omega)) ?_ | refine go_neg (by first | assumption | omega | decide | exact B_not (by omega)) ?_ | refine go_bind (by first | assumption) ?_ | dsimp only)); first | done | (with_reducible rfl) | simp (disch := omega) only [w64] | (show False; done))
theorem At_ {g : List (List Int)} (hg : Grp g) {m d : Int} {u v : List Int} (hc : Co g m d v) {xs : List Int} (hx : AllIn g.length xs) (hl : (xs.length : Int) = d) :
    spec_l03At.f g d v xs = some (At g v xs) := by
  have hd := hc.1
  rw [spec_l03At.f_eq]
  have := scan xs.length (fun i => spec_l03At.l0 xs (idx g (xs.take i.toNat)) i g d v) (fun j => ¬ rd xs j = 0) (some 0) (fun i i0 i1 hz => by
    obtain ⟨n, rfl⟩ := Int.eq_ofNat_of_zero_le i0
    obtain ⟨e1, e2⟩ := idx_step hg hx (by omega) (n := n) (by omega) hz
    refine ⟨fun h => ?_, fun h => ?_⟩
    · rw [spec_l03At.l0_eq, spec_l01N.f_eq, Option.bind_some, Int.toNat_natCast, e1, e2, show ((n : Int) + 1).toNat = n + 1 by omega]
      ((with_reducible repeat (first | refine go_pos (by first | assumption | omega | rfl | exact B_pos (by omega)) ?_ | refine go_neg (by first | assumption | omega | decide | exact B_not (by omega)) ?_ | refine go_bind (by first | assumption) ?_ | dsimp only)); first | done | (with_reducible rfl) | simp (disch := omega) only [w64] | (show False; done))
    · (rw [spec_l03At.l0_eq])
      ((with_reducible repeat (first | refine go_pos (by first | assumption | omega | rfl | exact B_pos (by omega)) ?_ | refine go_neg (by first | assumption | omega | decide | exact B_not (by omega)) ?_ | refine go_bind (by first | assumption) ?_ | dsimp only)); first | done | (with_reducible rfl) | simp (disch := omega) only [w64] | (show False; done)))
  simp only [Int.toNat_zero, List.take_zero, Int.toNat_natCast, List.take_length] at this
  unfold At
  rcases this with ⟨h1, h2⟩ | ⟨j, j0, j1, _, h1, _, h2⟩
  · have h1 : NoUnit xs := h1
    obtain ⟨a0, a1⟩ := idx_cells hg hc hx hl h1
    rw [ite_pos h1, ← show spec_l03At.l0 xs (idx g []) 0 g d v = spec_l03At.l0 xs 0 0 g d v from rfl, h2]
    (rw [spec_l03At.l0_eq])
    ((with_reducible repeat (first | refine go_pos (by first | assumption | omega | rfl | exact B_pos (by omega)) ?_ | refine go_neg (by first | assumption | omega | decide | exact B_not (by omega)) ?_ | refine go_bind (by first | assumption) ?_ | dsimp only)); first | done | (with_reducible rfl) | simp (disch := omega) only [w64] | (show False; done))
  · rw [ite_neg fun q => h1 (q j j0 j1)]
    exact h2
theorem At_bd {g : List (List Int)} (hg : Grp g) {m d : Int} {v : List Int} (m0 : 0 < m) (hc : Co g m d v) {xs : List Int} (hx : AllIn g.length xs) (hl : (xs.length : Int) = d) : 0 ≤ At g v xs ∧ At g v xs < m := by
  unfold At
  by_cases h : NoUnit xs
  · obtain ⟨a0, a1⟩ := idx_cells hg hc hx hl h
    rw [ite_pos h]
    exact hc.2.2 _ a0 a1
  · rw [ite_neg h]; omega
end Go.Proofs.Ytdiadcmkddkjpaa.V
set_option linter.unusedVariables false
set_option linter.unusedSimpArgs false
set_option maxHeartbeats 2000000
set_option maxRecDepth 20000
namespace Go.Proofs.Ytdiadcmkddkjpaa.V
open Go.RowKit Go.Proofs.Ytdiadcmkddkjpaa.D Go.Proofs.Ytdiadcmkddkjpaa.P
def lst (b : Int) : Nat → Int → List Int
  | 0, _ => []
  | n + 1, i => lst b n (i / b) ++ [i % b + 1]
theorem lst_length (b : Int) : ∀ n i, (lst b n i).length = n := by
  intro n
  induction n with
  | zero => intro i; rfl
  | succ n ih => intro i; simp [lst, ih]
theorem lst_in {b : Int} (hb : 0 < b) : ∀ n i, ∀ x ∈ lst b n i, 1 ≤ x ∧ x < b + 1 := by
  intro n
  induction n with
  | zero => intro i x hx; simp [lst] at hx
  | succ n ih =>
    intro i x hx
    have m0 := Int.emod_nonneg i (show b ≠ 0 by omega)
    have m1 := Int.emod_lt_of_pos i hb
    rcases List.mem_append.1 hx with h | h
    · exact ih _ x h
    · rw [List.mem_singleton] at h; omega
theorem set_last (n : Nat) (t : List Int) (x : Int) : (List.replicate (n + 1) 0 ++ t).set n x = List.replicate n 0 ++ (x :: t) := by
  rw [List.replicate_succ', List.append_assoc, List.set_append, if_neg (by simp)]
  simp
theorem listOf {g : List (List Int)} (hg : Grp g) (n : Nat) (h2 : n = 0 ∨ 2 ≤ g.length) (hn : n ≤ 4) {i : Int} (i0 : 0 ≤ i) (i1 : i ≤ 16807) :
    impl_listOf.f g (n : Int) i = some (lst ((g.length : Int) - 1) n i) ∧ spec_l03List.f g (n : Int) i = some (lst ((g.length : Int) - 1) n i) := by
  have n8 := hg.n8; have n1 := hg.n1
  obtain ⟨b, hb⟩ : ∃ b : Int, b = (g.length : Int) - 1 := ⟨_, rfl⟩
  have hw0 : wrapI ((g.length : Int) - 1) = b := by rw [hb]; exact w64 (by omega) (by omega)
  rw [← hb]
  have b1 : n = 0 ∨ 1 ≤ b := by omega
  have b7 : b ≤ 7 := by omega
  have fact : ∀ (n : Nat) (i : Int), n ≤ 4 → 1 ≤ b → 0 ≤ i → i ≤ 16807 → wrapI (Int.tdiv i b) = i / b ∧ wrapI (1 + Int.tmod i b) = i % b + 1 ∧ wrapI (Int.tmod i b + 1) = i % b + 1 ∧ wrapI ((n : Int) - 1) = (n : Int) - 1 ∧ 0 ≤ i / b ∧ i / b ≤ 16807 := by
    intro n i hn b1 i0 i1
    have m0 := Int.emod_nonneg i (show b ≠ 0 by omega)
    have m1 := Int.emod_lt_of_pos i (show 0 < b by omega)
    have d0 : 0 ≤ i / b := Int.ediv_nonneg i0 (by omega)
    have d1 : i / b ≤ i := Int.ediv_le_self _ i0
    rw [tdiv_nn i0, tmod_nn i0]
    exact ⟨w64 (by omega) (by omega), by rw [w64 (by omega) (by omega)]; omega, w64 (by omega) (by omega), w64 (by omega) (by omega), d0, by omega⟩
  have hwn : wrapI ((n : Int) - 1) = (n : Int) - 1 := w64 (by omega) (by omega)
  constructor
  · rw [impl_listOf.f_eq, impl_order.f_eq, Option.bind_some, hw0, hwn, Int.toNat_natCast]
    (with_reducible repeat (first | refine go_pos (by first | assumption | omega | rfl | exact B_pos (by omega)) ?_ | refine go_neg (by first | assumption | omega | decide | exact B_not (by omega)) ?_ | refine go_bind (by first | assumption) ?_ | dsimp only))
    suffices H : ∀ (n : Nat) (i : Int) (t : List Int), n ≤ 4 → (n = 0 ∨ 1 ≤ b) → 0 ≤ i → i ≤ 16807 → impl_listOf.l0 i b ((n : Int) - 1) (List.replicate n 0 ++ t) = some (lst b n i ++ t) by
      simpa using H n i [] hn b1 i0 i1
    intro n
    induction n with
    | zero => intro i t _ _ _ _; rw [impl_listOf.l0_eq]; (with_reducible repeat (first | refine go_pos (by first | assumption | omega | rfl | exact B_pos (by omega)) ?_ | refine go_neg (by first | assumption | omega | decide | exact B_not (by omega)) ?_ | refine go_bind (by first | assumption) ?_ | dsimp only)); rfl
    | succ n ih =>
      intro i t hn b1 i0 i1
      obtain ⟨f1, f2, f3, f5, f6, f7⟩ := fact n i (by omega) (by omega) i0 i1
      have h := ih (i / b) ((i % b + 1) :: t) (by omega) (by omega) f6 f7
      have e : ((n + 1 : Nat) : Int) - 1 = (n : Int) := by omega
      have l1 : (List.replicate (n + 1) (0 : Int) ++ t).length = n + 1 + t.length := by rw [List.length_append, List.length_replicate]
      rw [e, impl_listOf.l0_eq, f1, f2, f5, Int.toNat_natCast, set_last]
      (with_reducible repeat (first | refine go_pos (by first | assumption | omega | rfl | exact B_pos (by omega)) ?_ | refine go_neg (by first | assumption | omega | decide | exact B_not (by omega)) ?_ | refine go_bind (by first | assumption) ?_ | dsimp only))
      rw [h, lst, List.append_assoc, List.singleton_append]
  · rw [spec_l03List.f_eq, spec_l01N.f_eq, Option.bind_some, hw0, hwn, Int.toNat_natCast]
    (with_reducible repeat (first | refine go_pos (by first | assumption | omega | rfl | exact B_pos (by omega)) ?_ | refine go_neg (by first | assumption | omega | decide | exact B_not (by omega)) ?_ | refine go_bind (by first | assumption) ?_ | dsimp only))
    suffices H : ∀ (n : Nat) (i : Int) (t : List Int), n ≤ 4 → (n = 0 ∨ 1 ≤ b) → 0 ≤ i → i ≤ 16807 → spec_l03List.l0 i b ((n : Int) - 1) (List.replicate n 0 ++ t) = some (lst b n i ++ t) by
      simpa using H n i [] hn b1 i0 i1
    intro n
    induction n with
    | zero => intro i t _ _ _ _; rw [spec_l03List.l0_eq]; (with_reducible repeat (first | refine go_pos (by first | assumption | omega | rfl | exact B_pos (by omega)) ?_ | refine go_neg (by first | assumption | omega | decide | exact B_not (by omega)) ?_ | refine go_bind (by first | assumption) ?_ | dsimp only)); rfl
    | succ n ih =>
      intro i t hn b1 i0 i1
      obtain ⟨f1, f2, f3, f5, f6, f7⟩ := fact n i (by omega) (by omega) i0 i1
      have h := ih (i / b) ((i % b + 1) :: t) (by omega) (by omega) f6 f7
      have e : ((n + 1 : Nat) : Int) - 1 = (n : Int) := by omega
      have l1 : (List.replicate (n + 1) (0 : Int) ++ t).length = n + 1 + t.length := by rw [List.length_append, List.length_replicate]
      rw [e, spec_l03List.l0_eq, f1, f3, f5, Int.toNat_natCast, set_last]
      (with_reducible repeat (first | refine go_pos (by first | assumption | omega | rfl | exact B_pos (by omega)) ?_ | refine go_neg (by first | assumption | omega | decide | exact B_not (by omega)) ?_ | refine go_bind (by first | assumption) ?_ | dsimp only))
      rw [h, lst, List.append_assoc, List.singleton_append]
theorem cells_two {g : List (List Int)} (hg : Grp g) {n : Nat} (hc : 0 < cells g n) : n = 0 ∨ 2 ≤ g.length := by
  have n1 := hg.n1
  by_cases h : n = 0
  · exact .inl h
  by_cases h2 : 2 ≤ g.length
  · exact .inr h2
  · have : (g.length : Int) - 1 = 0 := by omega
    have e : cells g (n : Int) = 0 := by unfold cells; rw [this, Int.toNat_natCast]; exact Int.zero_pow h
    omega
theorem cell_list {g : List (List Int)} (hg : Grp g) {n i : Nat} (hn : n ≤ 4) (hi : (i : Int) < cells g n) : impl_listOf.f g (n : Int) i = some (lst ((g.length : Int) - 1) n i) ∧ spec_l03List.f g (n : Int) i = some (lst ((g.length : Int) - 1) n i) := by
  have hb := cells_bd hg (d := (n : Int)) (by omega)
  exact listOf hg n (cells_two hg (by omega)) hn (by omega) (by omega)
theorem lst_grp {g : List (List Int)} (hg : Grp g) {n i : Nat} (hi : (i : Int) < cells g n) : AllIn g.length (lst ((g.length : Int) - 1) n i) ∧ NoUnit (lst ((g.length : Int) - 1) n i) := by
  have n1 := hg.n1
  have H : ∀ x ∈ lst ((g.length : Int) - 1) n i, 1 ≤ x ∧ x < g.length := by
    rcases cells_two hg (show 0 < cells g n by omega) with h | g2
    · subst h; intro x hx; simp [lst] at hx
    · intro x hx
      have := lst_in (b := (g.length : Int) - 1) (by omega) n i x hx
      omega
  exact ⟨allIn_of fun x hx => by have := H x hx; omega, fun j j0 j1 h => by have := H _ (rd_mem j0 j1); omega⟩
theorem build_step (G : Nat → Int) (n i : Nat) (h : i < n) : ((List.range i).map G ++ List.replicate (n - i) 0).set i (G i) = (List.range (i + 1)).map G ++ List.replicate (n - (i + 1)) 0 := by
  rw [List.set_append, if_neg (by simp), List.length_map, List.length_range, Nat.sub_self, show n - i = (n - (i + 1)) + 1 by omega, List.replicate_succ, List.set_cons_zero, List.range_succ, List.map_append]
  simp
theorem build_len (G : Nat → Int) (n i : Nat) (h : i ≤ n) : ((List.range i).map G ++ List.replicate (n - i) 0).length = n := by rw [List.length_append, List.length_map, List.length_range, List.length_replicate]; omega
theorem mod_mod {a m : Int} (m0 : 0 < m) (m1 : m ≤ 1000000) : Int.tmod (wrapI (Int.tmod a m + m)) m = a % m := by
  have t0 := Int.tmod_lt_of_pos a m0
  have t1 : -m < Int.tmod a m := Int.lt_tmod_of_pos a m0
  have hq := Int.mul_tdiv_add_tmod a m
  have h5 : (m * a.tdiv m + a.tmod m) % m = a.tmod m % m := by rw [Int.add_comm, Int.add_mul_emod_self_left]
  rw [hq] at h5
  rw [w64 (by omega) (by omega), Int.tmod_eq_emod_of_nonneg (show 0 ≤ Int.tmod a m + m by omega), Int.add_emod_right, ← h5]
theorem zero_ {g : List (List Int)} (hg : Grp g) {n : Nat} (hn : n ≤ 4) : impl_zero.f g (n : Int) = some ((n : Int), List.replicate (cells g n).toNat 0) := by
  have hb := cells_bd hg (d := (n : Int)) (by omega)
  have hc := cells_ hg (d := (n : Int)) (by omega) (by omega)
  rw [impl_zero.f_eq]
  ((with_reducible repeat (first | refine go_pos (by first | assumption | omega | rfl | exact B_pos (by omega)) ?_ | refine go_neg (by first | assumption | omega | decide | exact B_not (by omega)) ?_ | refine go_bind (by first | assumption) ?_ | dsimp only)); first | done | (with_reducible rfl) | simp (disch := omega) only [w64] | (show False; done))
theorem told {g : List (List Int)} (hg : Grp g) {m : Int} (m2 : 2 ≤ m) (m12 : m ≤ 12) {n : Nat} (hn : n ≤ 4) {F : List Int → Option Int} {G : Nat → Int} (hF : ∀ i : Nat, (i : Int) < cells g n → F (lst ((g.length : Int) - 1) n i) = some (G i)) :
    impl_told.f g m (n : Int) F = some ((n : Int), (List.range (cells g n).toNat).map fun i => G i % m) := by
  have hb := cells_bd hg (d := (n : Int)) (by omega)
  have hz := zero_ hg hn
  obtain ⟨N, hN⟩ : ∃ N, N = (cells g n).toNat := ⟨_, rfl⟩
  rw [impl_told.f_eq, hz, Option.bind_some, ← hN]
  have := up N (fun j => impl_told.l0 m (n : Int) F (N : Int) (j : Int) g 0 (n : Int) ((List.range j).map (fun i => G i % m) ++ List.replicate (N - j) 0)) (fun j h => by
    have hw : wrapI ((j : Int) + 1) = ((j + 1 : Nat) : Int) := by rw [w64 (by omega) (by omega)]; omega
    have f := hF j (by omega)
    have hl := (cell_list hg hn (i := j) (by omega)).1
    have l1 := build_len (fun i => G i % m) N j (by omega)
    have e := mod_mod (a := G j) (m := m) (by omega) (by omega)
    rw [← build_step (fun i => G i % m) N j h, impl_told.l0_eq, hw, hl, Option.bind_some, f, Option.bind_some, e, Int.toNat_natCast]
    ((with_reducible repeat (first | refine go_pos (by first | assumption | omega | rfl | exact B_pos (by omega)) ?_ | refine go_neg (by first | assumption | omega | decide | exact B_not (by omega)) ?_ | refine go_bind (by first | assumption) ?_ | dsimp only)); first | done | (with_reducible rfl) | simp (disch := omega) only [w64] | (show False; done)))
  simp only [Int.natCast_zero, List.range_zero, List.map_nil, List.nil_append, Nat.sub_zero, Nat.sub_self, List.replicate_zero, List.append_nil] at this
  simp only [List.length_replicate]
  rw [this, impl_told.l0_eq]
  ((with_reducible repeat (first | refine go_pos (by first | assumption | omega | rfl | exact B_pos (by omega)) ?_ | refine go_neg (by first | assumption | omega | decide | exact B_not (by omega)) ?_ | refine go_bind (by first | assumption) ?_ | dsimp only)); first | done | (with_reducible rfl) | simp (disch := omega) only [w64] | (show False; done))
end Go.Proofs.Ytdiadcmkddkjpaa.V
set_option linter.unusedVariables false
set_option linter.unusedSimpArgs false
set_option maxHeartbeats 2000000
set_option maxRecDepth 20000
namespace Go.Proofs.Ytdiadcmkddkjpaa.V
open Go.RowKit Go.Proofs.Ytdiadcmkddkjpaa.D Go.Proofs.Ytdiadcmkddkjpaa.P
def join2 (g : List (List Int)) (xs : List Int) (j : Nat) : List Int := (xs.take j ++ [T g (rd xs j) (rd xs (j + 1 : Nat))]) ++ xs.drop (j + 2)
noncomputable def bsum (g : List (List Int)) (u v xs : List Int) : Nat → Int × Int
  | 0 => (rd u (rd xs 0) * At g v (xs.drop 1), -1)
  | j + 1 => ((bsum g u v xs j).1 + (bsum g u v xs j).2 * At g v (join2 g xs j), 0 - (bsum g u v xs j).2)
noncomputable def Bd (g : List (List Int)) (u v xs : List Int) (d : Nat) : Int := (bsum g u v xs d).1 + (bsum g u v xs d).2 * At g v (xs.take d)
theorem join2_in {g : List (List Int)} (hg : Grp g) {xs : List Int} (hx : AllIn g.length xs) {j : Nat} (hj : j + 1 < xs.length) : AllIn g.length (join2 g xs j) ∧ (join2 g xs j).length + 1 = xs.length := by
  obtain ⟨a0, a1⟩ := hx j (by omega) (by omega)
  obtain ⟨b0, b1⟩ := hx (j + 1 : Nat) (by omega) (by omega)
  obtain ⟨t0, t1⟩ := hg.ent _ _ a0 a1 b0 b1
  refine ⟨AllIn.append (AllIn.append (hx.take j) (allIn_one t0 t1)) (hx.drop _), ?_⟩
  simp only [join2, List.length_append, List.length_take, List.length_drop, List.length_singleton]
  omega
theorem bsum_bd {g : List (List Int)} (hg : Grp g) {m : Int} {u v xs : List Int} {d : Nat} (hm : Mdl g m u) (hc : Co g m d v) (hx : AllIn g.length xs) (hl : xs.length = d + 1) :
    ∀ j, j ≤ d → (-1000000 - 12 * (j : Int) ≤ (bsum g u v xs j).1 ∧ (bsum g u v xs j).1 ≤ 1000000 + 12 * (j : Int)) ∧ ((bsum g u v xs j).2 = 1 ∨ (bsum g u v xs j).2 = -1) := by
  have m2 := hm.m2; have m12 := hm.m12
  obtain ⟨x0, x1⟩ := hx 0 (by omega) (by omega)
  intro j
  induction j with
  | zero =>
    intro _
    have ha := At_bd hg (by omega) hc (hx.drop 1) (by rw [List.length_drop, hl]; simp)
    obtain ⟨c0, c1⟩ := small_prod hm x0 x1 ha.1 ha.2
    rw [show bsum g u v xs 0 = (rd u (rd xs 0) * At g v (xs.drop 1), -1) from rfl]
    exact ⟨⟨by dsimp only; omega, by dsimp only; omega⟩, .inr rfl⟩
  | succ j ih =>
    intro hj
    obtain ⟨⟨h1, h2⟩, h3⟩ := ih (by omega)
    obtain ⟨k1, k2⟩ := join2_in hg hx (j := j) (by omega)
    have ha := At_bd hg (by omega) hc k1 (by omega)
    simp only [bsum]
    rcases h3 with h3 | h3 <;> rw [h3] <;> refine ⟨⟨by omega, by omega⟩, ?_⟩
    · exact .inr rfl
    · exact .inl rfl
theorem bsum_w {g : List (List Int)} (hg : Grp g) {m : Int} {u v xs ys : List Int} {d : Nat} (hm : Mdl g m u) (hc : Co g m d v) (hx : AllIn g.length xs) (hl : xs.length = d + 1) {j : Nat} (hj : j ≤ d) (hy : AllIn g.length ys) (hyl : ys.length = d) :
    wrapI ((bsum g u v xs j).1 + wrapI ((bsum g u v xs j).2 * At g v ys)) = (bsum g u v xs j).1 + (bsum g u v xs j).2 * At g v ys ∧ wrapI (0 - (bsum g u v xs j).2) = 0 - (bsum g u v xs j).2 ∧ -2000000 ≤ (bsum g u v xs j).1 + (bsum g u v xs j).2 * At g v ys ∧ (bsum g u v xs j).1 + (bsum g u v xs j).2 * At g v ys ≤ 2000000 := by
  have m2 := hm.m2; have m12 := hm.m12; have d3 := hc.1.2
  obtain ⟨⟨s1, s2⟩, s3⟩ := bsum_bd hg hm hc hx hl j hj
  have hb := At_bd hg (by omega) hc hy (by omega)
  have p1 : -100 ≤ (bsum g u v xs j).2 * At g v ys ∧ (bsum g u v xs j).2 * At g v ys ≤ 100 := by rcases s3 with s3 | s3 <;> rw [s3] <;> omega
  rw [w64 (x := (bsum g u v xs j).2 * At g v ys) (by omega) (by omega)]
  exact ⟨w64 (by omega) (by omega), w64 (by omega) (by omega), by omega, by omega⟩
theorem head_w {g : List (List Int)} (hg : Grp g) {m : Int} {u v xs : List Int} {d : Nat} (hm : Mdl g m u) (hc : Co g m d v) (hx : AllIn g.length xs) (hl : xs.length = d + 1) :
    wrapI (rd u (rd xs 0) * At g v (xs.drop 1)) = rd u (rd xs 0) * At g v (xs.drop 1) := by
  have m2 := hm.m2; have m12 := hm.m12
  obtain ⟨x0, x1⟩ := hx 0 (by omega) (by omega)
  have ha := At_bd hg (by omega) hc (hx.drop 1) (by rw [List.length_drop, hl]; simp)
  obtain ⟨c0, c1⟩ := small_prod hm x0 x1 ha.1 ha.2
  exact w64 (by omega) (by omega)
theorem Own_ (xs : List Int) (hl : xs.length ≤ 1048576) : spec_l01Own.f xs = some xs := by
  rw [spec_l01Own.f_eq, List.nil_append, show ([] : List Int).length = 0 from rfl]
  ((with_reducible repeat (first | refine go_pos (by first | assumption | omega | rfl | exact B_pos (by omega)) ?_ | refine go_neg (by first | assumption | omega | decide | exact B_not (by omega)) ?_ | refine go_bind (by first | assumption) ?_ | dsimp only)); first | done | (with_reducible rfl) | simp (disch := omega) only [w64] | (show False; done))
theorem w2n {j : Nat} (h : j < 4611686018427387904) : wrapI ((j : Int) + 2) = ((j + 2 : Nat) : Int) := by rw [w64 (by omega) (by omega)]; omega
theorem boundaryAt {g : List (List Int)} (hg : Grp g) {m : Int} {u v xs : List Int} {d : Nat} (hm : Mdl g m u) (hc : Co g m d v) (hx : AllIn g.length xs) (hl : xs.length = d + 1) :
    impl_boundaryAt.f g m u d v xs = some (Bd g u v xs d) := by
  have hlu := hm.len; have n8 := hg.n8; have d3 := hc.1.2
  obtain ⟨x0, x1⟩ := hx 0 (by omega) (by omega)
  have h0 := at_ hg hc (hx.drop 1) (by rw [List.length_drop, hl]; simp)
  have hat := at_ hg hc (hx.take d) (by rw [List.length_take, hl]; omega)
  have loop := up d (fun i => impl_boundaryAt.l0 xs (d : Int) (bsum g u v xs i).1 (bsum g u v xs i).2 (d : Int) (i : Int) g d v) (fun j hj => by
    obtain ⟨a0, a1⟩ := hx j (by omega) (by omega)
    obtain ⟨b0, b1⟩ := hx (j + 1 : Nat) (by omega) (by omega)
    obtain ⟨k1, k2⟩ := join2_in hg hx (j := j) (by omega)
    have hv : impl_Cochain_at.f d v g (xs.take j ++ [T g (rd xs j) (rd xs (j + 1 : Nat))] ++ xs.drop (j + 2)) = some (At g v (join2 g xs j)) := show impl_Cochain_at.f d v g (join2 g xs j) = _ from at_ hg hc k1 (by omega)
    have ht := times2 hg a0 a1 b0 b1
    obtain ⟨w3, w4, _, _⟩ := bsum_w hg hm hc hx hl (j := j) (by omega) k1 (by omega)
    have z1 : (xs.take j).length = j := by rw [List.length_take]; omega
    have z0 : ([] : List Int).length = 0 := rfl
    have z2 : ∀ y : Int, ([y] : List Int).length = 1 := fun _ => rfl
    have z3 : (xs.drop (j + 2)).length = xs.length - (j + 2) := List.length_drop
    rw [impl_boundaryAt.l0_eq, wn (j := j) (by omega), w2n (j := j) (by omega), Int.toNat_natCast, Int.toNat_natCast, z0, List.nil_append, z1, ht, Option.bind_some, z2]
    rw [List.length_append, z1, z2, z3, hv, Option.bind_some, w3, w4]
    (with_reducible repeat (first | refine go_pos (by first | assumption | omega | rfl | exact B_pos (by omega)) ?_ | refine go_neg (by first | assumption | omega | decide | exact B_not (by omega)) ?_ | refine go_bind (by first | assumption) ?_ | dsimp only))
    rfl)
  have wl : wrapI ((xs.length : Int) - 1) = (d : Int) := by rw [w64 (by omega) (by omega)]; omega
  obtain ⟨w3, _, _, _⟩ := bsum_w hg hm hc hx hl (j := d) (by omega) (hx.take d) (by rw [List.length_take]; omega)
  have e1 : xs.drop (1 : Int).toNat = xs.drop 1 := rfl
  rw [impl_boundaryAt.f_eq, e1, h0, Option.bind_some, wl, head_w hg hm hc hx hl]
  (with_reducible repeat (first | refine go_pos (by first | assumption | omega | rfl | exact B_pos (by omega)) ?_ | refine go_neg (by first | assumption | omega | decide | exact B_not (by omega)) ?_ | refine go_bind (by first | assumption) ?_ | dsimp only))
  refine loop.trans ?_
  rw [impl_boundaryAt.l0_eq, Int.toNat_natCast, hat, Option.bind_some, w3]
  (with_reducible repeat (first | refine go_pos (by first | assumption | omega | rfl | exact B_pos (by omega)) ?_ | refine go_neg (by first | assumption | omega | decide | exact B_not (by omega)) ?_ | refine go_bind (by first | assumption) ?_ | dsimp only))
  rfl
theorem Side_ {g : List (List Int)} (hg : Grp g) {m : Int} {u v xs : List Int} {d : Nat} (hm : Mdl g m u) (hc : Co g m d v) (hx : AllIn g.length xs) (hl : xs.length = d + 1) :
    spec_l03Side.f g m u d v xs = some (Bd g u v xs d % m) := by
  have hlu := hm.len; have n8 := hg.n8; have d3 := hc.1.2; have m2 := hm.m2; have m12 := hm.m12
  obtain ⟨x0, x1⟩ := hx 0 (by omega) (by omega)
  have h0 := At_ (u := u) hg hc (hx.drop 1) (by rw [List.length_drop, hl]; simp)
  have hat := At_ (u := u) hg hc (hx.take d) (by rw [List.length_take, hl]; omega)
  have loop := up d (fun i => spec_l03Side.l0 xs (d : Int) (bsum g u v xs i).1 (bsum g u v xs i).2 (i : Int) g m u d v) (fun j hj => by
    obtain ⟨a0, a1⟩ := hx j (by omega) (by omega)
    obtain ⟨b0, b1⟩ := hx (j + 1 : Nat) (by omega) (by omega)
    obtain ⟨k1, k2⟩ := join2_in hg hx (j := j) (by omega)
    have hv : spec_l03At.f g d v (xs.take j ++ [T g (rd xs j) (rd xs (j + 1 : Nat))] ++ xs.drop (j + 2)) = some (At g v (join2 g xs j)) := show spec_l03At.f g d v (join2 g xs j) = _ from At_ (u := u) hg hc k1 (by omega)
    have ra := hg.row _ a0 a1
    obtain ⟨w3, w4, _, _⟩ := bsum_w hg hm hc hx hl (j := j) (by omega) k1 (by omega)
    have z1 : (xs.take j).length = j := by rw [List.length_take]; omega
    have z2 : ∀ y : Int, ([y] : List Int).length = 1 := fun _ => rfl
    have z3 : (xs.drop (j + 2)).length = xs.length - (j + 2) := List.length_drop
    have ho := Own_ (xs.take j) (by omega)
    rw [spec_l03Side.l0_eq, wn (j := j) (by omega), w2n (j := j) (by omega), Int.toNat_natCast, Int.toNat_natCast, ho, Option.bind_some, z2]
    rw [List.length_append, z1, z2, z3, hv, Option.bind_some, w3, w4]
    (with_reducible repeat (first | refine go_pos (by first | assumption | omega | rfl | exact B_pos (by omega)) ?_ | refine go_neg (by first | assumption | omega | decide | exact B_not (by omega)) ?_ | refine go_bind (by first | assumption) ?_ | dsimp only))
    rfl)
  have wl : wrapI ((xs.length : Int) - 1) = (d : Int) := by rw [w64 (by omega) (by omega)]; omega
  obtain ⟨w3, _, b1, b2⟩ := bsum_w hg hm hc hx hl (j := d) (by omega) (hx.take d) (by rw [List.length_take]; omega)
  have e1 : xs.drop (1 : Int).toNat = xs.drop 1 := rfl
  have hmod := Mod_ (a := (bsum g u v xs d).1 + (bsum g u v xs d).2 * At g v (xs.take d)) (m := m) (by omega) (by omega) (by omega) (by omega)
  rw [spec_l03Side.f_eq, e1, h0, Option.bind_some, wl, head_w hg hm hc hx hl]
  (with_reducible repeat (first | refine go_pos (by first | assumption | omega | rfl | exact B_pos (by omega)) ?_ | refine go_neg (by first | assumption | omega | decide | exact B_not (by omega)) ?_ | refine go_bind (by first | assumption) ?_ | dsimp only))
  refine loop.trans ?_
  rw [spec_l03Side.l0_eq, Int.toNat_natCast, hat, Option.bind_some, w3, hmod]
  (with_reducible repeat (first | refine go_pos (by first | assumption | omega | rfl | exact B_pos (by omega)) ?_ | refine go_neg (by first | assumption | omega | decide | exact B_not (by omega)) ?_ | refine go_bind (by first | assumption) ?_ | dsimp only))
  rfl
noncomputable def bdV (g : List (List Int)) (u v : List Int) (d i : Nat) : Int := Bd g u v (lst ((g.length : Int) - 1) (d + 1) (i : Int)) d
noncomputable def bdL (g : List (List Int)) (m : Int) (u v : List Int) (d : Nat) : List Int := (List.range (cells g ((d + 1 : Nat) : Int)).toNat).map fun i => bdV g u v d i % m
theorem boundary_ {g : List (List Int)} (hg : Grp g) {m : Int} {u v : List Int} {d : Nat} (hm : Mdl g m u) (hc : Co g m d v) : impl_boundary.f g m u d v = some (((d + 1 : Nat) : Int), bdL g m u v d) := by
  have d3 := hc.1.2
  have hT := told hg hm.m2 hm.m12 (n := d + 1) (by omega) (F := fun z0 => (impl_boundary_1.f z0 g m u d v).map fun z => z) (G := bdV g u v d) (fun i hi => by
    obtain ⟨hx, _⟩ := lst_grp hg (n := d + 1) (i := i) hi
    have hll := lst_length ((g.length : Int) - 1) (d + 1) i
    have e : impl_boundary_1.f (lst ((g.length : Int) - 1) (d + 1) i) g m u d v = some (bdV g u v d i) := by
      rw [impl_boundary_1.f_eq, boundaryAt hg hm hc hx hll]; rfl
    show Option.map _ (impl_boundary_1.f _ g m u d v) = _
    rw [e]; rfl)
  rw [impl_boundary.f_eq, wn (j := d) (by omega), hT]
  rfl
def Cocy (g : List (List Int)) (m : Int) (u v : List Int) (d : Nat) : Prop := ∀ i : Int, 0 ≤ i → i < (cells g ((d + 1 : Nat) : Int)).toNat → bdV g u v d i.toNat % m = 0
theorem isCocycle {g : List (List Int)} (hg : Grp g) {m : Int} {u v : List Int} {d : Nat} (hm : Mdl g m u) (hc : Co g m d v) : impl_isCocycle.f g m u d v = some (B (Cocy g m u v d)) := by
  have d3 := hc.1.2
  have hb := cells_bd hg (d := ((d + 1 : Nat) : Int)) (by omega)
  have hl : (bdL g m u v d).length = (cells g ((d + 1 : Nat) : Int)).toNat := by rw [bdL, List.length_map, List.length_range]
  rw [impl_isCocycle.f_eq, boundary_ hg hm hc, Option.bind_some, hl]
  refine scanT _ (fun i => impl_isCocycle.l0 ((cells g ((d + 1 : Nat) : Int)).toNat : Int) i (bdL g m u v d)) (fun i => bdV g u v d i.toNat % m = 0) (fun i i0 i1 _ => ?_) (fun _ => by (rw [impl_isCocycle.l0_eq]); ((with_reducible repeat (first | refine go_pos (by first | assumption | omega | rfl | exact B_pos (by omega)) ?_ | refine go_neg (by first | assumption | omega | decide | exact B_not (by omega)) ?_ | refine go_bind (by first | assumption) ?_ | dsimp only)); first | done | (with_reducible rfl) | simp (disch := omega) only [w64] | (show False; done)))
  obtain ⟨n, rfl⟩ := Int.eq_ofNat_of_zero_le i0
  have e : rd (bdL g m u v d) (n : Int) = bdV g u v d n % m := by
    rw [rd_get (by omega)]; simp [bdL]
  rw [Int.toNat_natCast]
  refine ⟨fun h => ?_, fun h => ?_⟩ <;> rw [impl_isCocycle.l0_eq, e] <;> ((with_reducible repeat (first | refine go_pos (by first | assumption | omega | rfl | exact B_pos (by omega)) ?_ | refine go_neg (by first | assumption | omega | decide | exact B_not (by omega)) ?_ | refine go_bind (by first | assumption) ?_ | dsimp only)); first | done | (with_reducible rfl) | simp (disch := omega) only [w64] | (show False; done))
theorem Cocycle_ {g : List (List Int)} (hg : Grp g) {m : Int} {u v : List Int} {d : Nat} (hm : Mdl g m u) (hc : Co g m d v) : spec_l03Cocycle.f g m u d v = some (B (Cocy g m u v d)) := by
  have d3 := hc.1.2
  have hb := cells_bd hg (d := ((d + 1 : Nat) : Int)) (by omega)
  have hCl := Cells_ hg (d := ((d + 1 : Nat) : Int)) (by omega) (by omega)
  rw [spec_l03Cocycle.f_eq]
  refine scanT _ (fun i => spec_l03Cocycle.l0 i g m u d v) (fun i => bdV g u v d i.toNat % m = 0) (fun i i0 i1 _ => ?_) (fun _ => by rw [spec_l03Cocycle.l0_eq, wn (j := d) (by omega), hCl, Option.bind_some]; ((with_reducible repeat (first | refine go_pos (by first | assumption | omega | rfl | exact B_pos (by omega)) ?_ | refine go_neg (by first | assumption | omega | decide | exact B_not (by omega)) ?_ | refine go_bind (by first | assumption) ?_ | dsimp only)); first | done | (with_reducible rfl) | simp (disch := omega) only [w64] | (show False; done)))
  obtain ⟨n, rfl⟩ := Int.eq_ofNat_of_zero_le i0
  obtain ⟨hx, _⟩ := lst_grp hg (n := d + 1) (i := n) (by omega)
  have hll := lst_length ((g.length : Int) - 1) (d + 1) n
  have hL := (cell_list hg (n := d + 1) (i := n) (by omega) (by omega)).2
  have hS : spec_l03Side.f g m u d v (lst ((g.length : Int) - 1) (d + 1) n) = some (bdV g u v d n % m) := Side_ hg hm hc hx hll
  rw [Int.toNat_natCast]
  refine ⟨fun h => ?_, fun h => ?_⟩ <;> rw [spec_l03Cocycle.l0_eq, wn (j := d) (by omega), hCl, Option.bind_some] <;> ((with_reducible repeat (first | refine go_pos (by first | assumption | omega | rfl | exact B_pos (by omega)) ?_ | refine go_neg (by first | assumption | omega | decide | exact B_not (by omega)) ?_ | refine go_bind (by first | assumption) ?_ | dsimp only)); first | done | (with_reducible rfl) | simp (disch := omega) only [w64] | (show False; done))
end Go.Proofs.Ytdiadcmkddkjpaa.V
set_option linter.unusedVariables false
set_option linter.unusedSimpArgs false
set_option maxHeartbeats 2000000
set_option maxRecDepth 20000
namespace Go.Proofs.Ytdiadcmkddkjpaa.V
open Go.RowKit Go.Proofs.Ytdiadcmkddkjpaa.D Go.Proofs.Ytdiadcmkddkjpaa.P
theorem factor (g : List (List Int)) (hl : g.length ≤ maxLen) (hr : ∀ r ∈ g, r.length ≤ maxLen) (m : Int) (u : List Int) (hu : u.length ≤ maxLen) (d : Int) (v : List Int) (hv : v.length ≤ maxLen) (most : Int) :
    (d = 2 ∧ Grp g ∧ Mdl g m u ∧ Co g m 2 v ∧ Cocy g m u v 2 ∧ (g.length : Int) * m ≤ most ∧ spec_l06Given.f g m u d v most = some 0 ∧ impl_factorCode.f g m u d v most = some 0) ∨
    ∃ c : Int, ¬ c = 0 ∧ spec_l06Given.f g m u d v most = some c ∧ impl_factorCode.f g m u d v most = some c := by
  rw [spec_l06Given.f_eq, impl_factorCode.f_eq]
  rcases co_codes g hl hr m u hu d v hv with ⟨hg, hm, hc, cI, cS⟩ | ⟨_, cI, cS⟩
  rotate_left
  · exact .inr ⟨1, by omega, by ((with_reducible repeat (first | refine go_pos (by first | assumption | omega | rfl | exact B_pos (by omega)) ?_ | refine go_neg (by first | assumption | omega | decide | exact B_not (by omega)) ?_ | refine go_bind (by first | assumption) ?_ | dsimp only)); first | done | (with_reducible rfl) | simp (disch := omega) only [w64] | (show False; done)), by ((with_reducible repeat (first | refine go_pos (by first | assumption | omega | rfl | exact B_pos (by omega)) ?_ | refine go_neg (by first | assumption | omega | decide | exact B_not (by omega)) ?_ | refine go_bind (by first | assumption) ?_ | dsimp only)); first | done | (with_reducible rfl) | simp (disch := omega) only [w64] | (show False; done))⟩
  have n8 := hg.n8; have m2 := hm.m2; have m12 := hm.m12
  by_cases h2 : d = 2
  rotate_left
  · exact .inr ⟨2, by omega, by ((with_reducible repeat (first | refine go_pos (by first | assumption | omega | rfl | exact B_pos (by omega)) ?_ | refine go_neg (by first | assumption | omega | decide | exact B_not (by omega)) ?_ | refine go_bind (by first | assumption) ?_ | dsimp only)); first | done | (with_reducible rfl) | simp (disch := omega) only [w64] | (show False; done)), by ((with_reducible repeat (first | refine go_pos (by first | assumption | omega | rfl | exact B_pos (by omega)) ?_ | refine go_neg (by first | assumption | omega | decide | exact B_not (by omega)) ?_ | refine go_bind (by first | assumption) ?_ | dsimp only)); first | done | (with_reducible rfl) | simp (disch := omega) only [w64] | (show False; done))⟩
  subst h2
  have b0 : 0 ≤ (g.length : Int) * m := Int.mul_nonneg (by omega) (by omega)
  have b1 : (g.length : Int) * m ≤ 8 * 12 := Int.mul_le_mul (by omega) m12 (by omega) (by omega)
  rw [spec_l01N.f_eq, Option.bind_some, impl_order.f_eq, Option.bind_some, w64 (x := (g.length : Int) * m) (by omega) (by omega)]
  by_cases h3 : (g.length : Int) * m > most
  · exact .inr ⟨3, by omega, by ((with_reducible repeat (first | refine go_pos (by first | assumption | omega | rfl | exact B_pos (by omega)) ?_ | refine go_neg (by first | assumption | omega | decide | exact B_not (by omega)) ?_ | refine go_bind (by first | assumption) ?_ | dsimp only)); first | done | (with_reducible rfl) | simp (disch := omega) only [w64] | (show False; done)), by ((with_reducible repeat (first | refine go_pos (by first | assumption | omega | rfl | exact B_pos (by omega)) ?_ | refine go_neg (by first | assumption | omega | decide | exact B_not (by omega)) ?_ | refine go_bind (by first | assumption) ?_ | dsimp only)); first | done | (with_reducible rfl) | simp (disch := omega) only [w64] | (show False; done))⟩
  have c1 := isCocycle hg hm (d := 2) hc
  have c2 := Cocycle_ hg hm (d := 2) hc
  have e : ((2 : Nat) : Int) = 2 := rfl
  rw [e] at c1 c2
  by_cases h4 : Cocy g m u v 2
  · rw [B_pos h4] at c1 c2
    exact .inl ⟨rfl, hg, hm, hc, h4, by omega, by ((with_reducible repeat (first | refine go_pos (by first | assumption | omega | rfl | exact B_pos (by omega)) ?_ | refine go_neg (by first | assumption | omega | decide | exact B_not (by omega)) ?_ | refine go_bind (by first | assumption) ?_ | dsimp only)); first | done | (with_reducible rfl) | simp (disch := omega) only [w64] | (show False; done)), by ((with_reducible repeat (first | refine go_pos (by first | assumption | omega | rfl | exact B_pos (by omega)) ?_ | refine go_neg (by first | assumption | omega | decide | exact B_not (by omega)) ?_ | refine go_bind (by first | assumption) ?_ | dsimp only)); first | done | (with_reducible rfl) | simp (disch := omega) only [w64] | (show False; done))⟩
  · rw [B_neg h4] at c1 c2
    exact .inr ⟨5, by omega, by ((with_reducible repeat (first | refine go_pos (by first | assumption | omega | rfl | exact B_pos (by omega)) ?_ | refine go_neg (by first | assumption | omega | decide | exact B_not (by omega)) ?_ | refine go_bind (by first | assumption) ?_ | dsimp only)); first | done | (with_reducible rfl) | simp (disch := omega) only [w64] | (show False; done)), by ((with_reducible repeat (first | refine go_pos (by first | assumption | omega | rfl | exact B_pos (by omega)) ?_ | refine go_neg (by first | assumption | omega | decide | exact B_not (by omega)) ?_ | refine go_bind (by first | assumption) ?_ | dsimp only)); first | done | (with_reducible rfl) | simp (disch := omega) only [w64] | (show False; done))⟩
noncomputable def ext (g : List (List Int)) (m : Int) (u v : List Int) (p q : Int) : Int := m * T g (p / m) (q / m) + (p % m + rd u (p / m) * (q % m) + At g v [p / m, q / m]) % m
noncomputable def extT (g : List (List Int)) (m : Int) (u v : List Int) (N : Nat) : List (List Int) := (List.range N).map fun p : Nat => (List.range N).map fun q : Nat => ext g m u v p q
theorem parts {n m p : Int} (hm : 0 < m) (h0 : 0 ≤ p) (h1 : p < n * m) : 0 ≤ p / m ∧ p / m < n ∧ 0 ≤ p % m ∧ p % m < m :=
  ⟨Int.ediv_nonneg h0 (by omega), Int.ediv_lt_of_lt_mul hm h1, Int.emod_nonneg _ (by omega), Int.emod_lt_of_pos _ hm⟩
theorem ext_w {g : List (List Int)} (hg : Grp g) {m : Int} {u v : List Int} (hm : Mdl g m u) (hc : Co g m 2 v) {p q : Int} (p0 : 0 ≤ p) (p1 : p < g.length * m) (q0 : 0 ≤ q) (q1 : q < g.length * m) :
    wrapI (p.tdiv m) = p / m ∧ wrapI (q.tdiv m) = q / m ∧ wrapI (wrapI (m * T g (p / m) (q / m)) + (wrapI (wrapI (p.tmod m + wrapI (rd u (p / m) * q.tmod m)) + At g v [p / m, q / m])).tmod m) = ext g m u v p q ∧ 0 ≤ ext g m u v p q ∧ ext g m u v p q < g.length * m := by
  have n8 := hg.n8; have m2 := hm.m2; have m12 := hm.m12
  obtain ⟨x0, x1, a0, a1⟩ := parts (show 0 < m by omega) p0 p1
  obtain ⟨y0, y1, b0, b1⟩ := parts (show 0 < m by omega) q0 q1
  have hA := At_bd hg (by omega) hc (allIn_two x0 x1 y0 y1) rfl
  obtain ⟨s0, s1⟩ := small_prod hm x0 x1 b0 b1
  obtain ⟨t0, t1⟩ := hg.ent _ _ x0 x1 y0 y1
  have e1 : 0 ≤ m * T g (p / m) (q / m) := Int.mul_nonneg (by omega) t0
  have e2 : m * T g (p / m) (q / m) ≤ m * (g.length - 1) := Int.mul_le_mul_of_nonneg_left (by omega) (by omega)
  have e3 : m * ((g.length : Int) - 1) = g.length * m - m := by rw [Int.mul_sub, Int.mul_comm]; omega
  have e4 : (g.length : Int) * m ≤ 8 * 12 := Int.mul_le_mul (by omega) m12 (by omega) (by omega)
  have f0 := Int.emod_nonneg (p % m + rd u (p / m) * (q % m) + At g v [p / m, q / m]) (show m ≠ 0 by omega)
  have f1 := Int.emod_lt_of_pos (p % m + rd u (p / m) * (q % m) + At g v [p / m, q / m]) (show 0 < m by omega)
  rw [tdiv_nn p0, tdiv_nn q0, tmod_nn p0, tmod_nn q0, w64 (x := p / m) (by omega) (by omega), w64 (x := q / m) (by omega) (by omega), w64 (x := rd u (p / m) * (q % m)) (by omega) (by omega), w64 (x := m * T g (p / m) (q / m)) (by omega) (by omega), w64 (x := p % m + rd u (p / m) * (q % m)) (by omega) (by omega), w64 (x := p % m + rd u (p / m) * (q % m) + At g v [p / m, q / m]) (by omega) (by omega), tmod_nn (by omega), w64 (by omega) (by omega)]
  unfold ext
  exact ⟨rfl, rfl, rfl, by omega, by omega⟩
theorem extT_len (g : List (List Int)) (m : Int) (u v : List Int) (N : Nat) : (extT g m u v N).length = N ∧ ∀ r ∈ extT g m u v N, r.length = N := by
  refine ⟨by simp [extT], fun r hr => ?_⟩
  obtain ⟨p, _, rfl⟩ := List.mem_map.1 hr
  simp
theorem made {N : Nat} (hN : N ≤ 100000) {F : Int → Int → Option Int} {G : Nat → Nat → Int} (hF : ∀ p q : Nat, p < N → q < N → F p q = some (G p q)) :
    impl_made.f (N : Int) F = some ((List.range N).map fun p : Nat => (List.range N).map fun q : Nat => G p q) := by
  have l2 : ∀ x : Int, ([x] : List Int).length = 1 := fun _ => rfl
  have l3 : ∀ x : List Int, ([x] : List (List Int)).length = 1 := fun _ => rfl
  rw [impl_made.f_eq]
  have := up N (fun p => impl_made.l0 (N : Int) F (N : Int) (p : Int) [] ((List.range p).map fun p : Nat => (List.range N).map fun q : Nat => G p q)) (fun p hp => by
    have inner := up N (fun q => impl_made.l1 (N : Int) F p (N : Int) p (N : Int) (q : Int) ((List.range q).map fun q : Nat => G p q) [] ((List.range p).map fun p : Nat => (List.range N).map fun q : Nat => G p q)) (fun q hq => by
      have l1 : ((List.range q).map fun q : Nat => G p q).length = q := by rw [List.length_map, List.length_range]
      rw [List.range_succ, List.map_append, List.map_singleton, impl_made.l1_eq, hF p q hp hq, Option.bind_some, l1, l2, wn (j := q) (by omega)]
      ((with_reducible repeat (first | refine go_pos (by first | assumption | omega | rfl | exact B_pos (by omega)) ?_ | refine go_neg (by first | assumption | omega | decide | exact B_not (by omega)) ?_ | refine go_bind (by first | assumption) ?_ | dsimp only)); first | done | (with_reducible rfl) | simp (disch := omega) only [w64] | (show False; done)))
    simp only [Int.natCast_zero, List.range_zero, List.map_nil] at inner
    have l1 : ((List.range p).map fun p : Nat => (List.range N).map fun q : Nat => G p q).length = p := by rw [List.length_map, List.length_range]
    rw [List.range_succ, List.map_append, List.map_singleton, impl_made.l0_eq]
    (with_reducible repeat (first | refine go_pos (by first | assumption | omega | rfl | exact B_pos (by omega)) ?_ | refine go_neg (by first | assumption | omega | decide | exact B_not (by omega)) ?_ | refine go_bind (by first | assumption) ?_ | dsimp only))
    rw [inner, impl_made.l1_eq, l1, l3, wn (j := p) (by omega)]
    ((with_reducible repeat (first | refine go_pos (by first | assumption | omega | rfl | exact B_pos (by omega)) ?_ | refine go_neg (by first | assumption | omega | decide | exact B_not (by omega)) ?_ | refine go_bind (by first | assumption) ?_ | dsimp only)); first | done | (with_reducible rfl) | simp (disch := omega) only [w64] | (show False; done)))
  simp only [Int.natCast_zero, List.range_zero, List.map_nil] at this
  rw [this, impl_made.l0_eq]
  ((with_reducible repeat (first | refine go_pos (by first | assumption | omega | rfl | exact B_pos (by omega)) ?_ | refine go_neg (by first | assumption | omega | decide | exact B_not (by omega)) ?_ | refine go_bind (by first | assumption) ?_ | dsimp only)); first | done | (with_reducible rfl) | simp (disch := omega) only [w64] | (show False; done))
theorem extension {g : List (List Int)} (hg : Grp g) {m : Int} {u v : List Int} (hm : Mdl g m u) (hc : Co g m 2 v) {N : Nat} (hN : (N : Int) = g.length * m) : impl_extension.f g m u 2 v = some (extT g m u v N) ∧ N ≤ 96 := by
  have n8 := hg.n8; have m2 := hm.m2; have m12 := hm.m12; have hlu := hm.len
  have e4 : (g.length : Int) * m ≤ 8 * 12 := Int.mul_le_mul (by omega) m12 (by omega) (by omega)
  refine ⟨?_, by omega⟩
  have hM := made (N := N) (by omega) (F := fun z0 z1 => (impl_extension_1.f z0 z1 m u 2 v g).map fun z => z) (G := fun p q : Nat => ext g m u v p q) (fun p q hp hq => by
    obtain ⟨w1, w2, w3, _, _⟩ := ext_w hg hm hc (p := p) (q := q) (by omega) (by omega) (by omega) (by omega)
    obtain ⟨x0, x1, a0, a1⟩ := parts (show 0 < m by omega) (show 0 ≤ (p : Int) by omega) (n := g.length) (by omega)
    obtain ⟨y0, y1, b0, b1⟩ := parts (show 0 < m by omega) (show 0 ≤ (q : Int) by omega) (n := g.length) (by omega)
    have hat := at_ hg hc (allIn_two x0 x1 y0 y1) rfl
    have ht := times2 hg x0 x1 y0 y1
    have e : impl_extension_1.f p q m u 2 v g = some (ext g m u v p q) := by
      rw [impl_extension_1.f_eq, w1, w2, hat, Option.bind_some, ht, Option.bind_some, w3]
      clear w1 w2 w3
      ((with_reducible repeat (first | refine go_pos (by first | assumption | omega | rfl | exact B_pos (by omega)) ?_ | refine go_neg (by first | assumption | omega | decide | exact B_not (by omega)) ?_ | refine go_bind (by first | assumption) ?_ | dsimp only)); first | done | (with_reducible rfl) | simp (disch := omega) only [w64] | (show False; done))
    show Option.map _ (impl_extension_1.f p q m u 2 v g) = _
    rw [e]; rfl)
  rw [impl_extension.f_eq, impl_order.f_eq, Option.bind_some, w64 (by omega) (by omega), ← hN, hM]
  rfl
theorem Table_ {g : List (List Int)} (hg : Grp g) {m : Int} {u v : List Int} (hm : Mdl g m u) (hc : Co g m 2 v) {N : Nat} (hN : (N : Int) = g.length * m) : spec_l06Table.f g m u 2 v = some (extT g m u v N) := by
  have n8 := hg.n8; have m2 := hm.m2; have m12 := hm.m12; have hlu := hm.len
  have e4 : (g.length : Int) * m ≤ 8 * 12 := Int.mul_le_mul (by omega) m12 (by omega) (by omega)
  have l2 : ∀ x : Int, ([x] : List Int).length = 1 := fun _ => rfl
  have l3 : ∀ x : List Int, ([x] : List (List Int)).length = 1 := fun _ => rfl
  rw [spec_l06Table.f_eq, spec_l01N.f_eq, Option.bind_some, w64 (by omega) (by omega), ← hN]
  have := up N (fun p => spec_l06Table.l0 (N : Int) (p : Int) g m u 2 v ((List.range p).map fun p : Nat => (List.range N).map fun q : Nat => ext g m u v p q)) (fun p hp => by
    obtain ⟨x0, x1, a0, a1⟩ := parts (show 0 < m by omega) (show 0 ≤ (p : Int) by omega) (n := g.length) (by omega)
    have inner := up N (fun q => spec_l06Table.l1 (N : Int) (p : Int) (q : Int) g m u 2 v ((List.range p).map fun p : Nat => (List.range N).map fun q : Nat => ext g m u v p q) ((List.range q).map fun q : Nat => ext g m u v p q)) (fun q hq => by
      obtain ⟨w1, w2, w3, _, _⟩ := ext_w hg hm hc (p := p) (q := q) (by omega) (by omega) (by omega) (by omega)
      obtain ⟨y0, y1, b0, b1⟩ := parts (show 0 < m by omega) (show 0 ≤ (q : Int) by omega) (n := g.length) (by omega)
      have rx := hg.row _ x0 x1
      have hat := At_ (u := u) hg hc (allIn_two x0 x1 y0 y1) rfl
      have l1 : ((List.range q).map fun q : Nat => ext g m u v p q).length = q := by rw [List.length_map, List.length_range]
      rw [List.range_succ (n := q), List.map_append (l₁ := List.range q), List.map_singleton, spec_l06Table.l1_eq, w1, w2, hat, Option.bind_some, w3, l1, l2, wn (j := q) (by omega)]
      clear w1 w2 w3
      ((with_reducible repeat (first | refine go_pos (by first | assumption | omega | rfl | exact B_pos (by omega)) ?_ | refine go_neg (by first | assumption | omega | decide | exact B_not (by omega)) ?_ | refine go_bind (by first | assumption) ?_ | dsimp only)); first | done | (with_reducible rfl) | simp (disch := omega) only [w64] | (show False; done)))
    simp only [Int.natCast_zero, List.range_zero, List.map_nil] at inner
    have l1 : ((List.range p).map fun p : Nat => (List.range N).map fun q : Nat => ext g m u v p q).length = p := by rw [List.length_map, List.length_range]
    rw [List.range_succ, List.map_append, List.map_singleton, spec_l06Table.l0_eq]
    (with_reducible repeat (first | refine go_pos (by first | assumption | omega | rfl | exact B_pos (by omega)) ?_ | refine go_neg (by first | assumption | omega | decide | exact B_not (by omega)) ?_ | refine go_bind (by first | assumption) ?_ | dsimp only))
    rw [inner, spec_l06Table.l1_eq, l1, l3, wn (j := p) (by omega)]
    ((with_reducible repeat (first | refine go_pos (by first | assumption | omega | rfl | exact B_pos (by omega)) ?_ | refine go_neg (by first | assumption | omega | decide | exact B_not (by omega)) ?_ | refine go_bind (by first | assumption) ?_ | dsimp only)); first | done | (with_reducible rfl) | simp (disch := omega) only [w64] | (show False; done)))
  simp only [Int.natCast_zero, List.range_zero, List.map_nil] at this
  rw [this, spec_l06Table.l0_eq]
  (with_reducible repeat (first | refine go_pos (by first | assumption | omega | rfl | exact B_pos (by omega)) ?_ | refine go_neg (by first | assumption | omega | decide | exact B_not (by omega)) ?_ | refine go_bind (by first | assumption) ?_ | dsimp only))
  rfl
end Go.Proofs.Ytdiadcmkddkjpaa.V
set_option linter.unusedVariables false
namespace Go.Proofs.Ytdiadcmkddkjpaa.P
open Go Go.RowKit Go.Proofs.Ytdiadcmkddkjpaa.D
end Go.Proofs.Ytdiadcmkddkjpaa.P
set_option linter.unusedVariables false
set_option linter.unusedSimpArgs false
set_option maxHeartbeats 2000000
set_option maxRecDepth 20000
namespace Go.Proofs.Ytdiadcmkddkjpaa.V
open Go.RowKit Go.Proofs.Ytdiadcmkddkjpaa.D Go.Proofs.Ytdiadcmkddkjpaa.P
end Go.Proofs.Ytdiadcmkddkjpaa.V
set_option linter.unusedVariables false
set_option linter.unusedSimpArgs false
set_option maxHeartbeats 2000000
set_option maxRecDepth 20000
namespace Go.Proofs.Ytdiadcmkddkjpaa.V
open Go.RowKit Go.Proofs.Ytdiadcmkddkjpaa.D Go.Proofs.Ytdiadcmkddkjpaa.P
theorem indexFunc {F : Int → Option Bool} {p : Int → Bool} (xs : List Int) (hl : xs.length ≤ 1048576) (hF : ∀ x ∈ xs, F x = some (p x)) :
    ((∀ x ∈ xs, p x = false) ∧ slices_IndexFunc_int64.f xs F = some (-1)) ∨ ∃ i : Nat, i < xs.length ∧ p (rd xs i) = true ∧ (∀ x ∈ xs.take i, p x = false) ∧ slices_IndexFunc_int64.f xs F = some (i : Int) := by
  rw [slices_IndexFunc_int64.f_eq]
  suffices H : ∀ d m : Nat, m + d = xs.length → (∀ x ∈ xs.take m, p x = false) → ((∀ x ∈ xs, p x = false) ∧ slices_IndexFunc_int64.l0 xs F (xs.length : Int) m = some (-1)) ∨ ∃ i : Nat, i < xs.length ∧ p (rd xs i) = true ∧ (∀ x ∈ xs.take i, p x = false) ∧ slices_IndexFunc_int64.l0 xs F (xs.length : Int) m = some (i : Int) from
    H xs.length 0 (by omega) (by simp)
  intro d
  induction d with
  | zero =>
    intro m hd hp
    obtain rfl : m = xs.length := by omega
    rw [List.take_length] at hp
    refine .inl ⟨hp, ?_⟩
    rw [slices_IndexFunc_int64.l0_eq]
    ((with_reducible repeat (first | refine go_pos (by first | assumption | omega | rfl | exact B_pos (by omega)) ?_ | refine go_neg (by first | assumption | omega | decide | exact B_not (by omega)) ?_ | refine go_bind (by first | assumption) ?_ | dsimp only)); first | done | (with_reducible rfl) | simp (disch := omega) only [w64] | (show False; done))
  | succ d ih =>
    intro m hd hp
    have hf := hF (rd xs m) (rd_mem (by omega) (by omega))
    cases h : p (rd xs m) with
    | true =>
      rw [h] at hf
      refine .inr ⟨m, by omega, h, hp, ?_⟩
      rw [slices_IndexFunc_int64.l0_eq]
      ((with_reducible repeat (first | refine go_pos (by first | assumption | omega | rfl | exact B_pos (by omega)) ?_ | refine go_neg (by first | assumption | omega | decide | exact B_not (by omega)) ?_ | refine go_bind (by first | assumption) ?_ | dsimp only)); first | done | (with_reducible rfl) | simp (disch := omega) only [w64] | (show False; done))
    | false =>
      rw [h] at hf
      have st : slices_IndexFunc_int64.l0 xs F (xs.length : Int) m = slices_IndexFunc_int64.l0 xs F (xs.length : Int) ((m + 1 : Nat) : Int) := by
        rw [slices_IndexFunc_int64.l0_eq, wn (j := m) (by omega)]
        ((with_reducible repeat (first | refine go_pos (by first | assumption | omega | rfl | exact B_pos (by omega)) ?_ | refine go_neg (by first | assumption | omega | decide | exact B_not (by omega)) ?_ | refine go_bind (by first | assumption) ?_ | dsimp only)); first | done | (with_reducible rfl) | simp (disch := omega) only [w64] | (show False; done))
      rw [st]
      refine ih (m + 1) (by omega) fun x hx => ?_
      rw [take_rd (by omega)] at hx
      rcases List.mem_append.1 hx with hx | hx
      · exact hp x hx
      · rw [List.mem_singleton.1 hx]; exact h
theorem deleteFunc {F : Int → Option Bool} {p : Int → Bool} (xs : List Int) (hl : xs.length ≤ 1048576) (hF : ∀ x ∈ xs, F x = some (p x)) : slices_DeleteFunc_int64.f xs F = some (xs.filter fun x => !p x) := by
  have hi := indexFunc (F := fun z0 => (F z0).map fun z => z) (p := p) xs hl (fun x hx => by
    show Option.map _ (F x) = _
    rw [hF x hx]; rfl)
  rw [slices_DeleteFunc_int64.f_eq]
  rcases hi with ⟨h, e⟩ | ⟨i, i1, hpi, hp, e⟩
  · rw [e, Option.bind_some, if_pos rfl, List.filter_eq_self.2 fun x hx => by rw [h x hx]; rfl]
  rw [e, Option.bind_some, if_neg (by omega), wn (j := i) (by omega)]
  have fil : ∀ m : Nat, (xs.take m).filter (fun x => !p x) = (xs.take m).filter (fun x => !p x) := fun _ => rfl
  have H : ∀ d m : Nat, m + d = xs.length → ∀ (k : Nat) (r : List Int), k < m → r.length = xs.length → r.take k = (xs.take m).filter (fun x => !p x) → r.drop m = xs.drop m → slices_DeleteFunc_int64.l0 F (k : Int) (m : Int) r = some (xs.filter fun x => !p x) := by
    intro d
    induction d with
    | zero =>
      intro m hd k r hk hr h1 _
      obtain rfl : m = xs.length := by omega
      rw [List.take_length] at h1
      have l1 : (r.take k ++ List.replicate (r.length - k) 0).length = xs.length := by rw [List.length_append, List.length_take, List.length_replicate]; omega
      have e2 : (r.take k ++ List.replicate (r.length - k) 0).take k = r.take k := by
        rw [List.take_append_of_le_length (by rw [List.length_take]; omega), List.take_take, Nat.min_self]
      rw [slices_DeleteFunc_int64.l0_eq, Int.toNat_natCast, l1, e2, ← h1]
      ((with_reducible repeat (first | refine go_pos (by first | assumption | omega | rfl | exact B_pos (by omega)) ?_ | refine go_neg (by first | assumption | omega | decide | exact B_not (by omega)) ?_ | refine go_bind (by first | assumption) ?_ | dsimp only)); first | done | (with_reducible rfl) | simp (disch := omega) only [w64] | (show False; done))
    | succ d ih =>
      intro m hd k r hk hr h1 h2
      have hrx : rd r (m : Int) = rd xs (m : Int) := by
        have hm1 : m < r.length := by omega
        have hm2 : m < xs.length := by omega
        have := congrArg List.head? h2
        rw [drop_rd hm1, drop_rd hm2] at this
        simpa using this
      have hd2 : r.drop (m + 1) = xs.drop (m + 1) := by
        have hm1 : m < r.length := by omega
        have hm2 : m < xs.length := by omega
        have := congrArg List.tail h2
        rw [drop_rd hm1, drop_rd hm2] at this
        simpa using this
      have hf := hF (rd xs m) (rd_mem (by omega) (by omega))
      have tk := take_rd (xs := xs) (m := m) (by omega)
      rw [slices_DeleteFunc_int64.l0_eq, hrx, hf, Option.bind_some, wn (j := m) (by omega), wn (j := k) (by omega), Int.toNat_natCast]
      cases h : p (rd xs m) with
      | true =>
        have := ih (m + 1) (by omega) k r (by omega) hr (by rw [tk, List.filter_append, h1]; simp [h]) hd2
        (with_reducible repeat (first | refine go_pos (by first | assumption | omega | rfl | exact B_pos (by omega)) ?_ | refine go_neg (by first | assumption | omega | decide | exact B_not (by omega)) ?_ | refine go_bind (by first | assumption) ?_ | dsimp only))
        exact this
      | false =>
        have := ih (m + 1) (by omega) (k + 1) (r.set k (rd xs m)) (by omega) (by rw [List.length_set, hr]) (by
          rw [tk, List.filter_append, ← h1, List.take_succ_eq_append_getElem (by rw [List.length_set]; omega), List.getElem_set_self, List.take_set_of_le (Nat.le_refl _)]
          simp [h]) (by rw [List.drop_set_of_lt (by omega)]; exact hd2)
        (with_reducible repeat (first | refine go_pos (by first | assumption | omega | rfl | exact B_pos (by omega)) ?_ | refine go_neg (by first | assumption | omega | decide | exact B_not (by omega)) ?_ | refine go_bind (by first | assumption) ?_ | dsimp only))
        exact this
  refine H (xs.length - (i + 1)) (i + 1) (by omega) i xs (by omega) rfl ?_ rfl
  rw [take_rd i1, List.filter_append, List.filter_eq_self.2 fun x hx => by rw [hp x hx]; rfl]
  simp [hpi]
theorem counting {n : Nat} (hn : n ≤ 1048576) : impl_counting.f (n : Int) = some ((List.range n).map fun i : Nat => (i : Int)) := by
  rw [impl_counting.f_eq]
  have := up n (fun j => impl_counting.l0 (n : Int) (j : Int) ((List.range j).map fun i : Nat => (i : Int))) (fun j hj => by
    have l1 : ((List.range j).map fun i : Nat => (i : Int)).length = j := by rw [List.length_map, List.length_range]
    have l2 : ∀ x : Int, ([x] : List Int).length = 1 := fun _ => rfl
    rw [List.range_succ, List.map_append, List.map_singleton, impl_counting.l0_eq, l1, l2, wn (j := j) (by omega)]
    ((with_reducible repeat (first | refine go_pos (by first | assumption | omega | rfl | exact B_pos (by omega)) ?_ | refine go_neg (by first | assumption | omega | decide | exact B_not (by omega)) ?_ | refine go_bind (by first | assumption) ?_ | dsimp only)); first | done | (with_reducible rfl) | simp (disch := omega) only [w64] | (show False; done)))
  simp only [Int.natCast_zero, List.range_zero, List.map_nil] at this
  rw [this, impl_counting.l0_eq]
  ((with_reducible repeat (first | refine go_pos (by first | assumption | omega | rfl | exact B_pos (by omega)) ?_ | refine go_neg (by first | assumption | omega | decide | exact B_not (by omega)) ?_ | refine go_bind (by first | assumption) ?_ | dsimp only)); first | done | (with_reducible rfl) | simp (disch := omega) only [w64] | (show False; done))
def kept (n : Nat) (p : Nat → Bool) : List Int := ((List.range n).filter p).map fun i : Nat => (i : Int)
theorem kept_succ (n : Nat) (p : Nat → Bool) : kept (n + 1) p = kept n p ++ (if p n = true then [(n : Int)] else []) := by
  unfold kept
  rw [List.range_succ, List.filter_append, List.map_append, List.filter_cons, List.filter_nil]
  split <;> rfl
theorem kept_len (n : Nat) (p : Nat → Bool) : (kept n p).length ≤ n := by
  rw [kept, List.length_map]
  exact Nat.le_trans (List.length_filter_le _ _) (by simp)
theorem those {g : List (List Int)} (hn : g.length ≤ 1048576) {F : Int → Option Bool} {p : Nat → Bool} (hF : ∀ i : Nat, i < g.length → F (i : Int) = some (p i)) : impl_Group_those.f g F = some (kept g.length p) := by
  have hd := deleteFunc (F := fun z0 => (impl_Group_those_1.f z0 (fun u0 => (F u0).map fun z => z)).map fun z => z) (p := fun x => !p x.toNat) ((List.range g.length).map fun i : Nat => (i : Int)) (by rw [List.length_map, List.length_range]; exact hn) (fun x hx => by
    obtain ⟨i, hi, rfl⟩ := List.mem_map.1 hx
    have hi := List.mem_range.1 hi
    show Option.map _ (impl_Group_those_1.f (i : Int) _) = _
    rw [impl_Group_those_1.f_eq, hF i hi]
    simp)
  rw [impl_Group_those.f_eq, impl_order.f_eq, Option.bind_some, counting hn, Option.bind_some, hd, Option.bind_some, kept, List.filter_map]
  congr 2
  refine List.filter_congr fun i _ => ?_
  simp
end Go.Proofs.Ytdiadcmkddkjpaa.V
set_option linter.unusedVariables false
set_option linter.unusedSimpArgs false
set_option maxHeartbeats 2000000
set_option maxRecDepth 20000
namespace Go.Proofs.Ytdiadcmkddkjpaa.V
open Go.RowKit Go.Proofs.Ytdiadcmkddkjpaa.D Go.Proofs.Ytdiadcmkddkjpaa.P
structure Sq (e : List (List Int)) (N : Nat) : Prop where
  len : e.length = N
  row : ∀ a : Int, 0 ≤ a → a < N → (row e a).length = N
  ent : ∀ a b : Int, 0 ≤ a → a < N → 0 ≤ b → b < N → 0 ≤ T e a b ∧ T e a b < N
theorem Sq.times2 {e : List (List Int)} {N : Nat} (h : Sq e N) (one : ∀ a : Int, 0 ≤ a → a < N → T e 0 a = a) {x y : Int} (x0 : 0 ≤ x) (x1 : x < N) (y0 : 0 ≤ y) (y1 : y < N) : impl_Group_times.f e [x, y] = some (T e x y) := by
  have hl := h.len
  have h1 := one x x0 x1
  have r0 := h.row 0 (by omega) (by omega)
  have rx := h.row x x0 x1
  have q0 : rd [x, y] 0 = x := rfl
  have q1 : rd [x, y] 1 = y := rfl
  have w1 : wrapI (0 + 1) = 1 := w64 (by omega) (by omega)
  have w2 : wrapI (1 + 1) = 2 := w64 (by omega) (by omega)
  have ll : (([x, y] : List Int).length : Int) = 2 := rfl
  rw [impl_Group_times.f_eq, ll, impl_Group_times.l0_eq, ll, q0, w1, h1]
  (with_reducible repeat (first | refine go_pos (by first | assumption | omega | rfl | exact B_pos (by omega)) ?_ | refine go_neg (by first | assumption | omega | decide | exact B_not (by omega)) ?_ | refine go_bind (by first | assumption) ?_ | dsimp only))
  rw [impl_Group_times.l0_eq, ll, q1, w2]
  (with_reducible repeat (first | refine go_pos (by first | assumption | omega | rfl | exact B_pos (by omega)) ?_ | refine go_neg (by first | assumption | omega | decide | exact B_not (by omega)) ?_ | refine go_bind (by first | assumption) ?_ | dsimp only))
  rw [impl_Group_times.l0_eq]
  ((with_reducible repeat (first | refine go_pos (by first | assumption | omega | rfl | exact B_pos (by omega)) ?_ | refine go_neg (by first | assumption | omega | decide | exact B_not (by omega)) ?_ | refine go_bind (by first | assumption) ?_ | dsimp only)); first | done | (with_reducible rfl) | simp (disch := omega) only [w64] | (show False; done))
theorem ext_T {g : List (List Int)} {m : Int} {u v : List Int} {N : Nat} {p q : Nat} (hp : p < N) (hq : q < N) : row (extT g m u v N) (p : Int) = ((List.range N).map fun q : Nat => ext g m u v p q) ∧ T (extT g m u v N) (p : Int) (q : Int) = ext g m u v p q := by
  have h1 : row (extT g m u v N) (p : Int) = ((List.range N).map fun q : Nat => ext g m u v p q) := by
    rw [row_get (by rw [(extT_len g m u v N).1]; exact hp)]
    simp [extT]
  refine ⟨h1, ?_⟩
  show rd (row (extT g m u v N) (p : Int)) (q : Int) = _
  rw [h1, rd_get (by rw [List.length_map, List.length_range]; exact hq)]
  simp
theorem ext_sq {g : List (List Int)} (hg : Grp g) {m : Int} {u v : List Int} (hm : Mdl g m u) (hc : Co g m 2 v) {N : Nat} (hN : (N : Int) = g.length * m) : Sq (extT g m u v N) N ∧ (∀ a : Int, 0 ≤ a → a < N → T (extT g m u v N) 0 a = a) ∧ 0 < N := by
  have m2 := hm.m2; have n1 := hg.n1; have m12 := hm.m12
  have nm : m ≤ g.length * m := by
    have := Int.mul_le_mul_of_nonneg_right (show (1 : Int) ≤ g.length by omega) (show 0 ≤ m by omega)
    omega
  refine ⟨⟨(extT_len g m u v N).1, fun a a0 a1 => ?_, fun a b a0 a1 b0 b1 => ?_⟩, fun a a0 a1 => ?_, by omega⟩
  · obtain ⟨p, rfl⟩ := Int.eq_ofNat_of_zero_le a0
    rw [(ext_T (p := p) (q := p) (by omega) (by omega)).1, List.length_map, List.length_range]
  · obtain ⟨p, rfl⟩ := Int.eq_ofNat_of_zero_le a0
    obtain ⟨q, rfl⟩ := Int.eq_ofNat_of_zero_le b0
    rw [(ext_T (by omega) (by omega)).2, hN]
    exact (ext_w hg hm hc (p := p) (q := q) (by omega) (by omega) (by omega) (by omega)).2.2.2
  · obtain ⟨q, rfl⟩ := Int.eq_ofNat_of_zero_le a0
    have := (ext_T (g := g) (m := m) (u := u) (v := v) (p := 0) (q := q) (N := N) (by omega) (by omega)).2
    rw [Int.natCast_zero] at this
    rw [this]
    obtain ⟨y0, y1, b0, b1⟩ := parts (show 0 < m by omega) (show 0 ≤ (q : Int) by omega) (n := g.length) (by omega)
    have hu := hm.one hg
    have hAt : At g v [0, (q : Int) / m] = 0 := by
      unfold At
      rw [ite_neg]
      intro h
      exact h 0 (by omega) (by simp) rfl
    unfold ext
    rw [Int.zero_ediv, Int.zero_emod, hg.one _ y0 y1, hu, hAt, Int.zero_add, Int.one_mul, Int.add_zero, Int.emod_eq_of_lt b0 b1]
    have := Int.mul_ediv_add_emod (q : Int) m
    omega
def comm (e : List (List Int)) (N p : Nat) : Bool := (List.range N).all fun q => decide (T e (p : Int) (q : Int) = T e (q : Int) (p : Int))
theorem centre {e : List (List Int)} {N : Nat} (h : Sq e N) (one : ∀ a : Int, 0 ≤ a → a < N → T e 0 a = a) (hN : N ≤ 96) : impl_Group_centre.f e = some (kept N (comm e N)) := by
  have hl := h.len
  have hT := those (g := e) (by omega) (F := fun z0 => (impl_Group_centre_1.f z0 e).map fun z => z) (p := comm e N) (fun p hp => by
    have hp' : p < N := by omega
    have hI := indexFunc (F := fun z0 => (Option.map (fun z => z) (impl_Group_centre_1_1.f z0 e p)).map fun z => z) (p := fun x => !decide (T e x p = T e p x)) ((List.range N).map fun i : Nat => (i : Int)) (by rw [List.length_map, List.length_range]; omega) (fun x hx => by
      obtain ⟨i, hi, rfl⟩ := List.mem_map.1 hx
      have hi := List.mem_range.1 hi
      have t1 := h.times2 one (x := (p : Int)) (y := (i : Int)) (by omega) (by omega) (by omega) (by omega)
      have t2 := h.times2 one (x := (i : Int)) (y := (p : Int)) (by omega) (by omega) (by omega) (by omega)
      show Option.map _ (Option.map _ (impl_Group_centre_1_1.f (i : Int) e p)) = _
      rw [impl_Group_centre_1_1.f_eq]
      first
      | (rw [t1, Option.bind_some, t2]; simp [eq_comm]; done)
      | (rw [t2, Option.bind_some, t1]; simp; done))
    show Option.map _ (impl_Group_centre_1.f (p : Int) e) = _
    rw [impl_Group_centre_1.f_eq, impl_order.f_eq, Option.bind_some, hl, counting (by omega), Option.bind_some, slices_ContainsFunc_int64.f_eq]
    rcases hI with ⟨h1, h2⟩ | ⟨i, i1, h1, _, h2⟩
    · have hc : comm e N p = true := by
        unfold comm
        rw [List.all_eq_true]
        intro q hq
        have := h1 (q : Int) (List.mem_map.2 ⟨q, hq, rfl⟩)
        have h3 : T e (q : Int) p = T e p q := by simpa using this
        exact decide_eq_true h3.symm
      rw [h2, hc]
      rfl
    · rw [List.length_map, List.length_range] at i1
      have hri : rd ((List.range N).map fun i : Nat => (i : Int)) (i : Int) = (i : Int) := by
        rw [rd_get (by rw [List.length_map, List.length_range]; exact i1)]
        simp
      rw [hri] at h1
      have h3 : ¬ T e (i : Int) p = T e p i := by simpa using h1
      have hc : comm e N p = false := by
        unfold comm
        rw [List.all_eq_false]
        exact ⟨i, List.mem_range.2 i1, by simpa using fun q => h3 q.symm⟩
      rw [h2, hc]
      have : decide ((i : Int) ≥ 0) = true := decide_eq_true (by omega)
      simp only [Option.bind_some, this]
      rfl)
  rw [impl_Group_centre.f_eq, hT, Option.bind_some, hl]
theorem same_CentreOfExtension (g : List (List Int)) (m : Int) (u : List Int) (d : Int) (v : List Int) (hl : g.length ≤ maxLen) (hr : ∀ r ∈ g, r.length ≤ maxLen) (hu : u.length ≤ maxLen) (hv : v.length ≤ maxLen) :
    ∃ (R : List Int) (c : Int), spec_CentreOfExtension.f g m u d v = some (R, c) ∧ impl_CentreOfExtension.f g m u d v = some (R, c) ∧ R.length ≤ 1048576 := by
  rw [spec_CentreOfExtension.f_eq, impl_CentreOfExtension.f_eq]
  rcases factor g hl hr m u hu d v hv 64 with ⟨rfl, hg, hm, hc, _, _, cS, cI⟩ | ⟨c, c0, cS, cI⟩
  rotate_left
  · exact ⟨[], c, by ((with_reducible repeat (first | refine go_pos (by first | assumption | omega | rfl | exact B_pos (by omega)) ?_ | refine go_neg (by first | assumption | omega | decide | exact B_not (by omega)) ?_ | refine go_bind (by first | assumption) ?_ | dsimp only)); first | done | (with_reducible rfl) | simp (disch := omega) only [w64] | (show False; done)), by ((with_reducible repeat (first | refine go_pos (by first | assumption | omega | rfl | exact B_pos (by omega)) ?_ | refine go_neg (by first | assumption | omega | decide | exact B_not (by omega)) ?_ | refine go_bind (by first | assumption) ?_ | dsimp only)); first | done | (with_reducible rfl) | simp (disch := omega) only [w64] | (show False; done)), by simp⟩
  have m2 := hm.m2
  obtain ⟨N, hN⟩ : ∃ N : Nat, (N : Int) = g.length * m := ⟨((g.length : Int) * m).toNat, by rw [Int.toNat_of_nonneg (Int.mul_nonneg (by omega) (by omega))]⟩
  obtain ⟨hE, h96⟩ := extension hg hm hc hN
  have hT := Table_ hg hm hc hN
  obtain ⟨hs, one, N0⟩ := ext_sq hg hm hc hN
  obtain ⟨e, he⟩ : ∃ e, e = extT g m u v N := ⟨_, rfl⟩
  rw [← he] at hE hT hs one
  have hC := centre hs one h96
  have hle := hs.len
  have hk := kept_len N (comm e N)
  refine ⟨kept N (comm e N), 0, ?_, by ((with_reducible repeat (first | refine go_pos (by first | assumption | omega | rfl | exact B_pos (by omega)) ?_ | refine go_neg (by first | assumption | omega | decide | exact B_not (by omega)) ?_ | refine go_bind (by first | assumption) ?_ | dsimp only)); first | done | (with_reducible rfl) | simp (disch := omega) only [w64] | (show False; done)), by omega⟩
  have loop := up N (fun p => spec_CentreOfExtension.l0 e (p : Int) (kept p (comm e N))) (fun p hp => by
    have rp := hs.row p (by omega) (by omega)
    have inner := up N (fun q => spec_CentreOfExtension.l1 e (p : Int) ((List.range q).all fun q => decide (T e (p : Int) (q : Int) = T e (q : Int) (p : Int))) (q : Int) (kept p (comm e N))) (fun q hq => by
      have rq := hs.row q (by omega) (by omega)
      rw [List.range_succ, List.all_append, spec_CentreOfExtension.l1_eq, wn (j := q) (by omega)]
      cases hb : (List.range q).all fun q => decide (T e (p : Int) (q : Int) = T e (q : Int) (p : Int)) with
      | true =>
        (with_reducible repeat (first | refine go_pos (by first | assumption | omega | rfl | exact B_pos (by omega)) ?_ | refine go_neg (by first | assumption | omega | decide | exact B_not (by omega)) ?_ | refine go_bind (by first | assumption) ?_ | dsimp only))
        simp
      | false =>
        (with_reducible repeat (first | refine go_pos (by first | assumption | omega | rfl | exact B_pos (by omega)) ?_ | refine go_neg (by first | assumption | omega | decide | exact B_not (by omega)) ?_ | refine go_bind (by first | assumption) ?_ | dsimp only))
        simp)
    simp only [Int.natCast_zero, List.range_zero, List.all_nil] at inner
    have l1 := kept_len p (comm e N)
    have l2 : ∀ x : Int, ([x] : List Int).length = 1 := fun _ => rfl
    rw [kept_succ, spec_CentreOfExtension.l0_eq]
    (with_reducible repeat (first | refine go_pos (by first | assumption | omega | rfl | exact B_pos (by omega)) ?_ | refine go_neg (by first | assumption | omega | decide | exact B_not (by omega)) ?_ | refine go_bind (by first | assumption) ?_ | dsimp only))
    rw [inner, spec_CentreOfExtension.l1_eq, l2, wn (j := p) (by omega), show (List.range N).all (fun q => decide (T e (p : Int) (q : Int) = T e (q : Int) (p : Int))) = comm e N p from rfl]
    cases hb : comm e N p with
    | true =>
      rw [show (if (true : Bool) = true then [(p : Int)] else []) = [(p : Int)] from rfl]
      ((with_reducible repeat (first | refine go_pos (by first | assumption | omega | rfl | exact B_pos (by omega)) ?_ | refine go_neg (by first | assumption | omega | decide | exact B_not (by omega)) ?_ | refine go_bind (by first | assumption) ?_ | dsimp only)); first | done | (with_reducible rfl) | simp (disch := omega) only [w64] | (show False; done))
    | false =>
      rw [show (if (false : Bool) = true then [(p : Int)] else []) = [] from rfl, List.append_nil]
      ((with_reducible repeat (first | refine go_pos (by first | assumption | omega | rfl | exact B_pos (by omega)) ?_ | refine go_neg (by first | assumption | omega | decide | exact B_not (by omega)) ?_ | refine go_bind (by first | assumption) ?_ | dsimp only)); first | done | (with_reducible rfl) | simp (disch := omega) only [w64] | (show False; done)))
  have k0 : kept 0 (comm e N) = [] := rfl
  simp only [Int.natCast_zero, k0] at loop
  (with_reducible repeat (first | refine go_pos (by first | assumption | omega | rfl | exact B_pos (by omega)) ?_ | refine go_neg (by first | assumption | omega | decide | exact B_not (by omega)) ?_ | refine go_bind (by first | assumption) ?_ | dsimp only))
  rw [loop, spec_CentreOfExtension.l0_eq]
  ((with_reducible repeat (first | refine go_pos (by first | assumption | omega | rfl | exact B_pos (by omega)) ?_ | refine go_neg (by first | assumption | omega | decide | exact B_not (by omega)) ?_ | refine go_bind (by first | assumption) ?_ | dsimp only)); first | done | (with_reducible rfl) | simp (disch := omega) only [w64] | (show False; done))
end Go.Proofs.Ytdiadcmkddkjpaa.V
set_option linter.unusedVariables false
set_option linter.unusedSimpArgs false
set_option maxHeartbeats 4000000
set_option maxRecDepth 20000
namespace Go.Proofs.Ytdiadcmkddkjpaa.Pure
open Go.RowKit Go.Proofs.Ytdiadcmkddkjpaa.D Go.Proofs.Ytdiadcmkddkjpaa.P Go.Proofs.Ytdiadcmkddkjpaa.V
theorem FnExactCentreOfExtension_pure : ∀ (g0 : List (List Int)) (m1 : Int) (u1 : List Int) (m2 : Int) (u2 : List Int), g0.length ≤ maxLen → (∀ r ∈ g0, r.length ≤ maxLen ∧ ∀ x ∈ r, (Lit.int .i64 x).wf = true) → (Lit.int .i64 m1).wf = true → u1.length ≤ maxLen → (∀ x ∈ u1, (Lit.int .i64 x).wf = true) → (Lit.int .i64 m2).wf = true → u2.length ≤ maxLen → (∀ x ∈ u2, (Lit.int .i64 x).wf = true) → laws_FnExactCentreOfExtension.f g0 m1 u1 m2 u2 = some true := by
  intro g0 m1 u1 m2 u2 hl0 hq0 hw1 hu1 hx1 hw2 hu2 hx2
  have hr0 : ∀ r ∈ g0, r.length ≤ maxLen := fun r h => (hq0 r h).1
  rw [laws_FnExactCentreOfExtension.f_eq]
  obtain ⟨t0, e0, z0⟩ := szGroup g0 1048576 hl0 hr0 (by omega) (by omega)
  rcases z0 with z0 | ⟨ta0, tb0, kl0, kr0⟩
  · ((with_reducible repeat (first | refine go_pos (by first | assumption | omega | rfl | exact B_pos (by omega)) ?_ | refine go_neg (by first | assumption | omega | decide | exact B_not (by omega)) ?_ | refine go_bind (by first | assumption) ?_ | dsimp only)); first | done | (with_reducible rfl) | simp (disch := omega) only [w64] | (show False; done))
  obtain ⟨t1, e1, z1⟩ := szModule m1 u1 t0 hu1 (by omega) (by omega)
  rcases z1 with z1 | ⟨ta1, tb1, ku1⟩
  · ((with_reducible repeat (first | refine go_pos (by first | assumption | omega | rfl | exact B_pos (by omega)) ?_ | refine go_neg (by first | assumption | omega | decide | exact B_not (by omega)) ?_ | refine go_bind (by first | assumption) ?_ | dsimp only)); first | done | (with_reducible rfl) | simp (disch := omega) only [w64] | (show False; done))
  obtain ⟨t2, e2, z2⟩ := szCochain m2 u2 t1 hu2 (by omega) (by omega)
  rcases z2 with z2 | ⟨ta2, tb2, ku2⟩
  · ((with_reducible repeat (first | refine go_pos (by first | assumption | omega | rfl | exact B_pos (by omega)) ?_ | refine go_neg (by first | assumption | omega | decide | exact B_not (by omega)) ?_ | refine go_bind (by first | assumption) ?_ | dsimp only)); first | done | (with_reducible rfl) | simp (disch := omega) only [w64] | (show False; done))
  obtain ⟨R0, c1, hS, hI, rb0⟩ := same_CentreOfExtension g0 m1 u1 m2 u2 hl0 hr0 hu1 hu2
  have eT0 := toGroup g0 kl0 kr0
  have eS0 := same_Group g0 hl0 hr0
  have eN0 := tot_small kl0 kr0
  have eK0 := markGroup g0 (1) (by omega) (by omega) (by omega)
  have eT1 := toModule m1 u1 ku1
  have eS1 := same_Module m1 u1 hu1
  have eK1 := markModule m1 u1 (1 + tot g0) (by omega) (by omega)
  have eT2 := toCochain m2 u2 ku2
  have eS2 := same_Cochain m2 u2 hu2
  have eK2 := markCochain m2 u2 (1 + tot g0 + u1.length) (by omega) (by omega)
  have rS0 := same_Ints R0 (le_maxLen (by omega))
  have rK0 := markS R0 (1) (by omega) (by omega)
  have rH0 := heldS (1) R0.length (by omega) (by omega)
  ((with_reducible repeat (first | refine go_pos (by first | assumption | omega | rfl | exact B_pos (by omega)) ?_ | refine go_neg (by first | assumption | omega | decide | exact B_not (by omega)) ?_ | refine go_bind (by first | assumption) ?_ | dsimp only)); first | done | (with_reducible rfl) | simp (disch := omega) only [w64] | (show False; done))
end Go.Proofs.Ytdiadcmkddkjpaa.Pure
set_option linter.unusedVariables false
namespace Go.Proofs.Ytdiadcmkddkjpaa.D
open Go Go.RowKit
theorem valid_view {P : Program} {g : FuncId} {c : Con} (hv : Valid P g c) {x : lsd (flats c.ins)} {r : c.R} (hx : c.f x = some r) {w : World} {vs : List Value} (ha : ASRs P (fun _ => False) (fun k => k < w.heap.size) w c.ins x vs (fun _ => False)) :
    Calls P g vs.toArray w fun e w' => ∃ u, e = .returned u ∧ Below w.heap.size w w' ∧ ∃ Z' Fo us, u = outV us ∧ ASRs P (fun _ => False) Z' w' c.outs (c.dec r).1 us Fo := by
  refine (hv.2 x r hx (fun k => k < w.heap.size) (fun _ => False) (fun _ => False) w vs ha (fun _ h => h.elim) (fun _ h => h) (fun _ h => h.elim)).mono ?_
  rintro e w' ⟨u, rfl, Z', Fi, Fo, hp⟩
  obtain ⟨us, hu, ho⟩ := hp.out
  exact ⟨u, rfl, ⟨hp.os, hp.tape, hp.output, hp.size, fun k hk => hp.old k hk fun h => h⟩, Z', Fo, us, hu, ho⟩
theorem cell_lt {w : World} {a : Addr} {v : Value} (h : w.cell? a = some v) : a.block < w.heap.size := by
  unfold World.cell? at h
  cases hb : w.heap[a.block]? with
  | none => rw [hb] at h; cases h
  | some o => exact (Array.getElem?_eq_some_iff.1 hb).1
theorem view_raw {α : Type} {w : World} {sz : Nat} {R : α → List Value → Prop} {A : Option Addr} {c : Nat} {xs : List α} (hz : 0 < sz) (hc : xs.length ≤ c) (hm : xs.length ≤ 9223372036854775807)
    (h : 0 < xs.length → ∃ ad, A = some ad ∧ ∀ (j : Nat) (p : α), xs[j]? = some p → ∃ cs, cs.length = sz ∧ R p cs ∧ ∀ (i : Nat) (u : Value), cs[i]? = some u → w.cell? (ad.add (j * sz + i)) = some u) : ViewRep (fun k => k < w.heap.size) w sz R A c xs := by
  refine ⟨hc, hm, fun hl => ?_⟩
  obtain ⟨ad, rfl, hcell⟩ := h hl
  refine ⟨ad, rfl, ?_, hcell⟩
  obtain ⟨cs, h1, h2, h3⟩ := hcell 0 xs[0] (List.getElem?_eq_getElem hl)
  have := cell_lt (h3 0 cs[0] (List.getElem?_eq_getElem (by omega)))
  rwa [add_block] at this
theorem law_true {P : Program} {g : FuncId} {c : Con} (hv : Valid P g c) {x : lsd (flats c.ins)} {r : c.R} (hx : c.f x = some r) {w : World} {vs : List Value} (ha : ASRs P (fun _ => False) (fun k => k < w.heap.size) w c.ins x vs (fun _ => False)) (ho : c.outs = [.one (.v .bool)]) (hr : ∀ y : lsd (flats [.one (.v .bool)]), HEq y (c.dec r).1 → y.1 = true) :
    Calls P g vs.toArray w fun e w' => e = .returned (.bool true) ∧ Below w.heap.size w w' := by
  refine (valid_view hv hx ha).mono ?_
  rintro e w' ⟨u, rfl, hb, Z', Fo, us, rfl, hh⟩
  refine ⟨?_, hb⟩
  obtain ⟨ins, outs, R, f, dec⟩ := c
  have ho : outs = [.one (.v .bool)] := ho
  subst ho
  obtain ⟨v, vs', F0, F1, rfl, h1, h2, _⟩ := hh
  cases h2
  have h1 : [v] = [.bool (dec r).1.1] := h1
  have hb1 : (dec r).1.1 = true := hr _ HEq.rfl
  cases h1
  rw [hb1]
  rfl
end Go.Proofs.Ytdiadcmkddkjpaa.D
set_option linter.unusedVariables false
namespace Go.Proofs.Ytdiadcmkddkjpaa.D
open Go Go.RowKit Go.ChangeShapes Go.WideShapes Go.Joins Go.Deep
section
variable {H : Type} {enc : TypeId × Value → H} {P : Program} {w : World} {base : Nat} {held : Bool}
abbrev Zw (w : World) : Nat → Prop := fun k => k < w.heap.size
abbrev No : Nat → Prop := fun _ => False
theorem rep_ints {q : TypeId} {k : IntKind} {a : Addr} {len cap : Nat} {zs : List Int} (hl : len ≤ cap) (hm : cap ≤ maxLen) (hz : zs.length = cap) (hc : ∀ i, i < zs.length → w.cell? (a.add i) = some (.int k (zs.getD i 0))) (hw : ∀ n ∈ zs, (Lit.int k n).wf = true) :
    ∃ l : List Int, len = l.length ∧ l.length ≤ maxLen ∧ (∀ x ∈ l, (Lit.int k x).wf = true) ∧ Rep (Zw w) w false (.sl q (.int k)) l [.slice (some a) len cap] No := by
  have hlen : (zs.take len).length = len := by rw [List.length_take]; omega
  refine ⟨zs.take len, hlen.symm, by omega, fun x hx => hw x (List.mem_of_mem_take hx), some a, cap, by rw [hlen], ?_⟩
  refine view_raw Nat.one_pos (by show (zs.take len).length ≤ _; omega) (by show (zs.take len).length ≤ _; simp only [maxLen] at hm; omega) fun _ => ⟨a, rfl, fun j p hj => ?_⟩
  have hj : (zs.take len)[j]? = some p := hj
  have hjl : j < len := by
    have := (List.getElem?_eq_some_iff.1 hj).1
    omega
  refine ⟨[.int k p], rfl, rfl, fun i u hu => ?_⟩
  cases i with
  | zero =>
    simp only [List.getElem?_cons_zero, Option.some.injEq] at hu
    subst hu
    have h := hc j (by omega)
    have hp : zs.getD j 0 = p := by
      rw [List.getElem?_take] at hj
      simp only [hjl, if_true] at hj
      simp [List.getD, hj]
    rw [hp] at h
    simpa [Ty.size] using h
  | succ i => simp at hu
theorem rep_none {q : TypeId} {t : Ty} : Rep (Zw w) w false (.sl q t) ([] : List t.den) [.slice none 0 0] No :=
  ⟨none, 0, rfl, Nat.le_refl _, Nat.zero_le _, fun h => absurd h (by simp)⟩
theorem come_ints {t e : TypeId} {k : IntKind} {fuel : Nat} {v : Value} {x : DataW H × List MemPlace} (ht : P.underlying t = some (.slice e)) (he : P.underlying e = some (.int k)) (hc : P.cellsOf e = 1)
    (h : DataW.trod enc P w base (fun _ => true) held fuel t [v] = some x) :
    ∃ l : List Int, l.length ≤ maxLen ∧ (∀ x ∈ l, (Lit.int k x).wf = true) ∧ Rep (Zw w) w false (.sl e (.int k)) l [v] No := by
  rcases open_ints ht he hc h with ⟨hcs, _⟩ | ⟨a, len, cap, zs, hcs, _, hl, hm, hz, _, hcell, hw⟩
  · refine ⟨[], by simp, by simp, ?_⟩
    rw [hcs]
    exact rep_none
  · simp only [if_true] at hz
    obtain ⟨l, h1, h2, h3, h4⟩ := rep_ints (q := e) hl hm hz hcell hw
    exact ⟨l, h2, h3, by rw [hcs]; exact h4⟩
theorem come_rows {t e q : TypeId} {k : IntKind} {fuel : Nat} {v : Value} {x : DataW H × List MemPlace} (ht : P.underlying t = some (.slice e)) (he : P.underlying e = some (.slice q)) (hq : P.underlying q = some (.int k))
    (ce : P.cellsOf e = 1) (cq : P.cellsOf q = 1) (h : DataW.trod enc P w base (fun _ => true) held fuel t [v] = some x) :
    ∃ l : List (List Int), l.length ≤ maxLen ∧ (∀ r ∈ l, r.length ≤ maxLen ∧ ∀ x ∈ r, (Lit.int k x).wf = true) ∧ Rep (Zw w) w false (.sl e (.sl q (.int k))) l [v] No := by
  rcases open_int_rows ht he hq ce cq h with ⟨hcs, _⟩ | ⟨a, len, cap, A, L, C, Z, hcs, _, hl, hm, _, hr⟩
  · refine ⟨[], by simp, by simp, ?_⟩
    rw [hcs]
    exact rep_none
  · have each : ∀ r, r < cap → ∃ y : List Int, y.length ≤ maxLen ∧ (∀ x ∈ y, (Lit.int k x).wf = true) ∧ Rep (Zw w) w false (.sl q (.int k)) y [.slice (A r) (L r) (C r)] No := by
      intro r hrc
      obtain ⟨_, h1, h2, h3, h4, h5, h6⟩ := hr r hrc
      cases hA : A r with
      | none =>
        have hC := h5 hA
        refine ⟨[], by simp, by simp, ?_⟩
        have hL : L r = 0 := by omega
        rw [hL, hC]
        exact rep_none
      | some a' =>
        obtain ⟨l, _, h7, h8, h9⟩ := rep_ints (q := q) h1 h2 h3 (fun i hi => (h6 a' hA).2 i (by omega)) h4
        exact ⟨l, h7, h8, h9⟩
    obtain ⟨Y, hY⟩ := choose_lt each
    have hlen : ((List.range len).map Y).length = len := by simp
    refine ⟨(List.range len).map Y, by omega, fun r hr' => ?_, ?_⟩
    · obtain ⟨j, hj, rfl⟩ := List.mem_map.1 hr'
      obtain ⟨h1, h2, _⟩ := hY j (by have := List.mem_range.1 hj; omega)
      exact ⟨h1, h2⟩
    · rw [hcs]
      refine ⟨some a, cap, by rw [hlen], ?_⟩
      refine view_raw Nat.one_pos (by show ((List.range len).map Y).length ≤ _; omega) (by show ((List.range len).map Y).length ≤ _; simp only [maxLen] at hm; omega) fun _ => ⟨a, rfl, fun j p hj => ?_⟩
      have hj : ((List.range len).map Y)[j]? = some p := hj
      have hjl : j < len := by
        have := (List.getElem?_eq_some_iff.1 hj).1
        omega
      have hp : p = Y j := by simpa [hjl] using hj.symm
      subst hp
      obtain ⟨h1, h2, h3⟩ := hY j (by omega)
      refine ⟨[.slice (A j) (L j) (C j)], rfl, h3, fun i u hu => ?_⟩
      cases i with
      | zero =>
        simp only [List.getElem?_cons_zero, Option.some.injEq] at hu
        subst hu
        have := (hr j (by omega)).1
        simpa [Ty.size] using this
      | succ i => simp at hu
theorem come_int {t : TypeId} {k : IntKind} {fuel : Nat} {v : Value} {x : DataW H × List MemPlace} (ht : P.underlying t = some (.int k)) (h : DataW.trod enc P w base (fun _ => true) held fuel t [v] = some x) : ∃ n : Int, (Lit.int k n).wf = true ∧ Rep (Zw w) w false (.int k) n [v] No := by
  obtain ⟨n, h1, _, h2⟩ := DataW.trod_int ht h
  exact ⟨n, h2, h1⟩
theorem open_agg1 {r : Reach} {b0 : Nat} {t : TypeId} {f0 : Field} {v : Value} {d : DataW H} {p : List MemPlace} {spare : Nat → Bool} (hs : P.underlying t = some (.struct #[f0])) (hone : oneCellFields P #[f0] = true) (hC : P.cellsOf t = 1)
    (hv : Value.okWide P w r b0 t v) (h : DataW.Trod enc P w base spare held t v d p) :
    ∃ (v0 : Value) (y0 : DataW H × List MemPlace) (n : Nat), v = .agg #[v0] ∧ DataW.trod enc P w base spare held n f0.type [v0] = some y0 := by
  obtain ⟨cs, rfl, hsz⟩ := okWide_struct hs hv
  have hsz1 : cs.size = 1 := hsz.trans hC
  obtain ⟨c0, rfl⟩ : ∃ c0, cs = #[c0] := by
    obtain ⟨l⟩ := cs
    match l, hsz1 with
    | [c0], _ => exact ⟨c0, rfl⟩
  obtain ⟨fuel, hf⟩ := h
  obtain ⟨y0, n, hx, _, h0⟩ := trod_struct1 hs hf
  obtain ⟨o0, k0⟩ := hone_of hone 0 f0 rfl
  exact ⟨c0, y0, n, rfl, by simpa [Value.cells, o0, k0] using h0⟩
theorem args_nil : ASRs P No (Zw w) w [] () [] No := rfl
theorem args_agg1 {t : Ty} {x : t.den} {v : Value} {ins : List ASh} {y : lsd (flats ins)} {vs : List Value} (h : Rep (Zw w) w false t x [v] No) (hr : ASRs P No (Zw w) w ins y vs No) : ASRs P No (Zw w) w (.agg [.v t] :: ins) (x, y) (.agg #[v] :: vs) No :=
  ⟨.agg #[v], vs, No, No, rfl, ⟨[v], rfl, v, [], No, No, rfl, h, rfl, fun _ h => h, fun _ h => h, fun _ h => h.elim⟩, hr, fun _ h => h, fun _ h => h, fun _ h => h.elim⟩
theorem args_agg2 {t t' : Ty} {x : t.den} {x' : t'.den} {v v' : Value} {ins : List ASh} {y : lsd (flats ins)} {vs : List Value} (h : Rep (Zw w) w false t x [v] No) (h' : Rep (Zw w) w false t' x' [v'] No) (hr : ASRs P No (Zw w) w ins y vs No) : ASRs P No (Zw w) w (.agg [.v t, .v t'] :: ins) (x, x', y) (.agg #[v, v'] :: vs) No :=
  ⟨.agg #[v, v'], vs, No, No, rfl, ⟨[v, v'], rfl, v, [v'], No, No, rfl, h, ⟨v', [], No, No, rfl, h', rfl, fun _ h => h, fun _ h => h, fun _ h => h.elim⟩, fun _ h => h, fun _ h => h, fun _ h => h.elim⟩, hr, fun _ h => h, fun _ h => h, fun _ h => h.elim⟩
end
end Go.Proofs.Ytdiadcmkddkjpaa.D
