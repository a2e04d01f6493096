/- What the proof of the law ConjugateComplement stands on, part 7: words, each Go function's Lean function, and that the Go code comes to its answers; no condition. (Packed by wip/myprint/pack.py out of what the kit's printer wrote, its words among it, partly by our patches of it, and out of texts of this session.) -/
import Derived.Test.YtdiadcmkddkjpaaKConjugateComplement3
import Derived.Test.YtdiadcmkddkjpaaKConjugateComplement4
import Derived.Test.YtdiadcmkddkjpaaKConjugateComplement6
set_option linter.unusedVariables false
set_option linter.unusedSimpArgs false
set_option maxHeartbeats 2000000
set_option maxRecDepth 20000
namespace Go.Proofs.Ytdiadcmkddkjpaa.V
open Go.RowKit Go.Proofs.Ytdiadcmkddkjpaa.D Go.Proofs.Ytdiadcmkddkjpaa.P
theorem same_ConjugateComplement (g : List (List Int)) (m : Int) (u ps : List Int) (c : Int) (hl : g.length ≤ maxLen) (hr : ∀ r ∈ g, r.length ≤ maxLen) (hu : u.length ≤ maxLen) (hpl : ps.length ≤ 1048576) :
    ∃ (R : List Int) (e : Int), spec_ConjugateComplement.f g m u ps c = some (R, e) ∧ impl_ConjugateComplement.f g m u ps c = some (R, e) ∧ R.length ≤ 1048576 := by
  have hp : ps.length ≤ maxLen := le_maxLen (by omega)
  rcases pairs_codes g hl hr m u hu ps hp with ⟨hg, hm, ha, cI, cS⟩ | ⟨e, e0, cI, cS⟩
  rotate_left
  · exact ⟨[], e, by rw [spec_ConjugateComplement.f_eq]; ((with_reducible repeat (first | refine go_pos (by first | assumption | omega | rfl | exact B_pos (by omega)) ?_ | refine go_neg (by first | assumption | omega | decide | exact B_not (by omega)) ?_ | refine go_bind (by first | assumption) ?_ | dsimp only)); first | done | (with_reducible rfl) | simp (disch := omega) only [w64] | (show False; done)), by rw [impl_ConjugateComplement.f_eq]; ((with_reducible repeat (first | refine go_pos (by first | assumption | omega | rfl | exact B_pos (by omega)) ?_ | refine go_neg (by first | assumption | omega | decide | exact B_not (by omega)) ?_ | refine go_bind (by first | assumption) ?_ | dsimp only)); first | done | (with_reducible rfl) | simp (disch := omega) only [w64] | (show False; done)), by simp⟩
  have n8 := hg.n8; have m2 := hm.m2; have m12 := hm.m12; have n1 := hg.n1; have hlu := hm.len
  have hA := areIn m [c] (le_maxLen (by simp))
  have hw : wrapI (m - 1) = m - 1 := w64 (by omega) (by omega)
  by_cases h : 0 ≤ c ∧ c < m
  rotate_left
  · rw [B_neg fun k => h (allIn_one_iff.1 k)] at hA
    refine ⟨[], 2, ?_, ?_, by simp⟩
    · rw [spec_ConjugateComplement.f_eq, hw]; ((with_reducible repeat (first | refine go_pos (by first | assumption | omega | rfl | exact B_pos (by omega)) ?_ | refine go_neg (by first | assumption | omega | decide | exact B_not (by omega)) ?_ | refine go_bind (by first | assumption | exact In_ _ _ _) ?_ | dsimp only)); first | done | (with_reducible rfl) | simp (disch := omega) only [w64] | (show False; done))
    · rw [impl_ConjugateComplement.f_eq]; ((with_reducible repeat (first | refine go_pos (by first | assumption | omega | rfl | exact B_pos (by omega)) ?_ | refine go_neg (by first | assumption | omega | decide | exact B_not (by omega)) ?_ | refine go_bind (by first | assumption) ?_ | dsimp only)); first | done | (with_reducible rfl) | simp (disch := omega) only [w64] | (show False; done))
  rw [B_pos (allIn_one_iff.2 h)] at hA
  have hS := Complement_ hg hm ha
  obtain ⟨b0, b1⟩ := nm_bd hg hm
  by_cases h2 : Comp g m u ps
  rotate_left
  · rw [B_neg h2] at hS
    refine ⟨[], 5, ?_, ?_, by simp⟩
    · rw [spec_ConjugateComplement.f_eq, hw]; ((with_reducible repeat (first | refine go_pos (by first | assumption | omega | rfl | exact B_pos (by omega)) ?_ | refine go_neg (by first | assumption | omega | decide | exact B_not (by omega)) ?_ | refine go_bind (by first | assumption | exact In_ _ _ _) ?_ | dsimp only)); first | done | (with_reducible rfl) | simp (disch := omega) only [w64] | (show False; done))
    · rw [impl_ConjugateComplement.f_eq]
      have hI := isComplement hg hm ha hpl
      rw [B_neg h2] at hI
      ((with_reducible repeat (first | refine go_pos (by first | assumption | omega | rfl | exact B_pos (by omega)) ?_ | refine go_neg (by first | assumption | omega | decide | exact B_not (by omega)) ?_ | refine go_bind (by first | assumption) ?_ | dsimp only)); first | done | (with_reducible rfl) | simp (disch := omega) only [w64] | (show False; done))
  have hI := isComplement hg hm ha hpl
  rw [B_pos h2] at hS hI
  have hback : (wrapI (m - c)).tmod m = (0 - c) % m := by
    rw [w64 (by omega) (by omega), tmod_nn (by omega), show m - c = m + (0 - c) by omega, Int.add_emod_left]
  obtain ⟨bk, hbk⟩ : ∃ bk, bk = (0 - c) % m := ⟨_, rfl⟩
  have k0 : 0 ≤ bk := by rw [hbk]; exact Int.emod_nonneg _ (by omega)
  have k1 : bk < m := by rw [hbk]; exact Int.emod_lt_of_pos _ (by omega)
  have hmod := Mod_ (a := 0 - c) (m := m) (by omega) (by omega) (by omega) (by omega)
  rw [← hbk] at hback hmod
  have nm : m ≤ g.length * m := by
    have := Int.mul_le_mul_of_nonneg_right (show (1 : Int) ≤ g.length by omega) (show 0 ≤ m by omega)
    omega
  have one : ∀ p, p ∈ ps → (0 ≤ PP g m u c p ∧ PP g m u c p < g.length * m) ∧ impl_pairProduct.f g m u c p = some (PP g m u c p) ∧ spec_l05Times.f g m u c p = some (PP g m u c p) ∧
      PP g m u (PP g m u c p) bk / m = p / m ∧ impl_pairProduct.f g m u (PP g m u c p) bk = some (PP g m u (PP g m u c p) bk) ∧ spec_l05Times.f g m u (PP g m u c p) bk = some (PP g m u (PP g m u c p) bk) := fun p hp => by
    obtain ⟨p0, p1⟩ := ha.mem hp
    obtain ⟨x0, x1, _, _⟩ := pair_parts (show 0 < m by omega) p0 p1
    obtain ⟨f1, f2, f3, f4⟩ := PP_facts hg hm (p := c) (q := p) (by omega) (by omega) p0 p1
    obtain ⟨_, g2, g3, g4⟩ := PP_facts hg hm (p := PP g m u c p) (q := bk) f1.1 f1.2 (by omega) (by omega)
    refine ⟨f1, f3, f4, ?_, g3, g4⟩
    rw [g2, f2, Int.ediv_eq_zero_of_lt h.1 h.2, Int.ediv_eq_zero_of_lt k0 k1, hg.one _ x0 x1, hg.one' _ x0 x1]
  obtain ⟨V, hV⟩ : ∃ V : Int → Int, ∀ p, V p = PP g m u (PP g m u c p) bk := ⟨_, fun _ => rfl⟩
  have hlen : (ps.map V).length = ps.length := List.length_map ..
  have h12 : ps.length ≤ 12 := by have := h2.1; omega
  have hsort : (ps.map V).Pairwise (· < ·) := by
    rw [List.pairwise_iff_getElem]
    intro i j hi hj hij
    rw [hlen] at hi hj
    rw [List.getElem_map, List.getElem_map]
    have e1 := h2.2.1 i (by omega) (by omega)
    have e2 := h2.2.1 j (by omega) (by omega)
    rw [rd_get hi] at e1
    rw [rd_get hj] at e2
    have q1 := (one ps[i] (List.getElem_mem hi)).2.2.2.1
    have q2 := (one ps[j] (List.getElem_mem hj)).2.2.2.1
    rw [← hV, e1] at q1
    rw [← hV, e2] at q2
    by_cases hc : V ps[i] < V ps[j]
    · exact hc
    · have := Int.ediv_le_ediv (show 0 < m by omega) (show V ps[j] ≤ V ps[i] by omega)
      omega
  refine ⟨ps.map V, 0, ?_, ?_, by omega⟩
  · have l2 : ∀ x : Int, ([x] : List Int).length = 1 := fun _ => rfl
    have loop := up ps.length (fun i => spec_ConjugateComplement.l0 ps c (i : Int) g m u ((ps.take i).map V)) (fun i hi => by
      obtain ⟨_, _, f4, _, _, g4⟩ := one (rd ps i) (rd_mem (by omega) (by omega))
      have l1 : ((ps.take i).map V).length = i := by rw [List.length_map, List.length_take]; omega
      rw [take_rd hi, List.map_append, List.map_singleton, hV, spec_ConjugateComplement.l0_eq, f4, Option.bind_some, w64 (x := 0 - c) (by omega) (by omega), hmod, Option.bind_some, g4, Option.bind_some, l1, l2, wn (j := i) (by omega)]
      clear f4 g4
      ((with_reducible repeat (first | refine go_pos (by first | assumption | omega | rfl | exact B_pos (by omega)) ?_ | refine go_neg (by first | assumption | omega | decide | exact B_not (by omega)) ?_ | refine go_bind (by first | assumption) ?_ | dsimp only)); first | done | (with_reducible rfl) | simp (disch := omega) only [w64] | (show False; done)))
    simp only [Int.natCast_zero, List.take_zero, List.map_nil, List.take_length] at loop
    rw [spec_ConjugateComplement.f_eq, hw]
    (with_reducible repeat (first | refine go_pos (by first | assumption | omega | rfl | exact B_pos (by omega)) ?_ | refine go_neg (by first | assumption | omega | decide | exact B_not (by omega)) ?_ | refine go_bind (by first | assumption | exact In_ _ _ _) ?_ | dsimp only))
    rw [loop, spec_ConjugateComplement.l0_eq]
    ((with_reducible repeat (first | refine go_pos (by first | assumption | omega | rfl | exact B_pos (by omega)) ?_ | refine go_neg (by first | assumption | omega | decide | exact B_not (by omega)) ?_ | refine go_bind (by first | assumption) ?_ | dsimp only)); first | done | (with_reducible rfl) | simp (disch := omega) only [w64] | (show False; done))
  · have hmp := mapped (F := fun z0 => (impl_ConjugateComplement_1.f z0 g m u c bk).map fun z => z) (G := V) ps hpl (fun p hp => by
      obtain ⟨_, f3, _, _, g3, _⟩ := one p hp
      have : impl_ConjugateComplement_1.f p g m u c bk = some (V p) := by rw [impl_ConjugateComplement_1.f_eq, hV]; ((with_reducible repeat (first | refine go_pos (by first | assumption | omega | rfl | exact B_pos (by omega)) ?_ | refine go_neg (by first | assumption | omega | decide | exact B_not (by omega)) ?_ | refine go_bind (by first | assumption) ?_ | dsimp only)); first | done | (with_reducible rfl) | simp (disch := omega) only [w64] | (show False; done))
      show Option.map _ (impl_ConjugateComplement_1.f p g m u c bk) = _
      rw [this]; rfl)
    have hso := sort_sorted (xs := ps.map V) (by omega) hsort
    rw [impl_ConjugateComplement.f_eq, hback]
    ((with_reducible repeat (first | refine go_pos (by first | assumption | omega | rfl | exact B_pos (by omega)) ?_ | refine go_neg (by first | assumption | omega | decide | exact B_not (by omega)) ?_ | refine go_bind (by first | assumption) ?_ | dsimp only)); first | done | (with_reducible rfl) | simp (disch := omega) only [w64] | (show False; done))
end Go.Proofs.Ytdiadcmkddkjpaa.V
set_option linter.unusedVariables false
set_option linter.unusedSimpArgs false
set_option maxHeartbeats 4000000
set_option maxRecDepth 20000
namespace Go.Proofs.Ytdiadcmkddkjpaa.Pure
open Go.RowKit Go.Proofs.Ytdiadcmkddkjpaa.D Go.Proofs.Ytdiadcmkddkjpaa.P Go.Proofs.Ytdiadcmkddkjpaa.V
theorem FnExactConjugateComplement_pure : ∀ (g0 : List (List Int)) (m1 : Int) (u1 : List Int) (u2 : List Int) (a3 : Int), g0.length ≤ maxLen → (∀ r ∈ g0, r.length ≤ maxLen ∧ ∀ x ∈ r, (Lit.int .i64 x).wf = true) → (Lit.int .i64 m1).wf = true → u1.length ≤ maxLen → (∀ x ∈ u1, (Lit.int .i64 x).wf = true) → u2.length ≤ maxLen → (∀ x ∈ u2, (Lit.int .i64 x).wf = true) → (Lit.int .i64 a3).wf = true → laws_FnExactConjugateComplement.f g0 m1 u1 u2 a3 = some true := by
  intro g0 m1 u1 u2 a3 hl0 hq0 hw1 hu1 hx1 hu2 hx2 hw3
  have hr0 : ∀ r ∈ g0, r.length ≤ maxLen := fun r h => (hq0 r h).1
  rw [laws_FnExactConjugateComplement.f_eq]
  by_cases ku2 : u2.length ≤ 1048576
  rotate_left
  · ((with_reducible repeat (first | refine go_pos (by first | assumption | omega | rfl | exact B_pos (by omega)) ?_ | refine go_neg (by first | assumption | omega | decide | exact B_not (by omega)) ?_ | refine go_bind (by first | assumption) ?_ | dsimp only)); first | done | (with_reducible rfl) | simp (disch := omega) only [w64] | (show False; done))
  obtain ⟨t0, e0, z0⟩ := szGroup g0 1048576 hl0 hr0 (by omega) (by omega)
  rcases z0 with z0 | ⟨ta0, tb0, kl0, kr0⟩
  · ((with_reducible repeat (first | refine go_pos (by first | assumption | omega | rfl | exact B_pos (by omega)) ?_ | refine go_neg (by first | assumption | omega | decide | exact B_not (by omega)) ?_ | refine go_bind (by first | assumption) ?_ | dsimp only)); first | done | (with_reducible rfl) | simp (disch := omega) only [w64] | (show False; done))
  obtain ⟨t1, e1, z1⟩ := szModule m1 u1 t0 hu1 (by omega) (by omega)
  rcases z1 with z1 | ⟨ta1, tb1, ku1⟩
  · ((with_reducible repeat (first | refine go_pos (by first | assumption | omega | rfl | exact B_pos (by omega)) ?_ | refine go_neg (by first | assumption | omega | decide | exact B_not (by omega)) ?_ | refine go_bind (by first | assumption) ?_ | dsimp only)); first | done | (with_reducible rfl) | simp (disch := omega) only [w64] | (show False; done))
  obtain ⟨R0, c1, hS, hI, rb0⟩ := same_ConjugateComplement g0 m1 u1 u2 a3 hl0 hr0 hu1 ku2
  have eT0 := toGroup g0 kl0 kr0
  have eS0 := same_Group g0 hl0 hr0
  have eN0 := tot_small kl0 kr0
  have eK0 := markGroup g0 (1) (by omega) (by omega) (by omega)
  have eT1 := toModule m1 u1 ku1
  have eS1 := same_Module m1 u1 hu1
  have eK1 := markModule m1 u1 (1 + tot g0) (by omega) (by omega)
  have eT2 := toInt64S u2 ku2
  have eS2 := same_Ints u2 hu2
  have eK2 := markS u2 (1 + tot g0 + u1.length) (by omega) (by omega)
  have rS0 := same_Ints R0 (le_maxLen (by omega))
  have rK0 := markS R0 (1) (by omega) (by omega)
  have rH0 := heldS (1) R0.length (by omega) (by omega)
  ((with_reducible repeat (first | refine go_pos (by first | assumption | omega | rfl | exact B_pos (by omega)) ?_ | refine go_neg (by first | assumption | omega | decide | exact B_not (by omega)) ?_ | refine go_bind (by first | assumption) ?_ | dsimp only)); first | done | (with_reducible rfl) | simp (disch := omega) only [w64] | (show False; done))
end Go.Proofs.Ytdiadcmkddkjpaa.Pure
