/- What the proof of the law OrdersOfExtension stands on, part 6: words, each Go function's Lean function, and that the Go code comes to its answers; no condition. (Packed by wip/myprint/pack.py out of what the kit's printer wrote, its words among it, partly by our patches of it, and out of texts of this session.) -/
import Derived.ChangeSlices
import Derived.ChangeSame
import Derived.Deep.Matrix
import Derived.Lib.SmallJoins
import Derived.Test.YtlkdhmijgpadaaaRows
import Derived.WalkKit
import Derived.ProofKit
import Derived.KernelRfl
import Derived.Test.YtlkdhmijgpadaaaKOrdersOfExtension3
import Derived.Test.YtlkdhmijgpadaaaKOrdersOfExtension4
import Derived.Test.YtlkdhmijgpadaaaKOrdersOfExtension5
set_option linter.unusedVariables false
set_option linter.unusedSimpArgs false
set_option maxHeartbeats 2000000
set_option maxRecDepth 20000
namespace Go.Proofs.Ytlkdhmijgpadaaa.V
open Go.RowKit Go.Proofs.Ytlkdhmijgpadaaa.D Go.Proofs.Ytlkdhmijgpadaaa.P
theorem factor (g : List (List Int)) (hl : g.length ≤ maxLen) (hr : ∀ r ∈ g, r.length ≤ maxLen) (m : Int) (u : List Int) (hu : u.length ≤ maxLen) (d : Int) (v : List Int) (hv : v.length ≤ maxLen) (most : Int) :
    (d = 2 ∧ Grp g ∧ Mdl g m u ∧ Co g m 2 v ∧ Cocy g m u v 2 ∧ (g.length : Int) * m ≤ most ∧ spec_l06Given.f g m u d v most = some 0 ∧ impl_factorCode.f g m u d v most = some 0) ∨
    ∃ c : Int, ¬ c = 0 ∧ spec_l06Given.f g m u d v most = some c ∧ impl_factorCode.f g m u d v most = some c := by
  rw [spec_l06Given.f_eq, impl_factorCode.f_eq]
  rcases co_codes g hl hr m u hu d v hv with ⟨hg, hm, hc, cI, cS⟩ | ⟨_, cI, cS⟩
  rotate_left
  · exact .inr ⟨1, by omega, by ((with_reducible repeat (first | refine go_pos (by first | assumption | omega | rfl | exact B_pos (by omega)) ?_ | refine go_neg (by first | assumption | omega | decide | exact B_not (by omega)) ?_ | refine go_bind (by first | assumption) ?_ | dsimp only)); first | done | (with_reducible rfl) | simp (disch := omega) only [w64] | (show False; done)), by ((with_reducible repeat (first | refine go_pos (by first | assumption | omega | rfl | exact B_pos (by omega)) ?_ | refine go_neg (by first | assumption | omega | decide | exact B_not (by omega)) ?_ | refine go_bind (by first | assumption) ?_ | dsimp only)); first | done | (with_reducible rfl) | simp (disch := omega) only [w64] | (show False; done))⟩
  have n8 := hg.n8; have m2 := hm.m2; have m12 := hm.m12
  by_cases h2 : d = 2
  rotate_left
  · exact .inr ⟨2, by omega, by ((with_reducible repeat (first | refine go_pos (by first | assumption | omega | rfl | exact B_pos (by omega)) ?_ | refine go_neg (by first | assumption | omega | decide | exact B_not (by omega)) ?_ | refine go_bind (by first | assumption) ?_ | dsimp only)); first | done | (with_reducible rfl) | simp (disch := omega) only [w64] | (show False; done)), by ((with_reducible repeat (first | refine go_pos (by first | assumption | omega | rfl | exact B_pos (by omega)) ?_ | refine go_neg (by first | assumption | omega | decide | exact B_not (by omega)) ?_ | refine go_bind (by first | assumption) ?_ | dsimp only)); first | done | (with_reducible rfl) | simp (disch := omega) only [w64] | (show False; done))⟩
  subst h2
  have b0 : 0 ≤ (g.length : Int) * m := Int.mul_nonneg (by omega) (by omega)
  have b1 : (g.length : Int) * m ≤ 8 * 12 := Int.mul_le_mul (by omega) m12 (by omega) (by omega)
  rw [spec_l01N.f_eq, Option.bind_some, impl_order.f_eq, Option.bind_some, w64 (x := (g.length : Int) * m) (by omega) (by omega)]
  by_cases h3 : (g.length : Int) * m > most
  · exact .inr ⟨3, by omega, by ((with_reducible repeat (first | refine go_pos (by first | assumption | omega | rfl | exact B_pos (by omega)) ?_ | refine go_neg (by first | assumption | omega | decide | exact B_not (by omega)) ?_ | refine go_bind (by first | assumption) ?_ | dsimp only)); first | done | (with_reducible rfl) | simp (disch := omega) only [w64] | (show False; done)), by ((with_reducible repeat (first | refine go_pos (by first | assumption | omega | rfl | exact B_pos (by omega)) ?_ | refine go_neg (by first | assumption | omega | decide | exact B_not (by omega)) ?_ | refine go_bind (by first | assumption) ?_ | dsimp only)); first | done | (with_reducible rfl) | simp (disch := omega) only [w64] | (show False; done))⟩
  have c1 := isCocycle hg hm (d := 2) hc
  have c2 := Cocycle_ hg hm (d := 2) hc
  have e : ((2 : Nat) : Int) = 2 := rfl
  rw [e] at c1 c2
  by_cases h4 : Cocy g m u v 2
  · rw [B_pos h4] at c1 c2
    exact .inl ⟨rfl, hg, hm, hc, h4, by omega, by ((with_reducible repeat (first | refine go_pos (by first | assumption | omega | rfl | exact B_pos (by omega)) ?_ | refine go_neg (by first | assumption | omega | decide | exact B_not (by omega)) ?_ | refine go_bind (by first | assumption) ?_ | dsimp only)); first | done | (with_reducible rfl) | simp (disch := omega) only [w64] | (show False; done)), by ((with_reducible repeat (first | refine go_pos (by first | assumption | omega | rfl | exact B_pos (by omega)) ?_ | refine go_neg (by first | assumption | omega | decide | exact B_not (by omega)) ?_ | refine go_bind (by first | assumption) ?_ | dsimp only)); first | done | (with_reducible rfl) | simp (disch := omega) only [w64] | (show False; done))⟩
  · rw [B_neg h4] at c1 c2
    exact .inr ⟨5, by omega, by ((with_reducible repeat (first | refine go_pos (by first | assumption | omega | rfl | exact B_pos (by omega)) ?_ | refine go_neg (by first | assumption | omega | decide | exact B_not (by omega)) ?_ | refine go_bind (by first | assumption) ?_ | dsimp only)); first | done | (with_reducible rfl) | simp (disch := omega) only [w64] | (show False; done)), by ((with_reducible repeat (first | refine go_pos (by first | assumption | omega | rfl | exact B_pos (by omega)) ?_ | refine go_neg (by first | assumption | omega | decide | exact B_not (by omega)) ?_ | refine go_bind (by first | assumption) ?_ | dsimp only)); first | done | (with_reducible rfl) | simp (disch := omega) only [w64] | (show False; done))⟩
noncomputable def ext (g : List (List Int)) (m : Int) (u v : List Int) (p q : Int) : Int := m * T g (p / m) (q / m) + (p % m + rd u (p / m) * (q % m) + At g v [p / m, q / m]) % m
noncomputable def extT (g : List (List Int)) (m : Int) (u v : List Int) (N : Nat) : List (List Int) := (List.range N).map fun p : Nat => (List.range N).map fun q : Nat => ext g m u v p q
theorem parts {n m p : Int} (hm : 0 < m) (h0 : 0 ≤ p) (h1 : p < n * m) : 0 ≤ p / m ∧ p / m < n ∧ 0 ≤ p % m ∧ p % m < m :=
  ⟨Int.ediv_nonneg h0 (by omega), Int.ediv_lt_of_lt_mul hm h1, Int.emod_nonneg _ (by omega), Int.emod_lt_of_pos _ hm⟩
theorem ext_w {g : List (List Int)} (hg : Grp g) {m : Int} {u v : List Int} (hm : Mdl g m u) (hc : Co g m 2 v) {p q : Int} (p0 : 0 ≤ p) (p1 : p < g.length * m) (q0 : 0 ≤ q) (q1 : q < g.length * m) :
    wrapI (p.tdiv m) = p / m ∧ wrapI (q.tdiv m) = q / m ∧ wrapI (wrapI (m * T g (p / m) (q / m)) + (wrapI (wrapI (p.tmod m + wrapI (rd u (p / m) * q.tmod m)) + At g v [p / m, q / m])).tmod m) = ext g m u v p q ∧ 0 ≤ ext g m u v p q ∧ ext g m u v p q < g.length * m := by
  have n8 := hg.n8; have m2 := hm.m2; have m12 := hm.m12
  obtain ⟨x0, x1, a0, a1⟩ := parts (show 0 < m by omega) p0 p1
  obtain ⟨y0, y1, b0, b1⟩ := parts (show 0 < m by omega) q0 q1
  have hA := At_bd hg (by omega) hc (allIn_two x0 x1 y0 y1) rfl
  obtain ⟨s0, s1⟩ := small_prod hm x0 x1 b0 b1
  obtain ⟨t0, t1⟩ := hg.ent _ _ x0 x1 y0 y1
  have e1 : 0 ≤ m * T g (p / m) (q / m) := Int.mul_nonneg (by omega) t0
  have e2 : m * T g (p / m) (q / m) ≤ m * (g.length - 1) := Int.mul_le_mul_of_nonneg_left (by omega) (by omega)
  have e3 : m * ((g.length : Int) - 1) = g.length * m - m := by rw [Int.mul_sub, Int.mul_comm]; omega
  have e4 : (g.length : Int) * m ≤ 8 * 12 := Int.mul_le_mul (by omega) m12 (by omega) (by omega)
  have f0 := Int.emod_nonneg (p % m + rd u (p / m) * (q % m) + At g v [p / m, q / m]) (show m ≠ 0 by omega)
  have f1 := Int.emod_lt_of_pos (p % m + rd u (p / m) * (q % m) + At g v [p / m, q / m]) (show 0 < m by omega)
  rw [tdiv_nn p0, tdiv_nn q0, tmod_nn p0, tmod_nn q0, w64 (x := p / m) (by omega) (by omega), w64 (x := q / m) (by omega) (by omega), w64 (x := rd u (p / m) * (q % m)) (by omega) (by omega), w64 (x := m * T g (p / m) (q / m)) (by omega) (by omega), w64 (x := p % m + rd u (p / m) * (q % m)) (by omega) (by omega), w64 (x := p % m + rd u (p / m) * (q % m) + At g v [p / m, q / m]) (by omega) (by omega), tmod_nn (by omega), w64 (by omega) (by omega)]
  unfold ext
  exact ⟨rfl, rfl, rfl, by omega, by omega⟩
theorem extT_len (g : List (List Int)) (m : Int) (u v : List Int) (N : Nat) : (extT g m u v N).length = N ∧ ∀ r ∈ extT g m u v N, r.length = N := by
  refine ⟨by simp [extT], fun r hr => ?_⟩
  obtain ⟨p, _, rfl⟩ := List.mem_map.1 hr
  simp
theorem made {N : Nat} (hN : N ≤ 100000) {F : Int → Int → Option Int} {G : Nat → Nat → Int} (hF : ∀ p q : Nat, p < N → q < N → F p q = some (G p q)) :
    impl_made.f (N : Int) F = some ((List.range N).map fun p : Nat => (List.range N).map fun q : Nat => G p q) := by
  have l2 : ∀ x : Int, ([x] : List Int).length = 1 := fun _ => rfl
  have l3 : ∀ x : List Int, ([x] : List (List Int)).length = 1 := fun _ => rfl
  rw [impl_made.f_eq]
  have := up N (fun p => impl_made.l0 (N : Int) F (N : Int) (p : Int) [] ((List.range p).map fun p : Nat => (List.range N).map fun q : Nat => G p q)) (fun p hp => by
    have inner := up N (fun q => impl_made.l1 (N : Int) F p (N : Int) p (N : Int) (q : Int) ((List.range q).map fun q : Nat => G p q) [] ((List.range p).map fun p : Nat => (List.range N).map fun q : Nat => G p q)) (fun q hq => by
      have l1 : ((List.range q).map fun q : Nat => G p q).length = q := by rw [List.length_map, List.length_range]
      rw [List.range_succ, List.map_append, List.map_singleton, impl_made.l1_eq, hF p q hp hq, Option.bind_some, l1, l2, wn (j := q) (by omega)]
      ((with_reducible repeat (first | refine go_pos (by first | assumption | omega | rfl | exact B_pos (by omega)) ?_ | refine go_neg (by first | assumption | omega | decide | exact B_not (by omega)) ?_ | refine go_bind (by first | assumption) ?_ | dsimp only)); first | done | (with_reducible rfl) | simp (disch := omega) only [w64] | (show False; done)))
    simp only [Int.natCast_zero, List.range_zero, List.map_nil] at inner
    have l1 : ((List.range p).map fun p : Nat => (List.range N).map fun q : Nat => G p q).length = p := by rw [List.length_map, List.length_range]
    rw [List.range_succ, List.map_append, List.map_singleton, impl_made.l0_eq]
    (with_reducible repeat (first | refine go_pos (by first | assumption | omega | rfl | exact B_pos (by omega)) ?_ | refine go_neg (by first | assumption | omega | decide | exact B_not (by omega)) ?_ | refine go_bind (by first | assumption) ?_ | dsimp only))
    rw [inner, impl_made.l1_eq, l1, l3, wn (j := p) (by omega)]
    ((with_reducible repeat (first | refine go_pos (by first | assumption | omega | rfl | exact B_pos (by omega)) ?_ | refine go_neg (by first | assumption | omega | decide | exact B_not (by omega)) ?_ | refine go_bind (by first | assumption) ?_ | dsimp only)); first | done | (with_reducible rfl) | simp (disch := omega) only [w64] | (show False; done)))
  simp only [Int.natCast_zero, List.range_zero, List.map_nil] at this
  rw [this, impl_made.l0_eq]
  ((with_reducible repeat (first | refine go_pos (by first | assumption | omega | rfl | exact B_pos (by omega)) ?_ | refine go_neg (by first | assumption | omega | decide | exact B_not (by omega)) ?_ | refine go_bind (by first | assumption) ?_ | dsimp only)); first | done | (with_reducible rfl) | simp (disch := omega) only [w64] | (show False; done))
theorem extension {g : List (List Int)} (hg : Grp g) {m : Int} {u v : List Int} (hm : Mdl g m u) (hc : Co g m 2 v) {N : Nat} (hN : (N : Int) = g.length * m) : impl_extension.f g m u 2 v = some (extT g m u v N) ∧ N ≤ 96 := by
  have n8 := hg.n8; have m2 := hm.m2; have m12 := hm.m12; have hlu := hm.len
  have e4 : (g.length : Int) * m ≤ 8 * 12 := Int.mul_le_mul (by omega) m12 (by omega) (by omega)
  refine ⟨?_, by omega⟩
  have hM := made (N := N) (by omega) (F := fun z0 z1 => (impl_extension_1.f z0 z1 m u 2 v g).map fun z => z) (G := fun p q : Nat => ext g m u v p q) (fun p q hp hq => by
    obtain ⟨w1, w2, w3, _, _⟩ := ext_w hg hm hc (p := p) (q := q) (by omega) (by omega) (by omega) (by omega)
    obtain ⟨x0, x1, a0, a1⟩ := parts (show 0 < m by omega) (show 0 ≤ (p : Int) by omega) (n := g.length) (by omega)
    obtain ⟨y0, y1, b0, b1⟩ := parts (show 0 < m by omega) (show 0 ≤ (q : Int) by omega) (n := g.length) (by omega)
    have hat := at_ hg hc (allIn_two x0 x1 y0 y1) rfl
    have ht := times2 hg x0 x1 y0 y1
    have e : impl_extension_1.f p q m u 2 v g = some (ext g m u v p q) := by
      rw [impl_extension_1.f_eq, w1, w2, hat, Option.bind_some, ht, Option.bind_some, w3]
      clear w1 w2 w3
      ((with_reducible repeat (first | refine go_pos (by first | assumption | omega | rfl | exact B_pos (by omega)) ?_ | refine go_neg (by first | assumption | omega | decide | exact B_not (by omega)) ?_ | refine go_bind (by first | assumption) ?_ | dsimp only)); first | done | (with_reducible rfl) | simp (disch := omega) only [w64] | (show False; done))
    show Option.map _ (impl_extension_1.f p q m u 2 v g) = _
    rw [e]; rfl)
  rw [impl_extension.f_eq, impl_order.f_eq, Option.bind_some, w64 (by omega) (by omega), ← hN, hM]
  rfl
theorem Table_ {g : List (List Int)} (hg : Grp g) {m : Int} {u v : List Int} (hm : Mdl g m u) (hc : Co g m 2 v) {N : Nat} (hN : (N : Int) = g.length * m) : spec_l06Table.f g m u 2 v = some (extT g m u v N) := by
  have n8 := hg.n8; have m2 := hm.m2; have m12 := hm.m12; have hlu := hm.len
  have e4 : (g.length : Int) * m ≤ 8 * 12 := Int.mul_le_mul (by omega) m12 (by omega) (by omega)
  have l2 : ∀ x : Int, ([x] : List Int).length = 1 := fun _ => rfl
  have l3 : ∀ x : List Int, ([x] : List (List Int)).length = 1 := fun _ => rfl
  rw [spec_l06Table.f_eq, spec_l01N.f_eq, Option.bind_some, w64 (by omega) (by omega), ← hN]
  have := up N (fun p => spec_l06Table.l0 (N : Int) (p : Int) g m u 2 v ((List.range p).map fun p : Nat => (List.range N).map fun q : Nat => ext g m u v p q)) (fun p hp => by
    obtain ⟨x0, x1, a0, a1⟩ := parts (show 0 < m by omega) (show 0 ≤ (p : Int) by omega) (n := g.length) (by omega)
    have inner := up N (fun q => spec_l06Table.l1 (N : Int) (p : Int) (q : Int) g m u 2 v ((List.range p).map fun p : Nat => (List.range N).map fun q : Nat => ext g m u v p q) ((List.range q).map fun q : Nat => ext g m u v p q)) (fun q hq => by
      obtain ⟨w1, w2, w3, _, _⟩ := ext_w hg hm hc (p := p) (q := q) (by omega) (by omega) (by omega) (by omega)
      obtain ⟨y0, y1, b0, b1⟩ := parts (show 0 < m by omega) (show 0 ≤ (q : Int) by omega) (n := g.length) (by omega)
      have rx := hg.row _ x0 x1
      have hat := At_ (u := u) hg hc (allIn_two x0 x1 y0 y1) rfl
      have l1 : ((List.range q).map fun q : Nat => ext g m u v p q).length = q := by rw [List.length_map, List.length_range]
      rw [List.range_succ (n := q), List.map_append (l₁ := List.range q), List.map_singleton, spec_l06Table.l1_eq, w1, w2, hat, Option.bind_some, w3, l1, l2, wn (j := q) (by omega)]
      clear w1 w2 w3
      ((with_reducible repeat (first | refine go_pos (by first | assumption | omega | rfl | exact B_pos (by omega)) ?_ | refine go_neg (by first | assumption | omega | decide | exact B_not (by omega)) ?_ | refine go_bind (by first | assumption) ?_ | dsimp only)); first | done | (with_reducible rfl) | simp (disch := omega) only [w64] | (show False; done)))
    simp only [Int.natCast_zero, List.range_zero, List.map_nil] at inner
    have l1 : ((List.range p).map fun p : Nat => (List.range N).map fun q : Nat => ext g m u v p q).length = p := by rw [List.length_map, List.length_range]
    rw [List.range_succ, List.map_append, List.map_singleton, spec_l06Table.l0_eq]
    (with_reducible repeat (first | refine go_pos (by first | assumption | omega | rfl | exact B_pos (by omega)) ?_ | refine go_neg (by first | assumption | omega | decide | exact B_not (by omega)) ?_ | refine go_bind (by first | assumption) ?_ | dsimp only))
    rw [inner, spec_l06Table.l1_eq, l1, l3, wn (j := p) (by omega)]
    ((with_reducible repeat (first | refine go_pos (by first | assumption | omega | rfl | exact B_pos (by omega)) ?_ | refine go_neg (by first | assumption | omega | decide | exact B_not (by omega)) ?_ | refine go_bind (by first | assumption) ?_ | dsimp only)); first | done | (with_reducible rfl) | simp (disch := omega) only [w64] | (show False; done)))
  simp only [Int.natCast_zero, List.range_zero, List.map_nil] at this
  rw [this, spec_l06Table.l0_eq]
  (with_reducible repeat (first | refine go_pos (by first | assumption | omega | rfl | exact B_pos (by omega)) ?_ | refine go_neg (by first | assumption | omega | decide | exact B_not (by omega)) ?_ | refine go_bind (by first | assumption) ?_ | dsimp only))
  rfl
end Go.Proofs.Ytlkdhmijgpadaaa.V
set_option linter.unusedVariables false
set_option linter.unusedSimpArgs false
set_option maxHeartbeats 2000000
set_option maxRecDepth 20000
namespace Go.Proofs.Ytlkdhmijgpadaaa.V
open Go.RowKit Go.Proofs.Ytlkdhmijgpadaaa.D Go.Proofs.Ytlkdhmijgpadaaa.P
structure Sq (e : List (List Int)) (N : Nat) : Prop where
  len : e.length = N
  row : ∀ a : Int, 0 ≤ a → a < N → (row e a).length = N
  ent : ∀ a b : Int, 0 ≤ a → a < N → 0 ≤ b → b < N → 0 ≤ T e a b ∧ T e a b < N
theorem Sq.times2 {e : List (List Int)} {N : Nat} (h : Sq e N) (one : ∀ a : Int, 0 ≤ a → a < N → T e 0 a = a) {x y : Int} (x0 : 0 ≤ x) (x1 : x < N) (y0 : 0 ≤ y) (y1 : y < N) : impl_Group_times.f e [x, y] = some (T e x y) := by
  have hl := h.len
  have h1 := one x x0 x1
  have r0 := h.row 0 (by omega) (by omega)
  have rx := h.row x x0 x1
  have q0 : rd [x, y] 0 = x := rfl
  have q1 : rd [x, y] 1 = y := rfl
  have w1 : wrapI (0 + 1) = 1 := w64 (by omega) (by omega)
  have w2 : wrapI (1 + 1) = 2 := w64 (by omega) (by omega)
  have ll : (([x, y] : List Int).length : Int) = 2 := rfl
  rw [impl_Group_times.f_eq, ll, impl_Group_times.l0_eq, ll, q0, w1, h1]
  (with_reducible repeat (first | refine go_pos (by first | assumption | omega | rfl | exact B_pos (by omega)) ?_ | refine go_neg (by first | assumption | omega | decide | exact B_not (by omega)) ?_ | refine go_bind (by first | assumption) ?_ | dsimp only))
  rw [impl_Group_times.l0_eq, ll, q1, w2]
  (with_reducible repeat (first | refine go_pos (by first | assumption | omega | rfl | exact B_pos (by omega)) ?_ | refine go_neg (by first | assumption | omega | decide | exact B_not (by omega)) ?_ | refine go_bind (by first | assumption) ?_ | dsimp only))
  rw [impl_Group_times.l0_eq]
  ((with_reducible repeat (first | refine go_pos (by first | assumption | omega | rfl | exact B_pos (by omega)) ?_ | refine go_neg (by first | assumption | omega | decide | exact B_not (by omega)) ?_ | refine go_bind (by first | assumption) ?_ | dsimp only)); first | done | (with_reducible rfl) | simp (disch := omega) only [w64] | (show False; done))
theorem ext_T {g : List (List Int)} {m : Int} {u v : List Int} {N : Nat} {p q : Nat} (hp : p < N) (hq : q < N) : row (extT g m u v N) (p : Int) = ((List.range N).map fun q : Nat => ext g m u v p q) ∧ T (extT g m u v N) (p : Int) (q : Int) = ext g m u v p q := by
  have h1 : row (extT g m u v N) (p : Int) = ((List.range N).map fun q : Nat => ext g m u v p q) := by
    rw [row_get (by rw [(extT_len g m u v N).1]; exact hp)]
    simp [extT]
  refine ⟨h1, ?_⟩
  show rd (row (extT g m u v N) (p : Int)) (q : Int) = _
  rw [h1, rd_get (by rw [List.length_map, List.length_range]; exact hq)]
  simp
theorem ext_sq {g : List (List Int)} (hg : Grp g) {m : Int} {u v : List Int} (hm : Mdl g m u) (hc : Co g m 2 v) {N : Nat} (hN : (N : Int) = g.length * m) : Sq (extT g m u v N) N ∧ (∀ a : Int, 0 ≤ a → a < N → T (extT g m u v N) 0 a = a) ∧ 0 < N := by
  have m2 := hm.m2; have n1 := hg.n1; have m12 := hm.m12
  have nm : m ≤ g.length * m := by
    have := Int.mul_le_mul_of_nonneg_right (show (1 : Int) ≤ g.length by omega) (show 0 ≤ m by omega)
    omega
  refine ⟨⟨(extT_len g m u v N).1, fun a a0 a1 => ?_, fun a b a0 a1 b0 b1 => ?_⟩, fun a a0 a1 => ?_, by omega⟩
  · obtain ⟨p, rfl⟩ := Int.eq_ofNat_of_zero_le a0
    rw [(ext_T (p := p) (q := p) (by omega) (by omega)).1, List.length_map, List.length_range]
  · obtain ⟨p, rfl⟩ := Int.eq_ofNat_of_zero_le a0
    obtain ⟨q, rfl⟩ := Int.eq_ofNat_of_zero_le b0
    rw [(ext_T (by omega) (by omega)).2, hN]
    exact (ext_w hg hm hc (p := p) (q := q) (by omega) (by omega) (by omega) (by omega)).2.2.2
  · obtain ⟨q, rfl⟩ := Int.eq_ofNat_of_zero_le a0
    have := (ext_T (g := g) (m := m) (u := u) (v := v) (p := 0) (q := q) (N := N) (by omega) (by omega)).2
    rw [Int.natCast_zero] at this
    rw [this]
    obtain ⟨y0, y1, b0, b1⟩ := parts (show 0 < m by omega) (show 0 ≤ (q : Int) by omega) (n := g.length) (by omega)
    have hu := hm.one hg
    have hAt : At g v [0, (q : Int) / m] = 0 := by
      unfold At
      rw [ite_neg]
      intro h
      exact h 0 (by omega) (by simp) rfl
    unfold ext
    rw [Int.zero_ediv, Int.zero_emod, hg.one _ y0 y1, hu, hAt, Int.zero_add, Int.one_mul, Int.add_zero, Int.emod_eq_of_lt b0 b1]
    have := Int.mul_ediv_add_emod (q : Int) m
    omega
theorem php : ∀ (N : Nat) (f : Nat → Nat), (∀ i, i ≤ N → f i < N) → ∃ i j, i < j ∧ j ≤ N ∧ f i = f j := by
  intro N
  induction N with
  | zero => intro f h; exact absurd (h 0 (Nat.le_refl 0)) (by omega)
  | succ N ih =>
    intro f h
    by_cases hv : ∃ i, i ≤ N ∧ f i = f (N + 1)
    · obtain ⟨i, hi, e⟩ := hv
      exact ⟨i, N + 1, by omega, Nat.le_refl _, e⟩
    · have hne : ∀ i, i ≤ N → f i ≠ f (N + 1) := fun i hi e => hv ⟨i, hi, e⟩
      have hN := h (N + 1) (Nat.le_refl _)
      obtain ⟨i, j, hij, hj, e⟩ := ih (fun i => if f i > f (N + 1) then f i - 1 else f i) (fun i hi => by
        have h1 := h i (by omega)
        have h2 := hne i hi
        split <;> omega)
      refine ⟨i, j, hij, by omega, ?_⟩
      have h1 := hne i (by omega)
      have h2 := hne j (by omega)
      split at e <;> split at e <;> omega
def seq (f : Int → Int) (x : Int) : Nat → Int
  | 0 => x
  | n + 1 => f (seq f x n)
theorem seq_in {f : Int → Int} {N : Nat} (hf : ∀ x : Int, 0 ≤ x → x < N → 0 ≤ f x ∧ f x < N) {x : Int} (h0 : 0 ≤ x) (h1 : x < N) : ∀ n, 0 ≤ seq f x n ∧ seq f x n < N
  | 0 => ⟨h0, h1⟩
  | n + 1 => hf _ (seq_in hf h0 h1 n).1 (seq_in hf h0 h1 n).2
theorem comes_back {f : Int → Int} {N : Nat} (hf : ∀ x : Int, 0 ≤ x → x < N → 0 ≤ f x ∧ f x < N) (hi : ∀ x y : Int, 0 ≤ x → x < N → 0 ≤ y → y < N → f x = f y → x = y) {x : Int} (h0 : 0 ≤ x) (h1 : x < N) :
    ∃ k, k ≤ N ∧ 1 ≤ k ∧ seq f x k = x ∧ ∀ j, 1 ≤ j → j < k → seq f x j ≠ x := by
  obtain ⟨i, j, hij, hj, e⟩ := php N (fun n => (seq f x n).toNat) (fun i _ => by have := seq_in hf h0 h1 i; omega)
  have back : ∀ i j, i < j → seq f x i = seq f x j → seq f x (j - i) = x := by
    intro i
    induction i with
    | zero => intro j _ e; simpa [seq] using e.symm
    | succ i ih =>
      intro j hj e
      obtain ⟨j, rfl⟩ : ∃ m, j = m + 1 := ⟨j - 1, by omega⟩
      have a := seq_in hf h0 h1 i
      have b := seq_in hf h0 h1 j
      have := ih j (by omega) (hi _ _ a.1 a.2 b.1 b.2 e)
      rwa [show j + 1 - (i + 1) = j - i by omega]
  have a := seq_in hf h0 h1 i
  have b := seq_in hf h0 h1 j
  have e' : seq f x i = seq f x j := by omega
  have hk := back i j hij e'
  have least : ∀ d, 1 ≤ d → seq f x d = x → ∃ k, k ≤ d ∧ 1 ≤ k ∧ seq f x k = x ∧ ∀ j, 1 ≤ j → j < k → seq f x j ≠ x := by
    intro d
    induction d using Nat.strongRecOn with
    | _ d ih =>
      intro d1 hd
      by_cases h : ∃ j, 1 ≤ j ∧ j < d ∧ seq f x j = x
      · obtain ⟨j, j1, j2, j3⟩ := h
        obtain ⟨k, k1, k2⟩ := ih j j2 j1 j3
        exact ⟨k, by omega, k2⟩
      · exact ⟨d, Nat.le_refl _, d1, hd, fun j j1 j2 j3 => h ⟨j, j1, j2, j3⟩⟩
  obtain ⟨k, k1, k2⟩ := least (j - i) (by omega) hk
  exact ⟨k, by omega, k2⟩
theorem Grp.cancel_right {g : List (List Int)} (hg : Grp g) {a b c : Int} (a0 : 0 ≤ a) (a1 : a < g.length) (b0 : 0 ≤ b) (b1 : b < g.length) (c0 : 0 ≤ c) (c1 : c < g.length) (h : T g a c = T g b c) : a = b := by
  obtain ⟨d, d0, d1, hd⟩ := hg.inv c c0 c1
  have e1 := hg.assoc a c d a0 a1 c0 c1 d0 d1
  have e2 := hg.assoc b c d b0 b1 c0 c1 d0 d1
  rw [hd, hg.one' a a0 a1] at e1
  rw [hd, hg.one' b b0 b1] at e2
  rw [← e1, ← e2, h]
theorem ext_inj {g : List (List Int)} {m : Int} {u v : List Int} (hg : Grp g) (hm : Mdl g m u) {p p' q : Int} (p0 : 0 ≤ p) (p1 : p < g.length * m) (p0' : 0 ≤ p') (p1' : p' < g.length * m) (q0 : 0 ≤ q) (q1 : q < g.length * m) (h : ext g m u v p q = ext g m u v p' q) : p = p' := by
  have m2 := hm.m2
  obtain ⟨x0, x1, r0, r1⟩ := parts (show 0 < m by omega) p0 p1
  obtain ⟨x0', x1', r0', r1'⟩ := parts (show 0 < m by omega) p0' p1'
  obtain ⟨y0, y1, s0, s1⟩ := parts (show 0 < m by omega) q0 q1
  unfold ext at h
  have a0 := Int.emod_nonneg (p % m + rd u (p / m) * (q % m) + At g v [p / m, q / m]) (show m ≠ 0 by omega)
  have a1 := Int.emod_lt_of_pos (p % m + rd u (p / m) * (q % m) + At g v [p / m, q / m]) (show 0 < m by omega)
  have b0 := Int.emod_nonneg (p' % m + rd u (p' / m) * (q % m) + At g v [p' / m, q / m]) (show m ≠ 0 by omega)
  have b1 := Int.emod_lt_of_pos (p' % m + rd u (p' / m) * (q % m) + At g v [p' / m, q / m]) (show 0 < m by omega)
  have split : ∀ A B a b : Int, 0 ≤ a → a < m → 0 ≤ b → b < m → m * A + a = m * B + b → A = B ∧ a = b := by
    intro A B a b a0 a1 b0 b1 e
    have h1 : (m * A + a) / m = A := by rw [Int.mul_add_ediv_left _ _ (by omega), Int.ediv_eq_zero_of_lt a0 a1, Int.add_zero]
    have h2 : (m * B + b) / m = B := by rw [Int.mul_add_ediv_left _ _ (by omega), Int.ediv_eq_zero_of_lt b0 b1, Int.add_zero]
    have hAB : A = B := by rw [← h1, ← h2, e]
    subst hAB
    exact ⟨rfl, by omega⟩
  obtain ⟨e1, e2⟩ := split _ _ _ _ a0 a1 b0 b1 h
  have ex : p / m = p' / m := hg.cancel_right x0 x1 x0' x1' y0 y1 e1
  rw [ex] at e2
  have er : p % m = p' % m := by
    obtain ⟨C, hC⟩ : ∃ C, C = rd u (p' / m) * (q % m) + At g v [p' / m, q / m] := ⟨_, rfl⟩
    rw [Int.add_assoc, ← hC, Int.add_assoc, ← hC] at e2
    have d1 : (p % m + C - (p' % m + C)) % m = 0 := by
      rw [Int.sub_emod, e2, Int.sub_self, Int.zero_emod]
    rw [show p % m + C - (p' % m + C) = p % m - p' % m by omega] at d1
    obtain ⟨c, hc⟩ := Int.dvd_of_emod_eq_zero d1
    have : c = 0 := by
      have l1 : -m < m * c := by omega
      have l2 : m * c < m := by omega
      have : -1 < c := by
        refine Int.lt_of_mul_lt_mul_left (a := m) ?_ (by omega)
        omega
      have : c < 1 := by
        refine Int.lt_of_mul_lt_mul_left (a := m) ?_ (by omega)
        omega
      omega
    subst this
    omega
  have f1 := Int.mul_ediv_add_emod p m
  have f2 := Int.mul_ediv_add_emod p' m
  rw [← f1, ← f2, ex, er]
theorem order_ {e : List (List Int)} {N : Nat} (h : Sq e N) (N0 : 0 < N) (inj : ∀ a b p : Int, 0 ≤ a → a < N → 0 ≤ b → b < N → 0 ≤ p → p < N → T e a p = T e b p → a = b) {p : Int} (p0 : 0 ≤ p) (p1 : p < N) :
    ∃ k : Nat, 1 ≤ k ∧ k ≤ N ∧ seq (fun q => T e q p) 0 k = 0 ∧ ∀ j, 1 ≤ j → j < k → seq (fun q => T e q p) 0 j ≠ 0 := by
  obtain ⟨k, k1, k2, k3, k4⟩ := comes_back (f := fun q => T e q p) (N := N) (fun x x0 x1 => h.ent x p x0 x1 p0 p1) (fun x y x0 x1 y0 y1 e => inj x y p x0 x1 y0 y1 p0 p1 e) (x := 0) (by omega) (by omega)
  exact ⟨k, k2, k1, k3, k4⟩
theorem ext_sq_inj {g : List (List Int)} (hg : Grp g) {m : Int} {u v : List Int} (hm : Mdl g m u) {N : Nat} (hN : (N : Int) = g.length * m) (a b p : Int) (a0 : 0 ≤ a) (a1 : a < N) (b0 : 0 ≤ b) (b1 : b < N) (p0 : 0 ≤ p) (p1 : p < N) (e : T (extT g m u v N) a p = T (extT g m u v N) b p) : a = b := by
  obtain ⟨a, rfl⟩ := Int.eq_ofNat_of_zero_le a0
  obtain ⟨b, rfl⟩ := Int.eq_ofNat_of_zero_le b0
  obtain ⟨p, rfl⟩ := Int.eq_ofNat_of_zero_le p0
  rw [(ext_T (by omega) (by omega)).2, (ext_T (by omega) (by omega)).2] at e
  exact ext_inj hg hm (by omega) (by omega) (by omega) (by omega) (by omega) (by omega) e
end Go.Proofs.Ytlkdhmijgpadaaa.V
set_option linter.unusedVariables false
set_option linter.unusedSimpArgs false
set_option maxHeartbeats 2000000
set_option maxRecDepth 20000
namespace Go.Proofs.Ytlkdhmijgpadaaa.V
open Go.RowKit Go.Proofs.Ytlkdhmijgpadaaa.D Go.Proofs.Ytlkdhmijgpadaaa.P
theorem same_OrdersOfExtension (g : List (List Int)) (m : Int) (u : List Int) (d : Int) (v : List Int) (hl : g.length ≤ maxLen) (hr : ∀ r ∈ g, r.length ≤ maxLen) (hu : u.length ≤ maxLen) (hv : v.length ≤ maxLen) :
    ∃ (R : List Int) (c : Int), spec_OrdersOfExtension.f g m u d v = some (R, c) ∧ impl_OrdersOfExtension.f g m u d v = some (R, c) ∧ R.length ≤ 1048576 := by
  rw [spec_OrdersOfExtension.f_eq, impl_OrdersOfExtension.f_eq]
  rcases factor g hl hr m u hu d v hv 64 with ⟨rfl, hg, hm, hc, _, _, cS, cI⟩ | ⟨c, c0, cS, cI⟩
  rotate_left
  · exact ⟨[], c, by ((with_reducible repeat (first | refine go_pos (by first | assumption | omega | rfl | exact B_pos (by omega)) ?_ | refine go_neg (by first | assumption | omega | decide | exact B_not (by omega)) ?_ | refine go_bind (by first | assumption) ?_ | dsimp only)); first | done | (with_reducible rfl) | simp (disch := omega) only [w64] | (show False; done)), by ((with_reducible repeat (first | refine go_pos (by first | assumption | omega | rfl | exact B_pos (by omega)) ?_ | refine go_neg (by first | assumption | omega | decide | exact B_not (by omega)) ?_ | refine go_bind (by first | assumption) ?_ | dsimp only)); first | done | (with_reducible rfl) | simp (disch := omega) only [w64] | (show False; done)), by simp⟩
  have m2 := hm.m2
  obtain ⟨N, hN⟩ : ∃ N : Nat, (N : Int) = g.length * m := ⟨((g.length : Int) * m).toNat, by rw [Int.toNat_of_nonneg (Int.mul_nonneg (by omega) (by omega))]⟩
  obtain ⟨hE, h96⟩ := extension hg hm hc hN
  have hT := Table_ hg hm hc hN
  obtain ⟨hs, one, N0⟩ := ext_sq hg hm hc hN
  have inj := ext_sq_inj (v := v) hg hm hN
  obtain ⟨e, he⟩ : ∃ e, e = extT g m u v N := ⟨_, rfl⟩
  rw [← he] at hE hT hs one inj
  have hle := hs.len
  have hkk : ∀ p : Nat, ∃ k : Nat, p < N → 1 ≤ k ∧ k ≤ N ∧ seq (fun q => T e q (p : Int)) 0 k = 0 ∧ ∀ j, 1 ≤ j → j < k → seq (fun q => T e q (p : Int)) 0 j ≠ 0 := fun p => by
    by_cases hp : p < N
    · obtain ⟨k, h⟩ := order_ hs N0 inj (p := (p : Int)) (by omega) (by omega)
      exact ⟨k, fun _ => h⟩
    · exact ⟨0, fun h => absurd h hp⟩
  obtain ⟨K, hK⟩ := Classical.axiomOfChoice hkk
  have hin : ∀ p : Nat, p < N → ∀ j, 0 ≤ seq (fun q => T e q (p : Int)) 0 j ∧ seq (fun q => T e q (p : Int)) 0 j < N := fun p hp j => seq_in (f := fun q => T e q (p : Int)) (N := N) (fun x x0 x1 => hs.ent x p x0 x1 (by omega) (by omega)) (by omega) (by omega) j
  have h1 : ∀ p : Nat, p < N → seq (fun q => T e q (p : Int)) 0 1 = (p : Int) := fun p hp => one (p : Int) (by omega) (by omega)
  have hO : ∀ p : Nat, p < N → impl_Group_orderOf.f e (p : Int) = some ((K p : Nat) : Int) := fun p hp => by
    obtain ⟨k1, k2, k3, k4⟩ := hK p hp
    have H : ∀ d j : Nat, 1 ≤ j → j + d = K p → impl_Group_orderOf.l0 (p : Int) (j : Int) (seq (fun q => T e q (p : Int)) 0 j) e = some ((K p : Nat) : Int) := by
      intro d
      induction d with
      | zero =>
        intro j j1 hj
        obtain rfl : j = K p := by omega
        rw [k3, impl_Group_orderOf.l0_eq, if_pos rfl]
      | succ d ih =>
        intro j j1 hj
        have hz := k4 j j1 (by omega)
        obtain ⟨s0, s1⟩ := hin p hp j
        have ht := hs.times2 one s0 s1 (show (0 : Int) ≤ p by omega) (by omega)
        have i1 := ih (j + 1) (by omega) (by omega)
        rw [impl_Group_orderOf.l0_eq, if_neg hz, ht, Option.bind_some, wn (j := j) (by omega)]
        exact i1
    have := H (K p - 1) 1 (by omega) (by omega)
    rw [h1 p hp] at this
    rw [impl_Group_orderOf.f_eq]
    exact this
  have hcount := counting (n := N) (by omega)
  have hM := mapped (F := fun z0 => ((impl_Group_orderOf.f e z0).map fun z => z).map fun z => z) (G := fun x => ((K x.toNat : Nat) : Int)) ((List.range N).map fun i : Nat => (i : Int)) (by rw [List.length_map, List.length_range]; omega) (fun x hx => by
    obtain ⟨p, hp, rfl⟩ := List.mem_map.1 hx
    have hp := List.mem_range.1 hp
    show Option.map _ (Option.map _ (impl_Group_orderOf.f e (p : Int))) = _
    rw [hO p hp, Int.toNat_natCast]; rfl)
  have hR : ((List.range N).map fun i : Nat => (i : Int)).map (fun x => ((K x.toNat : Nat) : Int)) = (List.range N).map fun p : Nat => ((K p : Nat) : Int) := by
    rw [List.map_map]
    apply List.map_congr_left
    intro p _
    simp
  rw [hR] at hM
  have hord : impl_order.f e = some (N : Int) := by rw [impl_order.f_eq, hle]
  refine ⟨(List.range N).map fun p : Nat => ((K p : Nat) : Int), 0, ?_, by ((with_reducible repeat (first | refine go_pos (by first | assumption | omega | rfl | exact B_pos (by omega)) ?_ | refine go_neg (by first | assumption | omega | decide | exact B_not (by omega)) ?_ | refine go_bind (by first | assumption) ?_ | dsimp only)); first | done | (with_reducible rfl) | simp (disch := omega) only [w64] | (show False; done)), by rw [List.length_map, List.length_range]; omega⟩
  have loop := up N (fun p => spec_OrdersOfExtension.l0 e (p : Int) ((List.range p).map fun p : Nat => ((K p : Nat) : Int))) (fun p hp => by
    obtain ⟨k1, k2, k3, k4⟩ := hK p hp
    have l1 : ((List.range p).map fun p : Nat => ((K p : Nat) : Int)).length = p := by rw [List.length_map, List.length_range]
    have l2 : ∀ x : Int, ([x] : List Int).length = 1 := fun _ => rfl
    have H : ∀ d j : Nat, 1 ≤ j → j + d = K p → spec_OrdersOfExtension.l1 e (p : Int) (j : Int) (seq (fun q => T e q (p : Int)) 0 j) ((List.range p).map fun p : Nat => ((K p : Nat) : Int)) = spec_OrdersOfExtension.l0 e ((p + 1 : Nat) : Int) ((List.range (p + 1)).map fun p : Nat => ((K p : Nat) : Int)) := by
      intro d
      induction d with
      | zero =>
        intro j j1 hj
        obtain rfl : j = K p := by omega
        rw [k3, spec_OrdersOfExtension.l1_eq, if_pos rfl, l1, l2, wn (j := p) (by omega), List.range_succ, List.map_append, List.map_singleton]
        ((with_reducible repeat (first | refine go_pos (by first | assumption | omega | rfl | exact B_pos (by omega)) ?_ | refine go_neg (by first | assumption | omega | decide | exact B_not (by omega)) ?_ | refine go_bind (by first | assumption) ?_ | dsimp only)); first | done | (with_reducible rfl) | simp (disch := omega) only [w64] | (show False; done))
      | succ d ih =>
        intro j j1 hj
        have hz := k4 j j1 (by omega)
        obtain ⟨s0, s1⟩ := hin p hp j
        have hrow := hs.row _ s0 s1
        have i1 := ih (j + 1) (by omega) (by omega)
        rw [spec_OrdersOfExtension.l1_eq, if_neg hz, wn (j := j) (by omega)]
        (with_reducible repeat (first | refine go_pos (by first | assumption | omega | rfl | exact B_pos (by omega)) ?_ | refine go_neg (by first | assumption | omega | decide | exact B_not (by omega)) ?_ | refine go_bind (by first | assumption) ?_ | dsimp only))
        exact i1
    have := H (K p - 1) 1 (by omega) (by omega)
    rw [h1 p hp] at this
    rw [spec_OrdersOfExtension.l0_eq]
    (with_reducible repeat (first | refine go_pos (by first | assumption | omega | rfl | exact B_pos (by omega)) ?_ | refine go_neg (by first | assumption | omega | decide | exact B_not (by omega)) ?_ | refine go_bind (by first | assumption) ?_ | dsimp only))
    exact this)
  simp only [Int.natCast_zero, List.range_zero, List.map_nil] at loop
  (with_reducible repeat (first | refine go_pos (by first | assumption | omega | rfl | exact B_pos (by omega)) ?_ | refine go_neg (by first | assumption | omega | decide | exact B_not (by omega)) ?_ | refine go_bind (by first | assumption) ?_ | dsimp only))
  rw [loop, spec_OrdersOfExtension.l0_eq]
  ((with_reducible repeat (first | refine go_pos (by first | assumption | omega | rfl | exact B_pos (by omega)) ?_ | refine go_neg (by first | assumption | omega | decide | exact B_not (by omega)) ?_ | refine go_bind (by first | assumption) ?_ | dsimp only)); first | done | (with_reducible rfl) | simp (disch := omega) only [w64] | (show False; done))
end Go.Proofs.Ytlkdhmijgpadaaa.V
set_option linter.unusedVariables false
set_option linter.unusedSimpArgs false
set_option maxHeartbeats 4000000
set_option maxRecDepth 20000
namespace Go.Proofs.Ytlkdhmijgpadaaa.Pure
open Go.RowKit Go.Proofs.Ytlkdhmijgpadaaa.D Go.Proofs.Ytlkdhmijgpadaaa.P Go.Proofs.Ytlkdhmijgpadaaa.V
theorem FnExactOrdersOfExtension_pure : ∀ (g0 : List (List Int)) (m1 : Int) (u1 : List Int) (m2 : Int) (u2 : List Int), g0.length ≤ maxLen → (∀ r ∈ g0, r.length ≤ maxLen ∧ ∀ x ∈ r, (Lit.int .i64 x).wf = true) → (Lit.int .i64 m1).wf = true → u1.length ≤ maxLen → (∀ x ∈ u1, (Lit.int .i64 x).wf = true) → (Lit.int .i64 m2).wf = true → u2.length ≤ maxLen → (∀ x ∈ u2, (Lit.int .i64 x).wf = true) → laws_FnExactOrdersOfExtension.f g0 m1 u1 m2 u2 = some true := by
  intro g0 m1 u1 m2 u2 hl0 hq0 hw1 hu1 hx1 hw2 hu2 hx2
  have hr0 : ∀ r ∈ g0, r.length ≤ maxLen := fun r h => (hq0 r h).1
  rw [laws_FnExactOrdersOfExtension.f_eq]
  obtain ⟨t0, e0, z0⟩ := szGroup g0 1048576 hl0 hr0 (by omega) (by omega)
  rcases z0 with z0 | ⟨ta0, tb0, kl0, kr0⟩
  · ((with_reducible repeat (first | refine go_pos (by first | assumption | omega | rfl | exact B_pos (by omega)) ?_ | refine go_neg (by first | assumption | omega | decide | exact B_not (by omega)) ?_ | refine go_bind (by first | assumption) ?_ | dsimp only)); first | done | (with_reducible rfl) | simp (disch := omega) only [w64] | (show False; done))
  obtain ⟨t1, e1, z1⟩ := szModule m1 u1 t0 hu1 (by omega) (by omega)
  rcases z1 with z1 | ⟨ta1, tb1, ku1⟩
  · ((with_reducible repeat (first | refine go_pos (by first | assumption | omega | rfl | exact B_pos (by omega)) ?_ | refine go_neg (by first | assumption | omega | decide | exact B_not (by omega)) ?_ | refine go_bind (by first | assumption) ?_ | dsimp only)); first | done | (with_reducible rfl) | simp (disch := omega) only [w64] | (show False; done))
  obtain ⟨t2, e2, z2⟩ := szCochain m2 u2 t1 hu2 (by omega) (by omega)
  rcases z2 with z2 | ⟨ta2, tb2, ku2⟩
  · ((with_reducible repeat (first | refine go_pos (by first | assumption | omega | rfl | exact B_pos (by omega)) ?_ | refine go_neg (by first | assumption | omega | decide | exact B_not (by omega)) ?_ | refine go_bind (by first | assumption) ?_ | dsimp only)); first | done | (with_reducible rfl) | simp (disch := omega) only [w64] | (show False; done))
  obtain ⟨R0, c1, hS, hI, rb0⟩ := same_OrdersOfExtension g0 m1 u1 m2 u2 hl0 hr0 hu1 hu2
  have eT0 := toGroup g0 kl0 kr0
  have eS0 := same_Group g0 hl0 hr0
  have eN0 := tot_small kl0 kr0
  have eK0 := markGroup g0 (1) (by omega) (by omega) (by omega)
  have eT1 := toModule m1 u1 ku1
  have eS1 := same_Module m1 u1 hu1
  have eK1 := markModule m1 u1 (1 + tot g0) (by omega) (by omega)
  have eT2 := toCochain m2 u2 ku2
  have eS2 := same_Cochain m2 u2 hu2
  have eK2 := markCochain m2 u2 (1 + tot g0 + u1.length) (by omega) (by omega)
  have rS0 := same_Ints R0 (le_maxLen (by omega))
  have rK0 := markS R0 (1) (by omega) (by omega)
  have rH0 := heldS (1) R0.length (by omega) (by omega)
  ((with_reducible repeat (first | refine go_pos (by first | assumption | omega | rfl | exact B_pos (by omega)) ?_ | refine go_neg (by first | assumption | omega | decide | exact B_not (by omega)) ?_ | refine go_bind (by first | assumption) ?_ | dsimp only)); first | done | (with_reducible rfl) | simp (disch := omega) only [w64] | (show False; done))
end Go.Proofs.Ytlkdhmijgpadaaa.Pure
set_option linter.unusedVariables false
namespace Go.Proofs.Ytlkdhmijgpadaaa.D
open Go Go.RowKit
theorem valid_view {P : Program} {g : FuncId} {c : Con} (hv : Valid P g c) {x : lsd (flats c.ins)} {r : c.R} (hx : c.f x = some r) {w : World} {vs : List Value} (ha : ASRs P (fun _ => False) (fun k => k < w.heap.size) w c.ins x vs (fun _ => False)) :
    Calls P g vs.toArray w fun e w' => ∃ u, e = .returned u ∧ Below w.heap.size w w' ∧ ∃ Z' Fo us, u = outV us ∧ ASRs P (fun _ => False) Z' w' c.outs (c.dec r).1 us Fo := by
  refine (hv.2 x r hx (fun k => k < w.heap.size) (fun _ => False) (fun _ => False) w vs ha (fun _ h => h.elim) (fun _ h => h) (fun _ h => h.elim)).mono ?_
  rintro e w' ⟨u, rfl, Z', Fi, Fo, hp⟩
  obtain ⟨us, hu, ho⟩ := hp.out
  exact ⟨u, rfl, ⟨hp.os, hp.tape, hp.output, hp.size, fun k hk => hp.old k hk fun h => h⟩, Z', Fo, us, hu, ho⟩
theorem cell_lt {w : World} {a : Addr} {v : Value} (h : w.cell? a = some v) : a.block < w.heap.size := by
  unfold World.cell? at h
  cases hb : w.heap[a.block]? with
  | none => rw [hb] at h; cases h
  | some o => exact (Array.getElem?_eq_some_iff.1 hb).1
theorem view_raw {α : Type} {w : World} {sz : Nat} {R : α → List Value → Prop} {A : Option Addr} {c : Nat} {xs : List α} (hz : 0 < sz) (hc : xs.length ≤ c) (hm : xs.length ≤ 9223372036854775807)
    (h : 0 < xs.length → ∃ ad, A = some ad ∧ ∀ (j : Nat) (p : α), xs[j]? = some p → ∃ cs, cs.length = sz ∧ R p cs ∧ ∀ (i : Nat) (u : Value), cs[i]? = some u → w.cell? (ad.add (j * sz + i)) = some u) : ViewRep (fun k => k < w.heap.size) w sz R A c xs := by
  refine ⟨hc, hm, fun hl => ?_⟩
  obtain ⟨ad, rfl, hcell⟩ := h hl
  refine ⟨ad, rfl, ?_, hcell⟩
  obtain ⟨cs, h1, h2, h3⟩ := hcell 0 xs[0] (List.getElem?_eq_getElem hl)
  have := cell_lt (h3 0 cs[0] (List.getElem?_eq_getElem (by omega)))
  rwa [add_block] at this
theorem law_true {P : Program} {g : FuncId} {c : Con} (hv : Valid P g c) {x : lsd (flats c.ins)} {r : c.R} (hx : c.f x = some r) {w : World} {vs : List Value} (ha : ASRs P (fun _ => False) (fun k => k < w.heap.size) w c.ins x vs (fun _ => False)) (ho : c.outs = [.one (.v .bool)]) (hr : ∀ y : lsd (flats [.one (.v .bool)]), HEq y (c.dec r).1 → y.1 = true) :
    Calls P g vs.toArray w fun e w' => e = .returned (.bool true) ∧ Below w.heap.size w w' := by
  refine (valid_view hv hx ha).mono ?_
  rintro e w' ⟨u, rfl, hb, Z', Fo, us, rfl, hh⟩
  refine ⟨?_, hb⟩
  obtain ⟨ins, outs, R, f, dec⟩ := c
  have ho : outs = [.one (.v .bool)] := ho
  subst ho
  obtain ⟨v, vs', F0, F1, rfl, h1, h2, _⟩ := hh
  cases h2
  have h1 : [v] = [.bool (dec r).1.1] := h1
  have hb1 : (dec r).1.1 = true := hr _ HEq.rfl
  cases h1
  rw [hb1]
  rfl
end Go.Proofs.Ytlkdhmijgpadaaa.D
set_option linter.unusedVariables false
namespace Go.Proofs.Ytlkdhmijgpadaaa.D
open Go Go.RowKit Go.ChangeShapes Go.WideShapes Go.Joins Go.Deep
section
variable {H : Type} {enc : TypeId × Value → H} {P : Program} {w : World} {base : Nat} {held : Bool}
abbrev Zw (w : World) : Nat → Prop := fun k => k < w.heap.size
abbrev No : Nat → Prop := fun _ => False
theorem rep_ints {q : TypeId} (hn : nf q = false) {k : IntKind} {a : Addr} {len cap : Nat} {zs : List Int} (hl : len ≤ cap) (hm : cap ≤ maxLen) (hz : zs.length = cap) (hc : ∀ i, i < zs.length → w.cell? (a.add i) = some (.int k (zs.getD i 0))) (hw : ∀ n ∈ zs, (Lit.int k n).wf = true) :
    ∃ l : List Int, len = l.length ∧ l.length ≤ maxLen ∧ (∀ x ∈ l, (Lit.int k x).wf = true) ∧ Rep (Zw w) w false (.sl q (.int k)) l [.slice (some a) len cap] No := by
  have hlen : (zs.take len).length = len := by rw [List.length_take]; omega
  refine ⟨zs.take len, hlen.symm, by omega, fun x hx => hw x (List.mem_of_mem_take hx), some a, cap, by rw [hlen], ?_, fun h => by rw [hn] at h; cases h⟩
  refine view_raw Nat.one_pos (by show (zs.take len).length ≤ _; omega) (by show (zs.take len).length ≤ _; simp only [maxLen] at hm; omega) fun _ => ⟨a, rfl, fun j p hj => ?_⟩
  have hj : (zs.take len)[j]? = some p := hj
  have hjl : j < len := by
    have := (List.getElem?_eq_some_iff.1 hj).1
    omega
  refine ⟨[.int k p], rfl, rfl, fun i u hu => ?_⟩
  cases i with
  | zero =>
    simp only [List.getElem?_cons_zero, Option.some.injEq] at hu
    subst hu
    have h := hc j (by omega)
    have hp : zs.getD j 0 = p := by
      rw [List.getElem?_take] at hj
      simp only [hjl, if_true] at hj
      simp [List.getD, hj]
    rw [hp] at h
    simpa [Ty.size] using h
  | succ i => simp at hu
theorem rep_none {q : TypeId} {t : Ty} : Rep (Zw w) w false (.sl q t) ([] : List t.den) [.slice none 0 0] No :=
  ⟨none, 0, rfl, ⟨Nat.le_refl _, Nat.zero_le _, fun h => absurd h (by simp)⟩, fun _ _ => rfl⟩
theorem come_ints {t e : TypeId} {k : IntKind} {fuel : Nat} {v : Value} {x : DataW H × List MemPlace} (ht : P.underlying t = some (.slice e)) (he : P.underlying e = some (.int k)) (hc : P.cellsOf e = 1)
    (h : DataW.trod enc P w base (fun _ => true) held fuel t [v] = some x) (hn : nf e = false := by rfl) :
    ∃ l : List Int, l.length ≤ maxLen ∧ (∀ x ∈ l, (Lit.int k x).wf = true) ∧ Rep (Zw w) w false (.sl e (.int k)) l [v] No := by
  rcases open_ints ht he hc h with ⟨hcs, _⟩ | ⟨a, len, cap, zs, hcs, _, hl, hm, hz, _, hcell, hw⟩
  · refine ⟨[], by simp, by simp, ?_⟩
    rw [hcs]
    exact rep_none
  · simp only [if_true] at hz
    obtain ⟨l, h1, h2, h3, h4⟩ := rep_ints (q := e) hn hl hm hz hcell hw
    exact ⟨l, h2, h3, by rw [hcs]; exact h4⟩
theorem come_rows {t e q : TypeId} {k : IntKind} {fuel : Nat} {v : Value} {x : DataW H × List MemPlace} (ht : P.underlying t = some (.slice e)) (he : P.underlying e = some (.slice q)) (hq : P.underlying q = some (.int k))
    (ce : P.cellsOf e = 1) (cq : P.cellsOf q = 1) (h : DataW.trod enc P w base (fun _ => true) held fuel t [v] = some x) (hne : nf e = false := by rfl) (hn : nf q = false := by rfl) :
    ∃ l : List (List Int), l.length ≤ maxLen ∧ (∀ r ∈ l, r.length ≤ maxLen ∧ ∀ x ∈ r, (Lit.int k x).wf = true) ∧ Rep (Zw w) w false (.sl e (.sl q (.int k))) l [v] No := by
  rcases open_int_rows ht he hq ce cq h with ⟨hcs, _⟩ | ⟨a, len, cap, A, L, C, Z, hcs, _, hl, hm, _, hr⟩
  · refine ⟨[], by simp, by simp, ?_⟩
    rw [hcs]
    exact rep_none
  · have each : ∀ r, r < cap → ∃ y : List Int, y.length ≤ maxLen ∧ (∀ x ∈ y, (Lit.int k x).wf = true) ∧ Rep (Zw w) w false (.sl q (.int k)) y [.slice (A r) (L r) (C r)] No := by
      intro r hrc
      obtain ⟨_, h1, h2, h3, h4, h5, h6⟩ := hr r hrc
      cases hA : A r with
      | none =>
        have hC := h5 hA
        refine ⟨[], by simp, by simp, ?_⟩
        have hL : L r = 0 := by omega
        rw [hL, hC]
        exact rep_none
      | some a' =>
        obtain ⟨l, _, h7, h8, h9⟩ := rep_ints (q := q) hn h1 h2 h3 (fun i hi => (h6 a' hA).2 i (by omega)) h4
        exact ⟨l, h7, h8, h9⟩
    obtain ⟨Y, hY⟩ := choose_lt each
    have hlen : ((List.range len).map Y).length = len := by simp
    refine ⟨(List.range len).map Y, by omega, fun r hr' => ?_, ?_⟩
    · obtain ⟨j, hj, rfl⟩ := List.mem_map.1 hr'
      obtain ⟨h1, h2, _⟩ := hY j (by have := List.mem_range.1 hj; omega)
      exact ⟨h1, h2⟩
    · rw [hcs]
      refine ⟨some a, cap, by rw [hlen], ?_, fun h => by rw [hne] at h; cases h⟩
      refine view_raw Nat.one_pos (by show ((List.range len).map Y).length ≤ _; omega) (by show ((List.range len).map Y).length ≤ _; simp only [maxLen] at hm; omega) fun _ => ⟨a, rfl, fun j p hj => ?_⟩
      have hj : ((List.range len).map Y)[j]? = some p := hj
      have hjl : j < len := by
        have := (List.getElem?_eq_some_iff.1 hj).1
        omega
      have hp : p = Y j := by simpa [hjl] using hj.symm
      subst hp
      obtain ⟨h1, h2, h3⟩ := hY j (by omega)
      refine ⟨[.slice (A j) (L j) (C j)], rfl, h3, fun i u hu => ?_⟩
      cases i with
      | zero =>
        simp only [List.getElem?_cons_zero, Option.some.injEq] at hu
        subst hu
        have := (hr j (by omega)).1
        simpa [Ty.size] using this
      | succ i => simp at hu
theorem come_int {t : TypeId} {k : IntKind} {fuel : Nat} {v : Value} {x : DataW H × List MemPlace} (ht : P.underlying t = some (.int k)) (h : DataW.trod enc P w base (fun _ => true) held fuel t [v] = some x) : ∃ n : Int, (Lit.int k n).wf = true ∧ Rep (Zw w) w false (.int k) n [v] No := by
  obtain ⟨n, h1, _, h2⟩ := DataW.trod_int ht h
  exact ⟨n, h2, h1⟩
theorem open_agg1 {r : Reach} {b0 : Nat} {t : TypeId} {f0 : Field} {v : Value} {d : DataW H} {p : List MemPlace} {spare : Nat → Bool} (hs : P.underlying t = some (.struct #[f0])) (hone : oneCellFields P #[f0] = true) (hC : P.cellsOf t = 1)
    (hv : Value.okWide P w r b0 t v) (h : DataW.Trod enc P w base spare held t v d p) :
    ∃ (v0 : Value) (y0 : DataW H × List MemPlace) (n : Nat), v = .agg #[v0] ∧ DataW.trod enc P w base spare held n f0.type [v0] = some y0 := by
  obtain ⟨cs, rfl, hsz⟩ := okWide_struct hs hv
  have hsz1 : cs.size = 1 := hsz.trans hC
  obtain ⟨c0, rfl⟩ : ∃ c0, cs = #[c0] := by
    obtain ⟨l⟩ := cs
    match l, hsz1 with
    | [c0], _ => exact ⟨c0, rfl⟩
  obtain ⟨fuel, hf⟩ := h
  obtain ⟨y0, n, hx, _, h0⟩ := trod_struct1 hs hf
  obtain ⟨o0, k0⟩ := hone_of hone 0 f0 rfl
  exact ⟨c0, y0, n, rfl, by simpa [Value.cells, o0, k0] using h0⟩
theorem args_nil : ASRs P No (Zw w) w [] () [] No := rfl
theorem args_agg1 {t : Ty} {x : t.den} {v : Value} {ins : List ASh} {y : lsd (flats ins)} {vs : List Value} (h : Rep (Zw w) w false t x [v] No) (hr : ASRs P No (Zw w) w ins y vs No) : ASRs P No (Zw w) w (.agg [.v t] :: ins) (x, y) (.agg #[v] :: vs) No :=
  ⟨.agg #[v], vs, No, No, rfl, ⟨[v], rfl, v, [], No, No, rfl, h, rfl, fun _ h => h, fun _ h => h, fun _ h => h.elim⟩, hr, fun _ h => h, fun _ h => h, fun _ h => h.elim⟩
theorem args_agg2 {t t' : Ty} {x : t.den} {x' : t'.den} {v v' : Value} {ins : List ASh} {y : lsd (flats ins)} {vs : List Value} (h : Rep (Zw w) w false t x [v] No) (h' : Rep (Zw w) w false t' x' [v'] No) (hr : ASRs P No (Zw w) w ins y vs No) : ASRs P No (Zw w) w (.agg [.v t, .v t'] :: ins) (x, x', y) (.agg #[v, v'] :: vs) No :=
  ⟨.agg #[v, v'], vs, No, No, rfl, ⟨[v, v'], rfl, v, [v'], No, No, rfl, h, ⟨v', [], No, No, rfl, h', rfl, fun _ h => h, fun _ h => h, fun _ h => h.elim⟩, fun _ h => h, fun _ h => h, fun _ h => h.elim⟩, hr, fun _ h => h, fun _ h => h, fun _ h => h.elim⟩
end
end Go.Proofs.Ytlkdhmijgpadaaa.D
namespace Go.Proofs.Ytlkdhmijgpadaaa.shut
theorem mayEnter : Try.pinned.checked.prog.mayEnter = true := by kernel_rfl
theorem lifted : (Rows.fnExactOrdersOfExtensionRow.lifted == Try.pinned.checked.prog.liftsFinal) = true := by kernel_rfl
theorem make : (Try.pinned.checked.prog.make == some Rows.fnExactOrdersOfExtensionRow.make) = true := by kernel_rfl
end Go.Proofs.Ytlkdhmijgpadaaa.shut
