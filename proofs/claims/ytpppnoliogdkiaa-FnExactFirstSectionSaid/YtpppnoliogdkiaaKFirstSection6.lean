/- What the proof of the law FirstSection stands on, part 6: words, each Go function's Lean function, and that the Go code comes to its answers; no condition. (Packed by wip/myprint/pack.py out of what the kit's printer wrote, its words among it, partly by our patches of it, and out of texts of this session.) -/
import Derived.Test.YtpppnoliogdkiaaKFirstSection3
import Derived.Test.YtpppnoliogdkiaaKFirstSection4
import Derived.Test.YtpppnoliogdkiaaKFirstSection5
set_option linter.unusedVariables false
set_option linter.unusedSimpArgs false
set_option maxHeartbeats 2000000
set_option maxRecDepth 20000
namespace Go.Proofs.Ytpppnoliogdkiaa.V
open Go.RowKit Go.Proofs.Ytpppnoliogdkiaa.D Go.Proofs.Ytpppnoliogdkiaa.P
def lst (b : Int) : Nat → Int → List Int
  | 0, _ => []
  | n + 1, i => lst b n (i / b) ++ [i % b + 1]
theorem lst_length (b : Int) : ∀ n i, (lst b n i).length = n := by
  intro n
  induction n with
  | zero => intro i; rfl
  | succ n ih => intro i; simp [lst, ih]
theorem lst_in {b : Int} (hb : 0 < b) : ∀ n i, ∀ x ∈ lst b n i, 1 ≤ x ∧ x < b + 1 := by
  intro n
  induction n with
  | zero => intro i x hx; simp [lst] at hx
  | succ n ih =>
    intro i x hx
    have m0 := Int.emod_nonneg i (show b ≠ 0 by omega)
    have m1 := Int.emod_lt_of_pos i hb
    rcases List.mem_append.1 hx with h | h
    · exact ih _ x h
    · rw [List.mem_singleton] at h; omega
theorem set_last (n : Nat) (t : List Int) (x : Int) : (List.replicate (n + 1) 0 ++ t).set n x = List.replicate n 0 ++ (x :: t) := by
  rw [List.replicate_succ', List.append_assoc, List.set_append, if_neg (by simp)]
  simp
theorem listOf {g : List (List Int)} (hg : Grp g) (n : Nat) (h2 : n = 0 ∨ 2 ≤ g.length) (hn : n ≤ 4) {i : Int} (i0 : 0 ≤ i) (i1 : i ≤ 16807) :
    impl_listOf.f g (n : Int) i = some (lst ((g.length : Int) - 1) n i) ∧ spec_l03List.f g (n : Int) i = some (lst ((g.length : Int) - 1) n i) := by
  have n8 := hg.n8; have n1 := hg.n1
  obtain ⟨b, hb⟩ : ∃ b : Int, b = (g.length : Int) - 1 := ⟨_, rfl⟩
  have hw0 : wrapI ((g.length : Int) - 1) = b := by rw [hb]; exact w64 (by omega) (by omega)
  rw [← hb]
  have b1 : n = 0 ∨ 1 ≤ b := by omega
  have b7 : b ≤ 7 := by omega
  have fact : ∀ (n : Nat) (i : Int), n ≤ 4 → 1 ≤ b → 0 ≤ i → i ≤ 16807 → wrapI (Int.tdiv i b) = i / b ∧ wrapI (1 + Int.tmod i b) = i % b + 1 ∧ wrapI (Int.tmod i b + 1) = i % b + 1 ∧ wrapI ((n : Int) - 1) = (n : Int) - 1 ∧ 0 ≤ i / b ∧ i / b ≤ 16807 := by
    intro n i hn b1 i0 i1
    have m0 := Int.emod_nonneg i (show b ≠ 0 by omega)
    have m1 := Int.emod_lt_of_pos i (show 0 < b by omega)
    have d0 : 0 ≤ i / b := Int.ediv_nonneg i0 (by omega)
    have d1 : i / b ≤ i := Int.ediv_le_self _ i0
    rw [tdiv_nn i0, tmod_nn i0]
    exact ⟨w64 (by omega) (by omega), by rw [w64 (by omega) (by omega)]; omega, w64 (by omega) (by omega), w64 (by omega) (by omega), d0, by omega⟩
  have hwn : wrapI ((n : Int) - 1) = (n : Int) - 1 := w64 (by omega) (by omega)
  constructor
  · rw [impl_listOf.f_eq, impl_order.f_eq, Option.bind_some, hw0, hwn, Int.toNat_natCast]
    (with_reducible repeat (first | refine go_pos (by first | assumption | omega | rfl | exact B_pos (by omega)) ?_ | refine go_neg (by first | assumption | omega | decide | exact B_not (by omega)) ?_ | refine go_bind (by first | assumption) ?_ | dsimp only))
    suffices H : ∀ (n : Nat) (i : Int) (t : List Int), n ≤ 4 → (n = 0 ∨ 1 ≤ b) → 0 ≤ i → i ≤ 16807 → impl_listOf.l0 i b ((n : Int) - 1) (List.replicate n 0 ++ t) = some (lst b n i ++ t) by
      simpa using H n i [] hn b1 i0 i1
    intro n
    induction n with
    | zero => intro i t _ _ _ _; rw [impl_listOf.l0_eq]; (with_reducible repeat (first | refine go_pos (by first | assumption | omega | rfl | exact B_pos (by omega)) ?_ | refine go_neg (by first | assumption | omega | decide | exact B_not (by omega)) ?_ | refine go_bind (by first | assumption) ?_ | dsimp only)); rfl
    | succ n ih =>
      intro i t hn b1 i0 i1
      obtain ⟨f1, f2, f3, f5, f6, f7⟩ := fact n i (by omega) (by omega) i0 i1
      have h := ih (i / b) ((i % b + 1) :: t) (by omega) (by omega) f6 f7
      have e : ((n + 1 : Nat) : Int) - 1 = (n : Int) := by omega
      have l1 : (List.replicate (n + 1) (0 : Int) ++ t).length = n + 1 + t.length := by rw [List.length_append, List.length_replicate]
      rw [e, impl_listOf.l0_eq, f1, f2, f5, Int.toNat_natCast, set_last]
      (with_reducible repeat (first | refine go_pos (by first | assumption | omega | rfl | exact B_pos (by omega)) ?_ | refine go_neg (by first | assumption | omega | decide | exact B_not (by omega)) ?_ | refine go_bind (by first | assumption) ?_ | dsimp only))
      rw [h, lst, List.append_assoc, List.singleton_append]
  · rw [spec_l03List.f_eq, spec_l01N.f_eq, Option.bind_some, hw0, hwn, Int.toNat_natCast]
    (with_reducible repeat (first | refine go_pos (by first | assumption | omega | rfl | exact B_pos (by omega)) ?_ | refine go_neg (by first | assumption | omega | decide | exact B_not (by omega)) ?_ | refine go_bind (by first | assumption) ?_ | dsimp only))
    suffices H : ∀ (n : Nat) (i : Int) (t : List Int), n ≤ 4 → (n = 0 ∨ 1 ≤ b) → 0 ≤ i → i ≤ 16807 → spec_l03List.l0 i b ((n : Int) - 1) (List.replicate n 0 ++ t) = some (lst b n i ++ t) by
      simpa using H n i [] hn b1 i0 i1
    intro n
    induction n with
    | zero => intro i t _ _ _ _; rw [spec_l03List.l0_eq]; (with_reducible repeat (first | refine go_pos (by first | assumption | omega | rfl | exact B_pos (by omega)) ?_ | refine go_neg (by first | assumption | omega | decide | exact B_not (by omega)) ?_ | refine go_bind (by first | assumption) ?_ | dsimp only)); rfl
    | succ n ih =>
      intro i t hn b1 i0 i1
      obtain ⟨f1, f2, f3, f5, f6, f7⟩ := fact n i (by omega) (by omega) i0 i1
      have h := ih (i / b) ((i % b + 1) :: t) (by omega) (by omega) f6 f7
      have e : ((n + 1 : Nat) : Int) - 1 = (n : Int) := by omega
      have l1 : (List.replicate (n + 1) (0 : Int) ++ t).length = n + 1 + t.length := by rw [List.length_append, List.length_replicate]
      rw [e, spec_l03List.l0_eq, f1, f3, f5, Int.toNat_natCast, set_last]
      (with_reducible repeat (first | refine go_pos (by first | assumption | omega | rfl | exact B_pos (by omega)) ?_ | refine go_neg (by first | assumption | omega | decide | exact B_not (by omega)) ?_ | refine go_bind (by first | assumption) ?_ | dsimp only))
      rw [h, lst, List.append_assoc, List.singleton_append]
theorem cells_two {g : List (List Int)} (hg : Grp g) {n : Nat} (hc : 0 < cells g n) : n = 0 ∨ 2 ≤ g.length := by
  have n1 := hg.n1
  by_cases h : n = 0
  · exact .inl h
  by_cases h2 : 2 ≤ g.length
  · exact .inr h2
  · have : (g.length : Int) - 1 = 0 := by omega
    have e : cells g (n : Int) = 0 := by unfold cells; rw [this, Int.toNat_natCast]; exact Int.zero_pow h
    omega
theorem cell_list {g : List (List Int)} (hg : Grp g) {n i : Nat} (hn : n ≤ 4) (hi : (i : Int) < cells g n) : impl_listOf.f g (n : Int) i = some (lst ((g.length : Int) - 1) n i) ∧ spec_l03List.f g (n : Int) i = some (lst ((g.length : Int) - 1) n i) := by
  have hb := cells_bd hg (d := (n : Int)) (by omega)
  exact listOf hg n (cells_two hg (by omega)) hn (by omega) (by omega)
theorem lst_grp {g : List (List Int)} (hg : Grp g) {n i : Nat} (hi : (i : Int) < cells g n) : AllIn g.length (lst ((g.length : Int) - 1) n i) ∧ NoUnit (lst ((g.length : Int) - 1) n i) := by
  have n1 := hg.n1
  have H : ∀ x ∈ lst ((g.length : Int) - 1) n i, 1 ≤ x ∧ x < g.length := by
    rcases cells_two hg (show 0 < cells g n by omega) with h | g2
    · subst h; intro x hx; simp [lst] at hx
    · intro x hx
      have := lst_in (b := (g.length : Int) - 1) (by omega) n i x hx
      omega
  exact ⟨allIn_of fun x hx => by have := H x hx; omega, fun j j0 j1 h => by have := H _ (rd_mem j0 j1); omega⟩
theorem build_step (G : Nat → Int) (n i : Nat) (h : i < n) : ((List.range i).map G ++ List.replicate (n - i) 0).set i (G i) = (List.range (i + 1)).map G ++ List.replicate (n - (i + 1)) 0 := by
  rw [List.set_append, if_neg (by simp), List.length_map, List.length_range, Nat.sub_self, show n - i = (n - (i + 1)) + 1 by omega, List.replicate_succ, List.set_cons_zero, List.range_succ, List.map_append]
  simp
theorem build_len (G : Nat → Int) (n i : Nat) (h : i ≤ n) : ((List.range i).map G ++ List.replicate (n - i) 0).length = n := by rw [List.length_append, List.length_map, List.length_range, List.length_replicate]; omega
theorem mod_mod {a m : Int} (m0 : 0 < m) (m1 : m ≤ 1000000) : Int.tmod (wrapI (Int.tmod a m + m)) m = a % m := by
  have t0 := Int.tmod_lt_of_pos a m0
  have t1 : -m < Int.tmod a m := Int.lt_tmod_of_pos a m0
  have hq := Int.mul_tdiv_add_tmod a m
  have h5 : (m * a.tdiv m + a.tmod m) % m = a.tmod m % m := by rw [Int.add_comm, Int.add_mul_emod_self_left]
  rw [hq] at h5
  rw [w64 (by omega) (by omega), Int.tmod_eq_emod_of_nonneg (show 0 ≤ Int.tmod a m + m by omega), Int.add_emod_right, ← h5]
theorem zero_ {g : List (List Int)} (hg : Grp g) {n : Nat} (hn : n ≤ 4) : impl_zero.f g (n : Int) = some ((n : Int), List.replicate (cells g n).toNat 0) := by
  have hb := cells_bd hg (d := (n : Int)) (by omega)
  have hc := cells_ hg (d := (n : Int)) (by omega) (by omega)
  rw [impl_zero.f_eq]
  ((with_reducible repeat (first | refine go_pos (by first | assumption | omega | rfl | exact B_pos (by omega)) ?_ | refine go_neg (by first | assumption | omega | decide | exact B_not (by omega)) ?_ | refine go_bind (by first | assumption) ?_ | dsimp only)); first | done | (with_reducible rfl) | simp (disch := omega) only [w64] | (show False; done))
theorem told {g : List (List Int)} (hg : Grp g) {m : Int} (m2 : 2 ≤ m) (m12 : m ≤ 12) {n : Nat} (hn : n ≤ 4) {F : List Int → Option Int} {G : Nat → Int} (hF : ∀ i : Nat, (i : Int) < cells g n → F (lst ((g.length : Int) - 1) n i) = some (G i)) :
    impl_told.f g m (n : Int) F = some ((n : Int), (List.range (cells g n).toNat).map fun i => G i % m) := by
  have hb := cells_bd hg (d := (n : Int)) (by omega)
  have hz := zero_ hg hn
  obtain ⟨N, hN⟩ : ∃ N, N = (cells g n).toNat := ⟨_, rfl⟩
  rw [impl_told.f_eq, hz, Option.bind_some, ← hN]
  have := up N (fun j => impl_told.l0 m (n : Int) F (N : Int) (j : Int) g 0 (n : Int) ((List.range j).map (fun i => G i % m) ++ List.replicate (N - j) 0)) (fun j h => by
    have hw : wrapI ((j : Int) + 1) = ((j + 1 : Nat) : Int) := by rw [w64 (by omega) (by omega)]; omega
    have f := hF j (by omega)
    have hl := (cell_list hg hn (i := j) (by omega)).1
    have l1 := build_len (fun i => G i % m) N j (by omega)
    have e := mod_mod (a := G j) (m := m) (by omega) (by omega)
    rw [← build_step (fun i => G i % m) N j h, impl_told.l0_eq, hw, hl, Option.bind_some, f, Option.bind_some, e, Int.toNat_natCast]
    ((with_reducible repeat (first | refine go_pos (by first | assumption | omega | rfl | exact B_pos (by omega)) ?_ | refine go_neg (by first | assumption | omega | decide | exact B_not (by omega)) ?_ | refine go_bind (by first | assumption) ?_ | dsimp only)); first | done | (with_reducible rfl) | simp (disch := omega) only [w64] | (show False; done)))
  simp only [Int.natCast_zero, List.range_zero, List.map_nil, List.nil_append, Nat.sub_zero, Nat.sub_self, List.replicate_zero, List.append_nil] at this
  simp only [List.length_replicate]
  rw [this, impl_told.l0_eq]
  ((with_reducible repeat (first | refine go_pos (by first | assumption | omega | rfl | exact B_pos (by omega)) ?_ | refine go_neg (by first | assumption | omega | decide | exact B_not (by omega)) ?_ | refine go_bind (by first | assumption) ?_ | dsimp only)); first | done | (with_reducible rfl) | simp (disch := omega) only [w64] | (show False; done))
end Go.Proofs.Ytpppnoliogdkiaa.V
set_option linter.unusedVariables false
set_option linter.unusedSimpArgs false
set_option maxHeartbeats 2000000
set_option maxRecDepth 20000
namespace Go.Proofs.Ytpppnoliogdkiaa.V
open Go.RowKit Go.Proofs.Ytpppnoliogdkiaa.D Go.Proofs.Ytpppnoliogdkiaa.P
def join2 (g : List (List Int)) (xs : List Int) (j : Nat) : List Int := (xs.take j ++ [T g (rd xs j) (rd xs (j + 1 : Nat))]) ++ xs.drop (j + 2)
noncomputable def bsum (g : List (List Int)) (u v xs : List Int) : Nat → Int × Int
  | 0 => (rd u (rd xs 0) * At g v (xs.drop 1), -1)
  | j + 1 => ((bsum g u v xs j).1 + (bsum g u v xs j).2 * At g v (join2 g xs j), 0 - (bsum g u v xs j).2)
noncomputable def Bd (g : List (List Int)) (u v xs : List Int) (d : Nat) : Int := (bsum g u v xs d).1 + (bsum g u v xs d).2 * At g v (xs.take d)
theorem join2_in {g : List (List Int)} (hg : Grp g) {xs : List Int} (hx : AllIn g.length xs) {j : Nat} (hj : j + 1 < xs.length) : AllIn g.length (join2 g xs j) ∧ (join2 g xs j).length + 1 = xs.length := by
  obtain ⟨a0, a1⟩ := hx j (by omega) (by omega)
  obtain ⟨b0, b1⟩ := hx (j + 1 : Nat) (by omega) (by omega)
  obtain ⟨t0, t1⟩ := hg.ent _ _ a0 a1 b0 b1
  refine ⟨AllIn.append (AllIn.append (hx.take j) (allIn_one t0 t1)) (hx.drop _), ?_⟩
  simp only [join2, List.length_append, List.length_take, List.length_drop, List.length_singleton]
  omega
theorem bsum_bd {g : List (List Int)} (hg : Grp g) {m : Int} {u v xs : List Int} {d : Nat} (hm : Mdl g m u) (hc : Co g m d v) (hx : AllIn g.length xs) (hl : xs.length = d + 1) :
    ∀ j, j ≤ d → (-1000000 - 12 * (j : Int) ≤ (bsum g u v xs j).1 ∧ (bsum g u v xs j).1 ≤ 1000000 + 12 * (j : Int)) ∧ ((bsum g u v xs j).2 = 1 ∨ (bsum g u v xs j).2 = -1) := by
  have m2 := hm.m2; have m12 := hm.m12
  obtain ⟨x0, x1⟩ := hx 0 (by omega) (by omega)
  intro j
  induction j with
  | zero =>
    intro _
    have ha := At_bd hg (by omega) hc (hx.drop 1) (by rw [List.length_drop, hl]; simp)
    obtain ⟨c0, c1⟩ := small_prod hm x0 x1 ha.1 ha.2
    rw [show bsum g u v xs 0 = (rd u (rd xs 0) * At g v (xs.drop 1), -1) from rfl]
    exact ⟨⟨by dsimp only; omega, by dsimp only; omega⟩, .inr rfl⟩
  | succ j ih =>
    intro hj
    obtain ⟨⟨h1, h2⟩, h3⟩ := ih (by omega)
    obtain ⟨k1, k2⟩ := join2_in hg hx (j := j) (by omega)
    have ha := At_bd hg (by omega) hc k1 (by omega)
    simp only [bsum]
    rcases h3 with h3 | h3 <;> rw [h3] <;> refine ⟨⟨by omega, by omega⟩, ?_⟩
    · exact .inr rfl
    · exact .inl rfl
theorem bsum_w {g : List (List Int)} (hg : Grp g) {m : Int} {u v xs ys : List Int} {d : Nat} (hm : Mdl g m u) (hc : Co g m d v) (hx : AllIn g.length xs) (hl : xs.length = d + 1) {j : Nat} (hj : j ≤ d) (hy : AllIn g.length ys) (hyl : ys.length = d) :
    wrapI ((bsum g u v xs j).1 + wrapI ((bsum g u v xs j).2 * At g v ys)) = (bsum g u v xs j).1 + (bsum g u v xs j).2 * At g v ys ∧ wrapI (0 - (bsum g u v xs j).2) = 0 - (bsum g u v xs j).2 ∧ -2000000 ≤ (bsum g u v xs j).1 + (bsum g u v xs j).2 * At g v ys ∧ (bsum g u v xs j).1 + (bsum g u v xs j).2 * At g v ys ≤ 2000000 := by
  have m2 := hm.m2; have m12 := hm.m12; have d3 := hc.1.2
  obtain ⟨⟨s1, s2⟩, s3⟩ := bsum_bd hg hm hc hx hl j hj
  have hb := At_bd hg (by omega) hc hy (by omega)
  have p1 : -100 ≤ (bsum g u v xs j).2 * At g v ys ∧ (bsum g u v xs j).2 * At g v ys ≤ 100 := by rcases s3 with s3 | s3 <;> rw [s3] <;> omega
  rw [w64 (x := (bsum g u v xs j).2 * At g v ys) (by omega) (by omega)]
  exact ⟨w64 (by omega) (by omega), w64 (by omega) (by omega), by omega, by omega⟩
theorem head_w {g : List (List Int)} (hg : Grp g) {m : Int} {u v xs : List Int} {d : Nat} (hm : Mdl g m u) (hc : Co g m d v) (hx : AllIn g.length xs) (hl : xs.length = d + 1) :
    wrapI (rd u (rd xs 0) * At g v (xs.drop 1)) = rd u (rd xs 0) * At g v (xs.drop 1) := by
  have m2 := hm.m2; have m12 := hm.m12
  obtain ⟨x0, x1⟩ := hx 0 (by omega) (by omega)
  have ha := At_bd hg (by omega) hc (hx.drop 1) (by rw [List.length_drop, hl]; simp)
  obtain ⟨c0, c1⟩ := small_prod hm x0 x1 ha.1 ha.2
  exact w64 (by omega) (by omega)
theorem Own_ (xs : List Int) (hl : xs.length ≤ 1048576) : spec_l01Own.f xs = some xs := by
  rw [spec_l01Own.f_eq, List.nil_append, show ([] : List Int).length = 0 from rfl]
  ((with_reducible repeat (first | refine go_pos (by first | assumption | omega | rfl | exact B_pos (by omega)) ?_ | refine go_neg (by first | assumption | omega | decide | exact B_not (by omega)) ?_ | refine go_bind (by first | assumption) ?_ | dsimp only)); first | done | (with_reducible rfl) | simp (disch := omega) only [w64] | (show False; done))
theorem w2n {j : Nat} (h : j < 4611686018427387904) : wrapI ((j : Int) + 2) = ((j + 2 : Nat) : Int) := by rw [w64 (by omega) (by omega)]; omega
theorem boundaryAt {g : List (List Int)} (hg : Grp g) {m : Int} {u v xs : List Int} {d : Nat} (hm : Mdl g m u) (hc : Co g m d v) (hx : AllIn g.length xs) (hl : xs.length = d + 1) :
    impl_boundaryAt.f g m u d v xs = some (Bd g u v xs d) := by
  have hlu := hm.len; have n8 := hg.n8; have d3 := hc.1.2
  obtain ⟨x0, x1⟩ := hx 0 (by omega) (by omega)
  have h0 := at_ hg hc (hx.drop 1) (by rw [List.length_drop, hl]; simp)
  have hat := at_ hg hc (hx.take d) (by rw [List.length_take, hl]; omega)
  have loop := up d (fun i => impl_boundaryAt.l0 xs (d : Int) (bsum g u v xs i).1 (bsum g u v xs i).2 (d : Int) (i : Int) g d v) (fun j hj => by
    obtain ⟨a0, a1⟩ := hx j (by omega) (by omega)
    obtain ⟨b0, b1⟩ := hx (j + 1 : Nat) (by omega) (by omega)
    obtain ⟨k1, k2⟩ := join2_in hg hx (j := j) (by omega)
    have hv : impl_Cochain_at.f d v g (xs.take j ++ [T g (rd xs j) (rd xs (j + 1 : Nat))] ++ xs.drop (j + 2)) = some (At g v (join2 g xs j)) := show impl_Cochain_at.f d v g (join2 g xs j) = _ from at_ hg hc k1 (by omega)
    have ht := times2 hg a0 a1 b0 b1
    obtain ⟨w3, w4, _, _⟩ := bsum_w hg hm hc hx hl (j := j) (by omega) k1 (by omega)
    have z1 : (xs.take j).length = j := by rw [List.length_take]; omega
    have z0 : ([] : List Int).length = 0 := rfl
    have z2 : ∀ y : Int, ([y] : List Int).length = 1 := fun _ => rfl
    have z3 : (xs.drop (j + 2)).length = xs.length - (j + 2) := List.length_drop
    rw [impl_boundaryAt.l0_eq, wn (j := j) (by omega), w2n (j := j) (by omega), Int.toNat_natCast, Int.toNat_natCast, z0, List.nil_append, z1, ht, Option.bind_some, z2]
    rw [List.length_append, z1, z2, z3, hv, Option.bind_some, w3, w4]
    (with_reducible repeat (first | refine go_pos (by first | assumption | omega | rfl | exact B_pos (by omega)) ?_ | refine go_neg (by first | assumption | omega | decide | exact B_not (by omega)) ?_ | refine go_bind (by first | assumption) ?_ | dsimp only))
    rfl)
  have wl : wrapI ((xs.length : Int) - 1) = (d : Int) := by rw [w64 (by omega) (by omega)]; omega
  obtain ⟨w3, _, _, _⟩ := bsum_w hg hm hc hx hl (j := d) (by omega) (hx.take d) (by rw [List.length_take]; omega)
  have e1 : xs.drop (1 : Int).toNat = xs.drop 1 := rfl
  rw [impl_boundaryAt.f_eq, e1, h0, Option.bind_some, wl, head_w hg hm hc hx hl]
  (with_reducible repeat (first | refine go_pos (by first | assumption | omega | rfl | exact B_pos (by omega)) ?_ | refine go_neg (by first | assumption | omega | decide | exact B_not (by omega)) ?_ | refine go_bind (by first | assumption) ?_ | dsimp only))
  refine loop.trans ?_
  rw [impl_boundaryAt.l0_eq, Int.toNat_natCast, hat, Option.bind_some, w3]
  (with_reducible repeat (first | refine go_pos (by first | assumption | omega | rfl | exact B_pos (by omega)) ?_ | refine go_neg (by first | assumption | omega | decide | exact B_not (by omega)) ?_ | refine go_bind (by first | assumption) ?_ | dsimp only))
  rfl
theorem Side_ {g : List (List Int)} (hg : Grp g) {m : Int} {u v xs : List Int} {d : Nat} (hm : Mdl g m u) (hc : Co g m d v) (hx : AllIn g.length xs) (hl : xs.length = d + 1) :
    spec_l03Side.f g m u d v xs = some (Bd g u v xs d % m) := by
  have hlu := hm.len; have n8 := hg.n8; have d3 := hc.1.2; have m2 := hm.m2; have m12 := hm.m12
  obtain ⟨x0, x1⟩ := hx 0 (by omega) (by omega)
  have h0 := At_ (u := u) hg hc (hx.drop 1) (by rw [List.length_drop, hl]; simp)
  have hat := At_ (u := u) hg hc (hx.take d) (by rw [List.length_take, hl]; omega)
  have loop := up d (fun i => spec_l03Side.l0 xs (d : Int) (bsum g u v xs i).1 (bsum g u v xs i).2 (i : Int) g m u d v) (fun j hj => by
    obtain ⟨a0, a1⟩ := hx j (by omega) (by omega)
    obtain ⟨b0, b1⟩ := hx (j + 1 : Nat) (by omega) (by omega)
    obtain ⟨k1, k2⟩ := join2_in hg hx (j := j) (by omega)
    have hv : spec_l03At.f g d v (xs.take j ++ [T g (rd xs j) (rd xs (j + 1 : Nat))] ++ xs.drop (j + 2)) = some (At g v (join2 g xs j)) := show spec_l03At.f g d v (join2 g xs j) = _ from At_ (u := u) hg hc k1 (by omega)
    have ra := hg.row _ a0 a1
    obtain ⟨w3, w4, _, _⟩ := bsum_w hg hm hc hx hl (j := j) (by omega) k1 (by omega)
    have z1 : (xs.take j).length = j := by rw [List.length_take]; omega
    have z2 : ∀ y : Int, ([y] : List Int).length = 1 := fun _ => rfl
    have z3 : (xs.drop (j + 2)).length = xs.length - (j + 2) := List.length_drop
    have ho := Own_ (xs.take j) (by omega)
    rw [spec_l03Side.l0_eq, wn (j := j) (by omega), w2n (j := j) (by omega), Int.toNat_natCast, Int.toNat_natCast, ho, Option.bind_some, z2]
    rw [List.length_append, z1, z2, z3, hv, Option.bind_some, w3, w4]
    (with_reducible repeat (first | refine go_pos (by first | assumption | omega | rfl | exact B_pos (by omega)) ?_ | refine go_neg (by first | assumption | omega | decide | exact B_not (by omega)) ?_ | refine go_bind (by first | assumption) ?_ | dsimp only))
    rfl)
  have wl : wrapI ((xs.length : Int) - 1) = (d : Int) := by rw [w64 (by omega) (by omega)]; omega
  obtain ⟨w3, _, b1, b2⟩ := bsum_w hg hm hc hx hl (j := d) (by omega) (hx.take d) (by rw [List.length_take]; omega)
  have e1 : xs.drop (1 : Int).toNat = xs.drop 1 := rfl
  have hmod := Mod_ (a := (bsum g u v xs d).1 + (bsum g u v xs d).2 * At g v (xs.take d)) (m := m) (by omega) (by omega) (by omega) (by omega)
  rw [spec_l03Side.f_eq, e1, h0, Option.bind_some, wl, head_w hg hm hc hx hl]
  (with_reducible repeat (first | refine go_pos (by first | assumption | omega | rfl | exact B_pos (by omega)) ?_ | refine go_neg (by first | assumption | omega | decide | exact B_not (by omega)) ?_ | refine go_bind (by first | assumption) ?_ | dsimp only))
  refine loop.trans ?_
  rw [spec_l03Side.l0_eq, Int.toNat_natCast, hat, Option.bind_some, w3, hmod]
  (with_reducible repeat (first | refine go_pos (by first | assumption | omega | rfl | exact B_pos (by omega)) ?_ | refine go_neg (by first | assumption | omega | decide | exact B_not (by omega)) ?_ | refine go_bind (by first | assumption) ?_ | dsimp only))
  rfl
noncomputable def bdV (g : List (List Int)) (u v : List Int) (d i : Nat) : Int := Bd g u v (lst ((g.length : Int) - 1) (d + 1) (i : Int)) d
noncomputable def bdL (g : List (List Int)) (m : Int) (u v : List Int) (d : Nat) : List Int := (List.range (cells g ((d + 1 : Nat) : Int)).toNat).map fun i => bdV g u v d i % m
theorem boundary_ {g : List (List Int)} (hg : Grp g) {m : Int} {u v : List Int} {d : Nat} (hm : Mdl g m u) (hc : Co g m d v) : impl_boundary.f g m u d v = some (((d + 1 : Nat) : Int), bdL g m u v d) := by
  have d3 := hc.1.2
  have hT := told hg hm.m2 hm.m12 (n := d + 1) (by omega) (F := fun z0 => (impl_boundary_1.f z0 g m u d v).map fun z => z) (G := bdV g u v d) (fun i hi => by
    obtain ⟨hx, _⟩ := lst_grp hg (n := d + 1) (i := i) hi
    have hll := lst_length ((g.length : Int) - 1) (d + 1) i
    have e : impl_boundary_1.f (lst ((g.length : Int) - 1) (d + 1) i) g m u d v = some (bdV g u v d i) := by
      rw [impl_boundary_1.f_eq, boundaryAt hg hm hc hx hll]; rfl
    show Option.map _ (impl_boundary_1.f _ g m u d v) = _
    rw [e]; rfl)
  rw [impl_boundary.f_eq, wn (j := d) (by omega), hT]
  rfl
def Cocy (g : List (List Int)) (m : Int) (u v : List Int) (d : Nat) : Prop := ∀ i : Int, 0 ≤ i → i < (cells g ((d + 1 : Nat) : Int)).toNat → bdV g u v d i.toNat % m = 0
theorem isCocycle {g : List (List Int)} (hg : Grp g) {m : Int} {u v : List Int} {d : Nat} (hm : Mdl g m u) (hc : Co g m d v) : impl_isCocycle.f g m u d v = some (B (Cocy g m u v d)) := by
  have d3 := hc.1.2
  have hb := cells_bd hg (d := ((d + 1 : Nat) : Int)) (by omega)
  have hl : (bdL g m u v d).length = (cells g ((d + 1 : Nat) : Int)).toNat := by rw [bdL, List.length_map, List.length_range]
  rw [impl_isCocycle.f_eq, boundary_ hg hm hc, Option.bind_some, hl]
  refine scanT _ (fun i => impl_isCocycle.l0 ((cells g ((d + 1 : Nat) : Int)).toNat : Int) i (bdL g m u v d)) (fun i => bdV g u v d i.toNat % m = 0) (fun i i0 i1 _ => ?_) (fun _ => by (rw [impl_isCocycle.l0_eq]); ((with_reducible repeat (first | refine go_pos (by first | assumption | omega | rfl | exact B_pos (by omega)) ?_ | refine go_neg (by first | assumption | omega | decide | exact B_not (by omega)) ?_ | refine go_bind (by first | assumption) ?_ | dsimp only)); first | done | (with_reducible rfl) | simp (disch := omega) only [w64] | (show False; done)))
  obtain ⟨n, rfl⟩ := Int.eq_ofNat_of_zero_le i0
  have e : rd (bdL g m u v d) (n : Int) = bdV g u v d n % m := by
    rw [rd_get (by omega)]; simp [bdL]
  rw [Int.toNat_natCast]
  refine ⟨fun h => ?_, fun h => ?_⟩ <;> rw [impl_isCocycle.l0_eq, e] <;> ((with_reducible repeat (first | refine go_pos (by first | assumption | omega | rfl | exact B_pos (by omega)) ?_ | refine go_neg (by first | assumption | omega | decide | exact B_not (by omega)) ?_ | refine go_bind (by first | assumption) ?_ | dsimp only)); first | done | (with_reducible rfl) | simp (disch := omega) only [w64] | (show False; done))
theorem Cocycle_ {g : List (List Int)} (hg : Grp g) {m : Int} {u v : List Int} {d : Nat} (hm : Mdl g m u) (hc : Co g m d v) : spec_l03Cocycle.f g m u d v = some (B (Cocy g m u v d)) := by
  have d3 := hc.1.2
  have hb := cells_bd hg (d := ((d + 1 : Nat) : Int)) (by omega)
  have hCl := Cells_ hg (d := ((d + 1 : Nat) : Int)) (by omega) (by omega)
  rw [spec_l03Cocycle.f_eq]
  refine scanT _ (fun i => spec_l03Cocycle.l0 i g m u d v) (fun i => bdV g u v d i.toNat % m = 0) (fun i i0 i1 _ => ?_) (fun _ => by rw [spec_l03Cocycle.l0_eq, wn (j := d) (by omega), hCl, Option.bind_some]; ((with_reducible repeat (first | refine go_pos (by first | assumption | omega | rfl | exact B_pos (by omega)) ?_ | refine go_neg (by first | assumption | omega | decide | exact B_not (by omega)) ?_ | refine go_bind (by first | assumption) ?_ | dsimp only)); first | done | (with_reducible rfl) | simp (disch := omega) only [w64] | (show False; done)))
  obtain ⟨n, rfl⟩ := Int.eq_ofNat_of_zero_le i0
  obtain ⟨hx, _⟩ := lst_grp hg (n := d + 1) (i := n) (by omega)
  have hll := lst_length ((g.length : Int) - 1) (d + 1) n
  have hL := (cell_list hg (n := d + 1) (i := n) (by omega) (by omega)).2
  have hS : spec_l03Side.f g m u d v (lst ((g.length : Int) - 1) (d + 1) n) = some (bdV g u v d n % m) := Side_ hg hm hc hx hll
  rw [Int.toNat_natCast]
  refine ⟨fun h => ?_, fun h => ?_⟩ <;> rw [spec_l03Cocycle.l0_eq, wn (j := d) (by omega), hCl, Option.bind_some] <;> ((with_reducible repeat (first | refine go_pos (by first | assumption | omega | rfl | exact B_pos (by omega)) ?_ | refine go_neg (by first | assumption | omega | decide | exact B_not (by omega)) ?_ | refine go_bind (by first | assumption) ?_ | dsimp only)); first | done | (with_reducible rfl) | simp (disch := omega) only [w64] | (show False; done))
end Go.Proofs.Ytpppnoliogdkiaa.V
set_option linter.unusedVariables false
set_option linter.unusedSimpArgs false
set_option maxHeartbeats 2000000
set_option maxRecDepth 20000
namespace Go.Proofs.Ytpppnoliogdkiaa.V
open Go.RowKit Go.Proofs.Ytpppnoliogdkiaa.D Go.Proofs.Ytpppnoliogdkiaa.P
theorem factor (g : List (List Int)) (hl : g.length ≤ maxLen) (hr : ∀ r ∈ g, r.length ≤ maxLen) (m : Int) (u : List Int) (hu : u.length ≤ maxLen) (d : Int) (v : List Int) (hv : v.length ≤ maxLen) (most : Int) :
    (d = 2 ∧ Grp g ∧ Mdl g m u ∧ Co g m 2 v ∧ Cocy g m u v 2 ∧ (g.length : Int) * m ≤ most ∧ spec_l06Given.f g m u d v most = some 0 ∧ impl_factorCode.f g m u d v most = some 0) ∨
    ∃ c : Int, ¬ c = 0 ∧ spec_l06Given.f g m u d v most = some c ∧ impl_factorCode.f g m u d v most = some c := by
  rw [spec_l06Given.f_eq, impl_factorCode.f_eq]
  rcases co_codes g hl hr m u hu d v hv with ⟨hg, hm, hc, cI, cS⟩ | ⟨_, cI, cS⟩
  rotate_left
  · exact .inr ⟨1, by omega, by ((with_reducible repeat (first | refine go_pos (by first | assumption | omega | rfl | exact B_pos (by omega)) ?_ | refine go_neg (by first | assumption | omega | decide | exact B_not (by omega)) ?_ | refine go_bind (by first | assumption) ?_ | dsimp only)); first | done | (with_reducible rfl) | simp (disch := omega) only [w64] | (show False; done)), by ((with_reducible repeat (first | refine go_pos (by first | assumption | omega | rfl | exact B_pos (by omega)) ?_ | refine go_neg (by first | assumption | omega | decide | exact B_not (by omega)) ?_ | refine go_bind (by first | assumption) ?_ | dsimp only)); first | done | (with_reducible rfl) | simp (disch := omega) only [w64] | (show False; done))⟩
  have n8 := hg.n8; have m2 := hm.m2; have m12 := hm.m12
  by_cases h2 : d = 2
  rotate_left
  · exact .inr ⟨2, by omega, by ((with_reducible repeat (first | refine go_pos (by first | assumption | omega | rfl | exact B_pos (by omega)) ?_ | refine go_neg (by first | assumption | omega | decide | exact B_not (by omega)) ?_ | refine go_bind (by first | assumption) ?_ | dsimp only)); first | done | (with_reducible rfl) | simp (disch := omega) only [w64] | (show False; done)), by ((with_reducible repeat (first | refine go_pos (by first | assumption | omega | rfl | exact B_pos (by omega)) ?_ | refine go_neg (by first | assumption | omega | decide | exact B_not (by omega)) ?_ | refine go_bind (by first | assumption) ?_ | dsimp only)); first | done | (with_reducible rfl) | simp (disch := omega) only [w64] | (show False; done))⟩
  subst h2
  have b0 : 0 ≤ (g.length : Int) * m := Int.mul_nonneg (by omega) (by omega)
  have b1 : (g.length : Int) * m ≤ 8 * 12 := Int.mul_le_mul (by omega) m12 (by omega) (by omega)
  rw [spec_l01N.f_eq, Option.bind_some, impl_order.f_eq, Option.bind_some, w64 (x := (g.length : Int) * m) (by omega) (by omega)]
  by_cases h3 : (g.length : Int) * m > most
  · exact .inr ⟨3, by omega, by ((with_reducible repeat (first | refine go_pos (by first | assumption | omega | rfl | exact B_pos (by omega)) ?_ | refine go_neg (by first | assumption | omega | decide | exact B_not (by omega)) ?_ | refine go_bind (by first | assumption) ?_ | dsimp only)); first | done | (with_reducible rfl) | simp (disch := omega) only [w64] | (show False; done)), by ((with_reducible repeat (first | refine go_pos (by first | assumption | omega | rfl | exact B_pos (by omega)) ?_ | refine go_neg (by first | assumption | omega | decide | exact B_not (by omega)) ?_ | refine go_bind (by first | assumption) ?_ | dsimp only)); first | done | (with_reducible rfl) | simp (disch := omega) only [w64] | (show False; done))⟩
  have c1 := isCocycle hg hm (d := 2) hc
  have c2 := Cocycle_ hg hm (d := 2) hc
  have e : ((2 : Nat) : Int) = 2 := rfl
  rw [e] at c1 c2
  by_cases h4 : Cocy g m u v 2
  · rw [B_pos h4] at c1 c2
    exact .inl ⟨rfl, hg, hm, hc, h4, by omega, by ((with_reducible repeat (first | refine go_pos (by first | assumption | omega | rfl | exact B_pos (by omega)) ?_ | refine go_neg (by first | assumption | omega | decide | exact B_not (by omega)) ?_ | refine go_bind (by first | assumption) ?_ | dsimp only)); first | done | (with_reducible rfl) | simp (disch := omega) only [w64] | (show False; done)), by ((with_reducible repeat (first | refine go_pos (by first | assumption | omega | rfl | exact B_pos (by omega)) ?_ | refine go_neg (by first | assumption | omega | decide | exact B_not (by omega)) ?_ | refine go_bind (by first | assumption) ?_ | dsimp only)); first | done | (with_reducible rfl) | simp (disch := omega) only [w64] | (show False; done))⟩
  · rw [B_neg h4] at c1 c2
    exact .inr ⟨5, by omega, by ((with_reducible repeat (first | refine go_pos (by first | assumption | omega | rfl | exact B_pos (by omega)) ?_ | refine go_neg (by first | assumption | omega | decide | exact B_not (by omega)) ?_ | refine go_bind (by first | assumption) ?_ | dsimp only)); first | done | (with_reducible rfl) | simp (disch := omega) only [w64] | (show False; done)), by ((with_reducible repeat (first | refine go_pos (by first | assumption | omega | rfl | exact B_pos (by omega)) ?_ | refine go_neg (by first | assumption | omega | decide | exact B_not (by omega)) ?_ | refine go_bind (by first | assumption) ?_ | dsimp only)); first | done | (with_reducible rfl) | simp (disch := omega) only [w64] | (show False; done))⟩
theorem parts {n m p : Int} (hm : 0 < m) (h0 : 0 ≤ p) (h1 : p < n * m) : 0 ≤ p / m ∧ p / m < n ∧ 0 ≤ p % m ∧ p % m < m :=
  ⟨Int.ediv_nonneg h0 (by omega), Int.ediv_lt_of_lt_mul hm h1, Int.emod_nonneg _ (by omega), Int.emod_lt_of_pos _ hm⟩
end Go.Proofs.Ytpppnoliogdkiaa.V
set_option linter.unusedVariables false
namespace Go.Proofs.Ytpppnoliogdkiaa.P
open Go Go.RowKit Go.Proofs.Ytpppnoliogdkiaa.D
end Go.Proofs.Ytpppnoliogdkiaa.P
set_option linter.unusedVariables false
namespace Go.Proofs.Ytpppnoliogdkiaa.P
open Go Go.RowKit Go.Proofs.Ytpppnoliogdkiaa.D
end Go.Proofs.Ytpppnoliogdkiaa.P
set_option linter.unusedVariables false
namespace Go.Proofs.Ytpppnoliogdkiaa.P
open Go Go.RowKit Go.Proofs.Ytpppnoliogdkiaa.D
end Go.Proofs.Ytpppnoliogdkiaa.P
set_option linter.unusedVariables false
namespace Go.Proofs.Ytpppnoliogdkiaa.P
open Go Go.RowKit Go.Proofs.Ytpppnoliogdkiaa.D
end Go.Proofs.Ytpppnoliogdkiaa.P
set_option linter.unusedVariables false
namespace Go.Proofs.Ytpppnoliogdkiaa.P
open Go Go.RowKit Go.Proofs.Ytpppnoliogdkiaa.D
end Go.Proofs.Ytpppnoliogdkiaa.P
set_option linter.unusedVariables false
namespace Go.Proofs.Ytpppnoliogdkiaa.P
open Go Go.RowKit Go.Proofs.Ytpppnoliogdkiaa.D
end Go.Proofs.Ytpppnoliogdkiaa.P
set_option linter.unusedVariables false
namespace Go.Proofs.Ytpppnoliogdkiaa.P
open Go Go.RowKit Go.Proofs.Ytpppnoliogdkiaa.D
end Go.Proofs.Ytpppnoliogdkiaa.P
set_option linter.unusedVariables false
namespace Go.Proofs.Ytpppnoliogdkiaa.P
open Go Go.RowKit Go.Proofs.Ytpppnoliogdkiaa.D
end Go.Proofs.Ytpppnoliogdkiaa.P
set_option linter.unusedVariables false
namespace Go.Proofs.Ytpppnoliogdkiaa.P
open Go Go.RowKit Go.Proofs.Ytpppnoliogdkiaa.D
end Go.Proofs.Ytpppnoliogdkiaa.P
set_option linter.unusedVariables false
namespace Go.Proofs.Ytpppnoliogdkiaa.P
open Go Go.RowKit Go.Proofs.Ytpppnoliogdkiaa.D
end Go.Proofs.Ytpppnoliogdkiaa.P
set_option linter.unusedVariables false
namespace Go.Proofs.Ytpppnoliogdkiaa.P
open Go Go.RowKit Go.Proofs.Ytpppnoliogdkiaa.D
end Go.Proofs.Ytpppnoliogdkiaa.P
set_option linter.unusedVariables false
namespace Go.Proofs.Ytpppnoliogdkiaa.P
open Go Go.RowKit Go.Proofs.Ytpppnoliogdkiaa.D
end Go.Proofs.Ytpppnoliogdkiaa.P
set_option linter.unusedVariables false
namespace Go.Proofs.Ytpppnoliogdkiaa.P
open Go Go.RowKit Go.Proofs.Ytpppnoliogdkiaa.D
end Go.Proofs.Ytpppnoliogdkiaa.P
set_option linter.unusedVariables false
namespace Go.Proofs.Ytpppnoliogdkiaa.P
open Go Go.RowKit Go.Proofs.Ytpppnoliogdkiaa.D
end Go.Proofs.Ytpppnoliogdkiaa.P
set_option linter.unusedVariables false
namespace Go.Proofs.Ytpppnoliogdkiaa.P
open Go Go.RowKit Go.Proofs.Ytpppnoliogdkiaa.D
end Go.Proofs.Ytpppnoliogdkiaa.P
set_option linter.unusedVariables false
namespace Go.Proofs.Ytpppnoliogdkiaa.P
open Go Go.RowKit Go.Proofs.Ytpppnoliogdkiaa.D
end Go.Proofs.Ytpppnoliogdkiaa.P
set_option linter.unusedVariables false
namespace Go.Proofs.Ytpppnoliogdkiaa.P
open Go Go.RowKit Go.Proofs.Ytpppnoliogdkiaa.D
end Go.Proofs.Ytpppnoliogdkiaa.P
set_option linter.unusedVariables false
namespace Go.Proofs.Ytpppnoliogdkiaa.P
open Go Go.RowKit Go.Proofs.Ytpppnoliogdkiaa.D
end Go.Proofs.Ytpppnoliogdkiaa.P
set_option linter.unusedVariables false
namespace Go.Proofs.Ytpppnoliogdkiaa.P
open Go Go.RowKit Go.Proofs.Ytpppnoliogdkiaa.D
noncomputable def spec_l03Add.E : Env := { tt := TT, con := [(96, spec_l01Own.con), (97, spec_l01Mod.con)], frz := [], rows := [], live := [(3, [3, 4, 5, 6, 8, 9, 10])], n := 45, pin := 0, nils := [] }
noncomputable def spec_l03Add.fn : D.Fn := { body := Try.f94.body.getD .skip, res := Try.f94.results.toList, ins := [.agg [.v (.int .i64), .v (.sl 2 (.int .i64))], .agg [.v (.int .i64), .v (.sl 2 (.int .i64))], .agg [.v (.int .i64), .v (.sl 2 (.int .i64))], .one (.v (.int .i64))], outs := [.agg [.v (.int .i64), .own 2 true (.int .i64)]] }
def spec_l03Add.enc (y : lsd (flats spec_l03Add.fn.outs) × lsd (ios spec_l03Add.fn.ins)) : Int × (List Int) := (y.1.1, y.1.2.1)
noncomputable def spec_l03Add.f (a0_0 : Int) (l0_1 : List Int) (a1_0 : Int) (l1_1 : List Int) (a2_0 : Int) (l2_1 : List Int) (a3 : Int) : Option (Int × (List Int)) := denF spec_l03Add.E spec_l03Add.fn spec_l03Add.enc (a0_0, l0_1, a1_0, l1_1, a2_0, l2_1, a3, ())
noncomputable def spec_l03Add.l0 (x3 : Int) (x10 : Int) (b0_0 : Int) (b0_1 : List Int) (b1_0 : Int) (b1_1 : List Int) (b2_0 : Int) (b2_1 : List Int) (b3_0 : Int) (b4_0 : Int) (r5 : List Int) : Option (Int × (List Int)) := denAt spec_l03Add.E spec_l03Add.fn spec_l03Add.enc [1, 1, 0, 1, 0] { fr := [(3, .lf (.int .i64 x3)), (4, .lf (.box 0 0)), (5, .lf (.box 1 0)), (6, .lf (.box 2 0)), (8, .lf (.box 3 0)), (9, .lf (.box 4 0)), (10, .lf (.int .i64 x10))], ob := [(0, .box 34 false [.int .i64 b0_0, .sl (.int .i64) b0_1]), (1, .box 48 false [.int .i64 b1_0, .sl (.int .i64) b1_1]), (2, .box 48 false [.int .i64 b2_0, .sl (.int .i64) b2_1]), (3, .box 48 false [.int .i64 b3_0, .nil]), (4, .box 48 false [.int .i64 b4_0, .own 5]), (5, .row 2 true (.int .i64) r5)], nx := 6 }
set_option maxRecDepth 100000 in
theorem spec_l03Add.f_eq (a0_0 : Int) (l0_1 : List Int) (a1_0 : Int) (l1_1 : List Int) (a2_0 : Int) (l2_1 : List Int) (a3 : Int) : spec_l03Add.f a0_0 l0_1 a1_0 l1_1 a2_0 l2_1 a3 = (spec_l01Own.f l1_1).bind fun t15 => spec_l03Add.l0 a3 0 a0_0 l0_1 a1_0 l1_1 a2_0 l2_1 0 a1_0 t15 := by kernel_rfl
set_option maxRecDepth 100000 in
theorem spec_l03Add.l0_eq (x3 : Int) (x10 : Int) (b0_0 : Int) (b0_1 : List Int) (b1_0 : Int) (b1_1 : List Int) (b2_0 : Int) (b2_1 : List Int) (b3_0 : Int) (b4_0 : Int) (r5 : List Int) : spec_l03Add.l0 x3 x10 b0_0 b0_1 b1_0 b1_1 b2_0 b2_1 b3_0 b4_0 r5 = if x10 < (r5.length : Int) then (if 0 ≤ x10 then (if x10 < (b1_1.length : Int) then (if 0 ≤ x10 then (if x10 < (b2_1.length : Int) then ((spec_l01Mod.f (wrapI ((rd b1_1 x10) + (wrapI (x3 * (rd b2_1 x10))))) b0_0).bind fun t42 => if 0 ≤ x10 then (if x10 < (r5.length : Int) then (if 0 ≤ x10 then (if x10 < (r5.length : Int) then (spec_l03Add.l0 x3 (wrapI (x10 + 1)) b0_0 b0_1 b1_0 b1_1 b2_0 b2_1 b3_0 b4_0 (r5.set (x10 : Int).toNat t42)) else none) else none) else none) else none) else none) else none) else none) else none) else (some (b4_0, r5)) := (loop_unfold _ _ _ _).trans (by kernel_rfl)
end Go.Proofs.Ytpppnoliogdkiaa.P
set_option linter.unusedVariables false
namespace Go.Proofs.Ytpppnoliogdkiaa.P
open Go Go.RowKit Go.Proofs.Ytpppnoliogdkiaa.D
end Go.Proofs.Ytpppnoliogdkiaa.P
set_option linter.unusedVariables false
namespace Go.Proofs.Ytpppnoliogdkiaa.P
open Go Go.RowKit Go.Proofs.Ytpppnoliogdkiaa.D
end Go.Proofs.Ytpppnoliogdkiaa.P
set_option linter.unusedVariables false
namespace Go.Proofs.Ytpppnoliogdkiaa.P
open Go Go.RowKit Go.Proofs.Ytpppnoliogdkiaa.D
end Go.Proofs.Ytpppnoliogdkiaa.P
set_option linter.unusedVariables false
namespace Go.Proofs.Ytpppnoliogdkiaa.P
open Go Go.RowKit Go.Proofs.Ytpppnoliogdkiaa.D
end Go.Proofs.Ytpppnoliogdkiaa.P
set_option linter.unusedVariables false
namespace Go.Proofs.Ytpppnoliogdkiaa.P
open Go Go.RowKit Go.Proofs.Ytpppnoliogdkiaa.D
end Go.Proofs.Ytpppnoliogdkiaa.P
set_option linter.unusedVariables false
namespace Go.Proofs.Ytpppnoliogdkiaa.P
open Go Go.RowKit Go.Proofs.Ytpppnoliogdkiaa.D
end Go.Proofs.Ytpppnoliogdkiaa.P
set_option linter.unusedVariables false
namespace Go.Proofs.Ytpppnoliogdkiaa.P
open Go Go.RowKit Go.Proofs.Ytpppnoliogdkiaa.D
noncomputable def impl_cocycles.E : Env := { tt := TT, con := [(135, impl_bounded.con), (136, impl_span_part.con)], frz := [], rows := [], live := [], n := 19, pin := 0, nils := [] }
noncomputable def impl_cocycles.fn : D.Fn := { body := Try.f82.body.getD .skip, res := Try.f82.results.toList, ins := [.agg [.v (.sl 25 (.sl 2 (.int .i64)))], .agg [.v (.int .i64), .v (.sl 2 (.int .i64))], .one (.v (.int .i64))], outs := [.ptr false 133 [.v (.int .i64), .own 25 false (.sl 1000002 (.int .i64))]] }
def impl_cocycles.enc (y : lsd (flats impl_cocycles.fn.outs) × lsd (ios impl_cocycles.fn.ins)) : Int × (List (List Int)) := (y.1.1, y.1.2.1)
noncomputable def impl_cocycles.f (l0_0 : List (List Int)) (a1_0 : Int) (l1_1 : List Int) (a2 : Int) : Option (Int × (List (List Int))) := denF impl_cocycles.E impl_cocycles.fn impl_cocycles.enc (l0_0, a1_0, l1_1, a2, ())
set_option maxRecDepth 100000 in
theorem impl_cocycles.f_eq (l0_0 : List (List Int)) (a1_0 : Int) (l1_1 : List Int) (a2 : Int) : impl_cocycles.f l0_0 a1_0 l1_1 a2 = (impl_bounded.f l0_0 a1_0 l1_1 a2).bind fun t13 => (impl_span_part.f t13.1 t13.2.1 t13.2.2).bind fun t18 => some (t18.1, t18.2.1) := by kernel_rfl
end Go.Proofs.Ytpppnoliogdkiaa.P
set_option linter.unusedVariables false
set_option linter.unusedSimpArgs false
namespace Go.Proofs.Ytpppnoliogdkiaa.V
open Go.RowKit Go.Proofs.Ytpppnoliogdkiaa.D
abbrev Vc := Nat → Int
inductive Sp (m : Int) (W : Nat) (G : Vc → Prop) : Vc → Prop
  | nil : Sp m W G (fun _ => 0)
  | add {x g : Vc} (c : Int) : Sp m W G x → G g → Sp m W G (fun i => x i + c * g i)
  | alike {x y : Vc} : Sp m W G x → (∀ i, i < W → m ∣ x i - y i) → Sp m W G y
section
variable {m : Int} {W : Nat} {G G' : Vc → Prop} {x y : Vc}
theorem dvd_same {m a b : Int} (h : a = b) : m ∣ a - b := ⟨0, by omega⟩
theorem Sp.plus (hx : Sp m W G x) (hy : Sp m W G y) : Sp m W G (fun i => x i + y i) := by
  induction hy with
  | nil => exact .alike hx fun i _ => dvd_same (by dsimp only; omega)
  | add c _ hg ih => exact .alike (.add c ih hg) fun i _ => dvd_same (by dsimp only; omega)
  | alike _ h ih =>
    refine .alike ih fun i hi => ?_
    have := h i hi
    rwa [show ∀ a b c : Int, a + b - (a + c) = b - c from fun a b c => by omega]
theorem Sp.mul (c : Int) (hx : Sp m W G x) : Sp m W G (fun i => c * x i) := by
  induction hx with
  | nil => exact .alike .nil fun i _ => dvd_same (by simp)
  | add d _ hg ih => exact .alike (.add (c * d) ih hg) fun i _ => dvd_same (by rw [Int.mul_add, Int.mul_assoc])
  | alike _ h ih =>
    refine .alike ih fun i hi => ?_
    rw [← Int.mul_sub]
    exact Int.dvd_mul_of_dvd_right (h i hi)
theorem Sp.gen {g : Vc} (h : G g) : Sp m W G g := .alike (.add 1 .nil h) fun i _ => dvd_same (by omega)
theorem Sp.mono (h : ∀ g, G g → Sp m W G' g) (hx : Sp m W G x) : Sp m W G' x := by
  induction hx with
  | nil => exact .nil
  | add c _ hg ih => exact ih.plus ((h _ hg).mul c)
  | alike _ h' ih => exact .alike ih h'
theorem Sp.two {a b : Int} (hx : Sp m W G x) (hy : Sp m W G y) {z : Vc} (h : ∀ i, i < W → m ∣ a * x i + b * y i - z i) : Sp m W G z := .alike ((hx.mul a).plus (hy.mul b)) h
theorem Sp.dvd {d : Int} (hd : d ∣ m) {i : Nat} (hi : i < W) (h : ∀ g, G g → d ∣ g i) (hx : Sp m W G x) : d ∣ x i := by
  induction hx with
  | nil => exact Int.dvd_zero d
  | add c _ hg ih => exact Int.dvd_add ih (Int.dvd_mul_of_dvd_right (h _ hg))
  | alike _ h' ih =>
    have := Int.dvd_sub ih (Int.dvd_trans hd (h' i hi))
    rwa [show ∀ a b : Int, a - (a - b) = b from fun a b => by omega] at this
structure Sub (m : Int) (W : Nat) (M : Vc → Prop) : Prop where
  zero : M fun _ => 0
  lin : ∀ x y, M x → M y → ∀ c, M fun i => x i + c * y i
  alike : ∀ x y, M x → (∀ i, i < W → m ∣ x i - y i) → M y
theorem Sp.sub : Sub m W (Sp m W G) := ⟨.nil, fun _ _ hx hy c => hx.plus (hy.mul c), fun _ _ hx h => .alike hx h⟩
theorem Sub.all {M : Vc → Prop} (hM : Sub m W M) (h : ∀ g, G g → M g) (hx : Sp m W G x) : M x := by
  induction hx with
  | nil => exact hM.zero
  | add c _ hg ih => exact hM.lin _ _ ih (h _ hg) c
  | alike _ h' ih => exact hM.alike _ _ ih h'
end
def V (x : List Int) : Vc := fun i => rd x (i : Int)
structure PRow (m : Int) (W j : Nat) (r : List Int) : Prop where
  len : r.length = W
  ent : AllIn m r
  zero : ∀ i : Nat, i < j → rd r (i : Int) = 0
  pos : 0 < rd r (j : Int)
  lt : rd r (j : Int) < m
  dvd : rd r (j : Int) ∣ m
structure PTab (m : Int) (W : Nat) (p : List (List Int)) : Prop where
  len : p.length = W
  rws : ∀ j : Nat, j < W → row p (j : Int) = [] ∨ PRow m W j (row p (j : Int))
def Rws (W : Nat) (p : List (List Int)) (k : Nat) : Vc → Prop := fun g => ∃ j : Nat, k ≤ j ∧ j < W ∧ row p (j : Int) ≠ [] ∧ g = V (row p (j : Int))
def GT (W : Nat) (p st : List (List Int)) (k : Nat) : Vc → Prop := fun g => Rws W p k g ∨ ∃ s ∈ st, (∀ i : Nat, i < k → rd s (i : Int) = 0) ∧ g = V s
def How (m : Int) (W : Nat) (p : List (List Int)) (G : Nat → Vc → Prop) : Prop := ∀ j : Nat, j < W → row p (j : Int) ≠ [] → Sp m W (G (j + 1)) (fun i => m / rd (row p (j : Int)) (j : Int) * rd (row p (j : Int)) (i : Int))
structure Inv (m : Int) (W : Nat) (p st : List (List Int)) : Prop where
  tab : PTab m W p
  sts : ∀ s ∈ st, s.length = W ∧ AllIn m s
  how : How m W p (GT W p st)
def dv (m : Int) (p : List (List Int)) (j : Nat) : Int := if row p (j : Int) = [] then m else rd (row p (j : Int)) (j : Int)
structure Lead (m : Int) (W : Nat) (p : List (List Int)) (M : Vc → Prop) : Prop where
  tab : PTab m W p
  sub : Sub m W M
  own : ∀ j : Nat, j < W → row p (j : Int) ≠ [] → M (V (row p (j : Int)))
  lead : ∀ x, M x → ∀ j : Nat, j < W → (∀ i : Nat, i < j → m ∣ x i) → dv m p j ∣ x j
section
variable {m : Int} {W : Nat} {p : List (List Int)}
theorem PTab.prow (h : PTab m W p) {j : Nat} (hj : j < W) (hr : row p (j : Int) ≠ []) : PRow m W j (row p (j : Int)) := (h.rws j hj).resolve_left hr
theorem Rws.zero (h : PTab m W p) {k j : Nat} {g : Vc} (hg : Rws W p k g) (hj : j < k) : g j = 0 := by
  obtain ⟨i, h1, h2, h3, rfl⟩ := hg
  exact (h.prow h2 h3).zero j (by omega)
theorem Rws.part {k : Nat} (hk : k < W) (hr : row p (k : Int) ≠ []) {x : Vc} (hx : Sp m W (Rws W p k) x) : ∃ (c : Int) (w : Vc), Sp m W (Rws W p (k + 1)) w ∧ ∀ i, i < W → m ∣ c * V (row p (k : Int)) i + w i - x i := by
  induction hx with
  | nil => exact ⟨0, _, .nil, fun i _ => dvd_same (by simp)⟩
  | add d _ hg ih =>
    obtain ⟨c, w, h1, h2⟩ := ih
    obtain ⟨j, j1, j2, j3, rfl⟩ := hg
    by_cases e : j = k
    · subst e
      refine ⟨c + d, w, h1, fun i hi => ?_⟩
      have := h2 i hi
      rw [Int.add_mul]
      rwa [show ∀ a b c d : Int, a + b + c - (d + b) = a + c - d from fun a b c d => by omega]
    · refine ⟨c, _, .add d h1 ⟨j, by omega, j2, j3, rfl⟩, fun i hi => ?_⟩
      have := h2 i hi
      dsimp only
      rwa [show ∀ a b c d : Int, a + (b + c) - (d + c) = a + b - d from fun a b c d => by omega]
  | alike _ h ih =>
    obtain ⟨c, w, h1, h2⟩ := ih
    refine ⟨c, w, h1, fun i hi => ?_⟩
    have := Int.dvd_add (h2 i hi) (h i hi)
    rwa [show ∀ a b c : Int, a - b + (b - c) = a - c from fun a b c => by omega] at this
theorem Rws.next {k : Nat} (hr : row p (k : Int) = []) {x : Vc} (hx : Sp m W (Rws W p k) x) : Sp m W (Rws W p (k + 1)) x := hx.mono fun g ⟨j, j1, j2, j3, e⟩ => .gen ⟨j, by
  rcases Nat.lt_or_eq_of_le j1 with h | rfl
  · exact h
  · exact absurd hr j3, j2, j3, e⟩
theorem Rws.down (m0 : 0 < m) (ht : PTab m W p) (hh : How m W p (Rws W p)) {x : Vc} (hx : Sp m W (Rws W p 0) x) {j : Nat} (hj : j ≤ W) (hz : ∀ i : Nat, i < j → m ∣ x i) : ∀ k, k ≤ j → Sp m W (Rws W p k) x := by
  intro k
  induction k with
  | zero => exact fun _ => hx
  | succ k ih =>
    intro hk
    have h := ih (by omega)
    by_cases hr : row p (k : Int) = []
    · exact Rws.next hr h
    have hp := ht.prow (by omega) hr
    obtain ⟨c, w, h1, h2⟩ := Rws.part (by omega) hr h
    have hw : m ∣ w k := h1.dvd (Int.dvd_refl m) (by omega) fun g hg => by rw [Rws.zero ht hg (by omega)]; exact Int.dvd_zero m
    have hc : m ∣ c * rd (row p (k : Int)) (k : Int) := by
      have := Int.dvd_add (h2 k (by omega)) (hz k (by omega))
      rw [show ∀ a b c : Int, a + b - c + c = a + b from fun a b c => by omega] at this
      have := Int.dvd_sub this hw
      rwa [show ∀ a b : Int, a + b - b = a from fun a b => by omega] at this
    obtain ⟨q, hq⟩ := hp.dvd
    have hd := hp.pos
    have hmd : m / rd (row p (k : Int)) (k : Int) = q := by rw [hq]; exact Int.mul_ediv_cancel_left _ (by omega)
    obtain ⟨t, ht'⟩ : q ∣ c := by
      obtain ⟨t, ht'⟩ := hc
      refine ⟨t, Int.eq_of_mul_eq_mul_left (show rd (row p (k : Int)) (k : Int) ≠ 0 by omega) ?_⟩
      rw [Int.mul_comm, ht', hq, Int.mul_assoc]
    have hH := hh k (by omega) hr
    rw [hmd] at hH
    refine .alike ((hH.mul t).plus h1) fun i hi => ?_
    have := h2 i hi
    rwa [show t * (q * rd (row p (k : Int)) (i : Int)) = c * V (row p (k : Int)) i by rw [ht', ← Int.mul_assoc, Int.mul_comm t q]; rfl]
theorem lead_of (m0 : 0 < m) (ht : PTab m W p) (hh : How m W p (Rws W p)) {M : Vc → Prop} (hM : ∀ x, Sp m W (Rws W p 0) x ↔ M x) : Lead m W p M where
  tab := ht
  sub := by rw [show M = Sp m W (Rws W p 0) from funext fun x => propext (hM x).symm]; exact Sp.sub
  own := fun j hj hr => (hM _).1 (.gen ⟨j, Nat.zero_le _, hj, hr, rfl⟩)
  lead := fun x hx j hj hz => by
    have h := Rws.down m0 ht hh ((hM x).2 hx) (Nat.le_of_lt hj) hz j (Nat.le_refl _)
    unfold dv
    by_cases hr : row p (j : Int) = []
    · rw [if_pos hr]
      exact (Rws.next hr h).dvd (Int.dvd_refl m) hj fun g hg => by rw [Rws.zero ht hg (by omega)]; exact Int.dvd_zero m
    · rw [if_neg hr]
      have hp := ht.prow hj hr
      refine h.dvd hp.dvd hj fun g hg => ?_
      obtain ⟨i, i1, i2, i3, rfl⟩ := hg
      by_cases e : i = j
      · subst e; exact Int.dvd_refl _
      · have : V (row p (i : Int)) j = 0 := (ht.prow i2 i3).zero j (by omega)
        rw [this]; exact Int.dvd_zero _
theorem dv_bd (m0 : 0 < m) (ht : PTab m W p) {j : Nat} (hj : j < W) : 0 < dv m p j ∧ dv m p j ≤ m ∧ dv m p j ∣ m := by
  unfold dv
  by_cases hr : row p (j : Int) = []
  · rw [if_pos hr]; exact ⟨m0, Int.le_refl _, Int.dvd_refl _⟩
  · rw [if_neg hr]
    have hp := ht.prow hj hr
    exact ⟨hp.pos, by have := hp.lt; omega, hp.dvd⟩
theorem dvd_pos {a b : Int} (ha : 0 < a) (hb : 0 < b) (h : a ∣ b) : a ≤ b := Int.le_of_dvd hb h
theorem dv_same (m0 : 0 < m) {p' : List (List Int)} {M : Vc → Prop} (h : Lead m W p M) (h' : Lead m W p' M) {j : Nat} (hj : j < W) : dv m p j = dv m p' j := by
  have key : ∀ {p p' : List (List Int)}, Lead m W p M → Lead m W p' M → dv m p j ∣ dv m p' j := fun {p p'} h h' => by
    by_cases hr : row p' (j : Int) = []
    · rw [show dv m p' j = m from if_pos hr]; exact (dv_bd m0 h.tab hj).2.2
    · rw [show dv m p' j = rd (row p' (j : Int)) (j : Int) from if_neg hr]
      have hp := h'.tab.prow hj hr
      exact h.lead _ (h'.own j hj hr) j hj fun i hi => by rw [show V (row p' (j : Int)) i = 0 from hp.zero i hi]; exact Int.dvd_zero m
  have a := dvd_pos (dv_bd m0 h.tab hj).1 (dv_bd m0 h'.tab hj).1 (key h h')
  have b := dvd_pos (dv_bd m0 h'.tab hj).1 (dv_bd m0 h.tab hj).1 (key h' h)
  omega
structure Least (m : Int) (W : Nat) (p : List (List Int)) (M : Vc → Prop) (x y : List Int) : Prop where
  len : y.length = W
  ent : AllIn m y
  dif : M fun i => rd x (i : Int) - rd y (i : Int)
  lt : ∀ j : Nat, j < W → rd y (j : Int) < dv m p j
theorem Least.same (m0 : 0 < m) {p' : List (List Int)} {M : Vc → Prop} (h : Lead m W p M) (h' : Lead m W p' M) {x y y' : List Int} (hy : Least m W p M x y) (hy' : Least m W p' M x y') : y = y' := by
  have hd : M fun i => rd y (i : Int) - rd y' (i : Int) := by
    refine h.sub.alike _ _ (h.sub.lin _ _ hy'.dif hy.dif (-1)) fun i _ => dvd_same ?_
    omega
  have hall : ∀ n, n ≤ W → ∀ i : Nat, i < n → rd y (i : Int) = rd y' (i : Int) := by
    intro n
    induction n with
    | zero => intro _ i hi; omega
    | succ n ih =>
      intro hn i hi
      have ih := ih (by omega)
      by_cases e : i = n
      · subst e
        have hl := h.lead _ hd i (by omega) fun k hk => by rw [ih k hk]; exact ⟨0, by omega⟩
        have a1 := hy.lt i (by omega)
        have a2 := hy'.lt i (by omega)
        rw [← dv_same m0 h h' (show i < W by omega)] at a2
        obtain ⟨b1, _⟩ := hy.ent i (by omega) (by rw [hy.len]; omega)
        obtain ⟨b2, _⟩ := hy'.ent i (by omega) (by rw [hy'.len]; omega)
        have hd0 := (dv_bd m0 h.tab (show i < W by omega)).1
        obtain ⟨q, hq⟩ := hl
        have q0 : q = 0 := by
          rcases Int.lt_trichotomy q 0 with h | h | h
          · have := Int.mul_le_mul_of_nonneg_left (show q ≤ -1 by omega) (Int.le_of_lt hd0)
            omega
          · exact h
          · have := Int.mul_le_mul_of_nonneg_left (show 1 ≤ q by omega) (Int.le_of_lt hd0)
            omega
        rw [q0] at hq
        omega
      · exact ih i (by omega)
  refine ext_rd (by rw [hy.len, hy'.len]) fun i i0 i1 => ?_
  obtain ⟨n, rfl⟩ := Int.eq_ofNat_of_zero_le i0
  exact hall W (Nat.le_refl _) n (by have := hy.len; omega)
end
end Go.Proofs.Ytpppnoliogdkiaa.V
set_option linter.unusedVariables false
set_option linter.unusedSimpArgs false
set_option maxHeartbeats 2000000
set_option maxRecDepth 20000
namespace Go.Proofs.Ytpppnoliogdkiaa.V
open Go.RowKit Go.Proofs.Ytpppnoliogdkiaa.D Go.Proofs.Ytpppnoliogdkiaa.P
def mix (m x : Int) (a : List Int) (y : Int) (b : List Int) : List Int := (List.range a.length).map fun (i : Nat) => (x * rd a (i : Int) + y * rd b (i : Int)) % m
theorem mix_length (m x : Int) (a : List Int) (y : Int) (b : List Int) : (mix m x a y b).length = a.length := by simp [mix]
theorem mix_rd {m x : Int} {a : List Int} {y : Int} {b : List Int} {i : Nat} (h : i < a.length) : rd (mix m x a y b) (i : Int) = (x * rd a (i : Int) + y * rd b (i : Int)) % m := by
  rw [rd_get (by rw [mix_length]; exact h)]
  simp [mix]
theorem mix_in {m x : Int} {a : List Int} {y : Int} {b : List Int} (m0 : 0 < m) : AllIn m (mix m x a y b) := by
  refine allIn_of fun z hz => ?_
  obtain ⟨i, _, rfl⟩ := List.mem_map.1 hz
  exact ⟨Int.emod_nonneg _ (by omega), Int.emod_lt_of_pos _ m0⟩
theorem mix_dvd {m x : Int} {a : List Int} {y : Int} {b : List Int} {i : Nat} (h : i < a.length) : m ∣ x * rd a (i : Int) + y * rd b (i : Int) - rd (mix m x a y b) (i : Int) := by
  rw [mix_rd h]
  exact Int.dvd_self_sub_emod
theorem mul_bd {x a B m : Int} (x0 : -B ≤ x) (x1 : x ≤ B) (a0 : 0 ≤ a) (a1 : a < m) (m1 : m ≤ 12) (B0 : 0 ≤ B) : -(12 * B) ≤ x * a ∧ x * a ≤ 12 * B := by
  have h1 : x * a ≤ B * a := Int.mul_le_mul_of_nonneg_right x1 a0
  have h2 : (-B) * a ≤ x * a := Int.mul_le_mul_of_nonneg_right x0 a0
  have h3 : B * a ≤ B * 12 := Int.mul_le_mul_of_nonneg_left (by omega) B0
  rw [Int.neg_mul] at h2
  constructor <;> omega
theorem set_take {xs ys : List Int} {j : Nat} (hl : ys.length = xs.length) (hj : j < xs.length) {z : Int} (hz : z = rd ys (j : Int)) : (ys.take j ++ xs.drop j).set j z = ys.take (j + 1) ++ xs.drop (j + 1) := by
  subst hz
  rw [rd_get (by omega)]
  apply List.ext_getElem
  · simp; omega
  · intro i h1 h2
    rw [List.getElem_set]
    by_cases e : j = i
    · subst e
      rw [if_pos rfl, List.getElem_append_left (by simp; omega)]
      simp
    · rw [if_neg e]
      by_cases e2 : i < j
      · rw [List.getElem_append_left (by simp; omega), List.getElem_append_left (by simp; omega)]
        simp
      · have : (List.take j ys).length = j := by simp; omega
        have : (List.take (j + 1) ys).length = j + 1 := by simp; omega
        rw [List.getElem_append_right (by omega), List.getElem_append_right (by omega)]
        simp only [List.getElem_drop]
        congr 1
        omega
theorem combined {m : Int} (m2 : 2 ≤ m) (m12 : m ≤ 12) {p : List (List Int)} {x y : Int} {a b : List Int} (ha : AllIn m a) (hb : AllIn m b) (hl : b.length = a.length) (hW : a.length ≤ 1000000) (x0 : -100000000000000 ≤ x) (x1 : x ≤ 100000000000000) (y0 : -100000000000000 ≤ y) (y1 : y ≤ 100000000000000) :
    impl_span_combined.f m p x a y b = some (mix m x a y b) := by
  have hz : (List.replicate a.length (0 : Int)).length = a.length := List.length_replicate
  have hml := mix_length m x a y b
  have loop := up a.length (fun j => impl_span_combined.l0 x y b a (a.length : Int) (j : Int) m p ((mix m x a y b).take j ++ (List.replicate a.length (0 : Int)).drop j)) (fun j hj => by
    obtain ⟨a0, a1⟩ := ha j (by omega) (by omega)
    obtain ⟨b0, b1⟩ := hb j (by omega) (by omega)
    have p1 := mul_bd x0 x1 a0 a1 m12 (by omega)
    have p2 := mul_bd y0 y1 b0 b1 m12 (by omega)
    have t0 := Int.tmod_lt_of_pos (x * rd a (j : Int) + y * rd b (j : Int)) (show 0 < m by omega)
    have t1 : -m < Int.tmod (x * rd a (j : Int) + y * rd b (j : Int)) m := Int.lt_tmod_of_pos _ (by omega)
    have hq := Int.mul_tdiv_add_tmod (x * rd a (j : Int) + y * rd b (j : Int)) m
    have h5 : (m * (x * rd a (j : Int) + y * rd b (j : Int)).tdiv m + (x * rd a (j : Int) + y * rd b (j : Int)).tmod m) % m = (x * rd a (j : Int) + y * rd b (j : Int)).tmod m % m := by rw [Int.add_comm, Int.add_mul_emod_self_left]
    rw [hq] at h5
    have hv : (wrapI ((wrapI (wrapI (x * rd a (j : Int)) + wrapI (y * rd b (j : Int)))).tmod m + m)).tmod m = rd (mix m x a y b) (j : Int) := by
      rw [w64 (x := x * rd a (j : Int)) (by omega) (by omega), w64 (x := y * rd b (j : Int)) (by omega) (by omega), w64 (x := x * rd a (j : Int) + y * rd b (j : Int)) (by omega) (by omega), w64 (by omega) (by omega), mix_rd hj, Int.tmod_eq_emod_of_nonneg (by omega), Int.add_emod_right, ← h5]
    have hs := set_take (xs := List.replicate a.length (0 : Int)) (ys := mix m x a y b) (by omega) (by omega) (j := j) hv
    have hll : (((mix m x a y b).take j ++ (List.replicate a.length (0 : Int)).drop j).length : Int) = a.length := by simp; omega
    rw [impl_span_combined.l0_eq, wn (j := j) (by omega), Int.toNat_natCast, hs, hll]
    ((with_reducible repeat (first | refine go_pos (by first | assumption | omega | rfl | exact B_pos (by omega)) ?_ | refine go_neg (by first | assumption | omega | decide | exact B_not (by omega)) ?_ | refine go_bind (by first | assumption) ?_ | dsimp only)); first | done | (with_reducible rfl) | simp (disch := omega) only [w64] | (show False; done)))
  rw [impl_span_combined.f_eq, Int.toNat_natCast]
  rw [List.take_zero, List.nil_append, List.drop_zero, Int.natCast_zero] at loop
  rw [loop, impl_span_combined.l0_eq, show (mix m x a y b).take a.length = mix m x a y b from List.take_of_length_le (by omega), List.drop_of_length_le (by simp), List.append_nil]
  ((with_reducible repeat (first | refine go_pos (by first | assumption | omega | rfl | exact B_pos (by omega)) ?_ | refine go_neg (by first | assumption | omega | decide | exact B_not (by omega)) ?_ | refine go_bind (by first | assumption) ?_ | dsimp only)); first | done | (with_reducible rfl) | simp (disch := omega) only [w64] | (show False; done))
end Go.Proofs.Ytpppnoliogdkiaa.V
set_option linter.unusedVariables false
set_option linter.unusedSimpArgs false
set_option maxHeartbeats 2000000
set_option maxRecDepth 20000
namespace Go.Proofs.Ytpppnoliogdkiaa.V
open Go.RowKit Go.Proofs.Ytpppnoliogdkiaa.D Go.Proofs.Ytpppnoliogdkiaa.P
theorem bez (a b : Nat) : ∃ s t : Int, s * a + t * b = ((Nat.gcd a b : Nat) : Int) := by
  induction a, b using Nat.gcd.induction with
  | H0 n => exact ⟨0, 1, by simp⟩
  | H1 a b ha ih =>
    obtain ⟨s, t, h⟩ := ih
    refine ⟨t - s * ((b / a : Nat) : Int), s, ?_⟩
    rw [Nat.gcd_rec a b, ← h]
    have h1 : (b : Int) = (a : Int) * ((b / a : Nat) : Int) + ((b % a : Nat) : Int) := by exact_mod_cast (Nat.div_add_mod b a).symm
    rw [Int.sub_mul, Int.mul_assoc, Int.mul_comm ((b / a : Nat) : Int) (a : Int)]
    have h2 : s * (b : Int) = s * ((a : Int) * ((b / a : Nat) : Int)) + s * ((b % a : Nat) : Int) := by rw [← Int.mul_add, ← h1]
    omega
theorem bez_mod {m a b : Int} (m0 : 0 < m) (a0 : 0 ≤ a) (b0 : 0 ≤ b) : ∃ x y : Int, (0 ≤ x ∧ x < m) ∧ (0 ≤ y ∧ y < m) ∧ m ∣ x * a + y * b - ((Int.gcd ((Int.gcd a b : Nat) : Int) m : Nat) : Int) := by
  obtain ⟨A, rfl⟩ := Int.eq_ofNat_of_zero_le a0
  obtain ⟨C, rfl⟩ := Int.eq_ofNat_of_zero_le b0
  obtain ⟨M, rfl⟩ := Int.eq_ofNat_of_zero_le (Int.le_of_lt m0)
  obtain ⟨s, t, h1⟩ := bez A C
  obtain ⟨s', t', h2⟩ := bez (Nat.gcd A C) M
  refine ⟨(s' * s) % M, (s' * t) % M, ⟨Int.emod_nonneg _ (by omega), Int.emod_lt_of_pos _ m0⟩, ⟨Int.emod_nonneg _ (by omega), Int.emod_lt_of_pos _ m0⟩, ?_⟩
  show (M : Int) ∣ (s' * s) % M * A + (s' * t) % M * C - ((Nat.gcd (Nat.gcd A C) M : Nat) : Int)
  have e1 : (s' * s) % (M : Int) = s' * s - M * (s' * s / M) := by have := Int.mul_ediv_add_emod (s' * s) M; omega
  have e2 : (s' * t) % (M : Int) = s' * t - M * (s' * t / M) := by have := Int.mul_ediv_add_emod (s' * t) M; omega
  rw [e1, e2]
  refine ⟨-(s' * s / M * A) - (s' * t / M * C) - t', ?_⟩
  have h3 : s' * (s * (A : Int) + t * (C : Int)) = s' * ((Nat.gcd A C : Nat) : Int) := by rw [h1]
  rw [Int.mul_add, ← Int.mul_assoc, ← Int.mul_assoc] at h3
  rw [Int.sub_mul, Int.sub_mul, Int.mul_sub, Int.mul_sub, Int.mul_neg, Int.mul_assoc (M : Int), Int.mul_assoc (M : Int), Int.mul_comm (M : Int) t']
  omega
theorem tmod_zero {a m : Int} : Int.tmod a m = 0 ↔ m ∣ a := ⟨Int.dvd_of_tmod_eq_zero, Int.tmod_eq_zero_of_dvd⟩
theorem bezout {m : Int} (m2 : 2 ≤ m) (m12 : m ≤ 12) {p : List (List Int)} {a b : Int} (a0 : 0 ≤ a) (a1 : a ≤ 12) (b0 : 0 ≤ b) (b1 : b ≤ 12) :
    ∃ x y : Int, impl_span_bezout.f m p a b = some (x, y, ((Int.gcd ((Int.gcd a b : Nat) : Int) m : Nat) : Int)) ∧ (0 ≤ x ∧ x < m) ∧ (0 ≤ y ∧ y < m) ∧ m ∣ x * a + y * b - ((Int.gcd ((Int.gcd a b : Nat) : Int) m : Nat) : Int) := by
  have hg1 := gcd_ a0 b0
  have hg2 := gcd_ (a := ((Int.gcd a b : Nat) : Int)) (b := m) (by omega) (by omega)
  have hd : 0 ≤ ((Int.gcd ((Int.gcd a b : Nat) : Int) m : Nat) : Int) ∧ ((Int.gcd ((Int.gcd a b : Nat) : Int) m : Nat) : Int) ≤ m := by
    constructor
    · omega
    · exact Int.le_of_dvd (by omega) (Int.gcd_dvd_right ..)
  obtain ⟨x0, y0, hx0, hy0, h0⟩ := bez_mod (m := m) (by omega) a0 b0
  rw [impl_span_bezout.f_eq, hg1, Option.bind_some, hg2, Option.bind_some]
  generalize ((Int.gcd ((Int.gcd a b : Nat) : Int) m : Nat) : Int) = d at hd h0 ⊢
  have inner : ∀ (n : Nat) (x y : Int), 0 ≤ x → x < m → 0 ≤ y → y + n = m → (∃ y', (0 ≤ y' ∧ y' < m) ∧ m ∣ x * a + y' * b - d ∧ impl_span_bezout.l1 a b d x m x m y m p = some (x, y', d)) ∨ ((∀ y', y ≤ y' → y' < m → ¬ m ∣ x * a + y' * b - d) ∧ impl_span_bezout.l1 a b d x m x m y m p = impl_span_bezout.l0 a b d m (x + 1) m p) := by
    intro n
    induction n with
    | zero =>
      intro x y hx hx' hy hn
      refine .inr ⟨fun y' h1 h2 => by omega, ?_⟩
      rw [impl_span_bezout.l1_eq, w64 (x := x + 1) (by omega) (by omega)]
      ((with_reducible repeat (first | refine go_pos (by first | assumption | omega | rfl | exact B_pos (by omega)) ?_ | refine go_neg (by first | assumption | omega | decide | exact B_not (by omega)) ?_ | refine go_bind (by first | assumption) ?_ | dsimp only)); first | done | (with_reducible rfl) | simp (disch := omega) only [w64] | (show False; done))
    | succ n ih =>
      intro x y hx hx' hy hn
      have p1 := mul_bd (x := x) (a := a) (B := 12) (m := 13) (by omega) (by omega) a0 (by omega)
      have q1 : 0 ≤ x * a := Int.mul_nonneg hx a0
      have q2 : x * a ≤ 12 * 12 := Int.mul_le_mul (by omega) a1 a0 (by omega)
      have q3 : 0 ≤ y * b := Int.mul_nonneg hy b0
      have q4 : y * b ≤ 12 * 12 := Int.mul_le_mul (by omega) b1 b0 (by omega)
      have hv : wrapI (wrapI (wrapI (x * a) + wrapI (y * b)) - d) = x * a + y * b - d := by
        rw [w64 (x := x * a) (by omega) (by omega), w64 (x := y * b) (by omega) (by omega), w64 (x := x * a + y * b) (by omega) (by omega), w64 (by omega) (by omega)]
      by_cases h : m ∣ x * a + y * b - d
      · refine .inl ⟨y, ⟨hy, by omega⟩, h, ?_⟩
        have ht := tmod_zero.2 h
        rw [impl_span_bezout.l1_eq, hv]
        ((with_reducible repeat (first | refine go_pos (by first | assumption | omega | rfl | exact B_pos (by omega)) ?_ | refine go_neg (by first | assumption | omega | decide | exact B_not (by omega)) ?_ | refine go_bind (by first | assumption) ?_ | dsimp only)); first | done | (with_reducible rfl) | simp (disch := omega) only [w64] | (show False; done))
      · have ht : ¬ Int.tmod (x * a + y * b - d) m = 0 := fun k => h (tmod_zero.1 k)
        have hl : impl_span_bezout.l1 a b d x m x m y m p = impl_span_bezout.l1 a b d x m x m (y + 1) m p := by
          rw [impl_span_bezout.l1_eq, hv, w64 (x := y + 1) (by omega) (by omega)]
          ((with_reducible repeat (first | refine go_pos (by first | assumption | omega | rfl | exact B_pos (by omega)) ?_ | refine go_neg (by first | assumption | omega | decide | exact B_not (by omega)) ?_ | refine go_bind (by first | assumption) ?_ | dsimp only)); first | done | (with_reducible rfl) | simp (disch := omega) only [w64] | (show False; done))
        rcases ih x (y + 1) hx hx' (by omega) (by omega) with ⟨y', h1, h2, h3⟩ | ⟨h1, h2⟩
        · exact .inl ⟨y', h1, h2, hl.trans h3⟩
        · refine .inr ⟨fun y' k1 k2 => ?_, hl.trans h2⟩
          by_cases e : y' = y
          · rw [e]; exact h
          · exact h1 y' (by omega) k2
  have outer : ∀ (n : Nat) (x : Int), 0 ≤ x → x + n = m → x ≤ x0 → ∃ x' y', impl_span_bezout.l0 a b d m x m p = some (x', y', d) ∧ (0 ≤ x' ∧ x' < m) ∧ (0 ≤ y' ∧ y' < m) ∧ m ∣ x' * a + y' * b - d := by
    intro n
    induction n with
    | zero => intro x hx hn hx0'; omega
    | succ n ih =>
      intro x hx hn hx0'
      have hl : impl_span_bezout.l0 a b d m x m p = impl_span_bezout.l1 a b d x m x m 0 m p := by
        rw [impl_span_bezout.l0_eq]
        ((with_reducible repeat (first | refine go_pos (by first | assumption | omega | rfl | exact B_pos (by omega)) ?_ | refine go_neg (by first | assumption | omega | decide | exact B_not (by omega)) ?_ | refine go_bind (by first | assumption) ?_ | dsimp only)); first | done | (with_reducible rfl) | simp (disch := omega) only [w64] | (show False; done))
      rw [hl]
      rcases inner m.toNat x 0 hx (by omega) (by omega) (by omega) with ⟨y', h1, h2, h3⟩ | ⟨h1, h2⟩
      · exact ⟨x, y', h3, ⟨hx, by omega⟩, h1, h2⟩
      · rw [h2]
        refine ih (x + 1) (by omega) (by omega) ?_
        by_cases e : x = x0
        · exact absurd (e ▸ h0) (h1 y0 hy0.1 hy0.2)
        · omega
  exact outer m.toNat 0 (by omega) (by omega) hx0.1
end Go.Proofs.Ytpppnoliogdkiaa.V
set_option linter.unusedVariables false
set_option linter.unusedSimpArgs false
namespace Go.Proofs.Ytpppnoliogdkiaa.V
open Go.RowKit Go.Proofs.Ytpppnoliogdkiaa.D
theorem row_set_same {p : List (List Int)} {j : Nat} {n : List Int} (h : j < p.length) : row (p.set j n) (j : Int) = n := by
  rw [row_get (by rw [List.length_set]; exact h)]
  simp
theorem row_set_ne {p : List (List Int)} {i j : Nat} {n : List Int} (h : i ≠ j) : row (p.set j n) (i : Int) = row p (i : Int) := by
  simp only [row, Int.toNat_natCast, List.getD_eq_getElem?_getD, List.getElem?_set, if_neg (show ¬ j = i from fun e => h e.symm)]
def Zb (k : Nat) (s : List Int) : Prop := ∀ i : Nat, i < k → rd s (i : Int) = 0
section
variable {m : Int} {W : Nat} {p p' st st' : List (List Int)} {M : Vc → Prop}
theorem PTab.set (h : PTab m W p) {j : Nat} {n : List Int} (hj : j < W) (hn : PRow m W j n) : PTab m W (p.set j n) where
  len := by rw [List.length_set]; exact h.len
  rws := fun i hi => by
    by_cases e : i = j
    · subst e; rw [row_set_same (by rw [h.len]; exact hj)]; exact .inr hn
    · rw [row_set_ne e]; exact h.rws i hi
theorem PRow.ne {j : Nat} {n : List Int} (h : PRow m W j n) : n ≠ [] := fun e => by
  have := h.pos
  rw [e] at this
  simp [rd] at this
def dsum (m : Int) (p : List (List Int)) : Nat → Int
  | 0 => 0
  | k + 1 => dsum m p k + dv m p k
theorem dv_set_same (hl : p.length = W) {j : Nat} {n : List Int} (hj : j < W) (hn : n ≠ []) : dv m (p.set j n) j = rd n (j : Int) := by
  unfold dv; rw [row_set_same (by omega), if_neg hn]
theorem dv_set_ne {i j : Nat} {n : List Int} (h : i ≠ j) : dv m (p.set j n) i = dv m p i := by
  unfold dv; rw [row_set_ne h]
theorem dsum_set (hl : p.length = W) {j : Nat} {n : List Int} (hj : j < W) : ∀ k, dsum m (p.set j n) k = dsum m p k + if j < k then dv m (p.set j n) j - dv m p j else 0 := by
  intro k
  induction k with
  | zero => simp [dsum]
  | succ k ih =>
    rw [dsum, dsum, ih]
    by_cases e : j = k
    · subst e
      rw [if_neg (Nat.lt_irrefl j), if_pos (Nat.lt_succ_self j)]; omega
    · rw [dv_set_ne (fun q => e q.symm)]
      by_cases h : j < k
      · rw [if_pos h, if_pos (by omega)]; omega
      · rw [if_neg h, if_neg (by omega)]; omega
theorem dsum_bd (m0 : 0 < m) (ht : PTab m W p) : ∀ k, k ≤ W → 0 ≤ dsum m p k ∧ dsum m p k ≤ m * k := by
  intro k
  induction k with
  | zero => intro _; simp [dsum]
  | succ k ih =>
    intro hk
    obtain ⟨a, b⟩ := ih (by omega)
    obtain ⟨c, d, _⟩ := dv_bd m0 ht (show k < W by omega)
    rw [dsum, show m * ((k + 1 : Nat) : Int) = m * (k : Int) + m by rw [Int.natCast_add, Int.mul_add]; simp]
    omega
structure Pst (m : Int) (W : Nat) (p st : List (List Int)) (M : Vc → Prop) : Prop where
  inv : Inv m W p st
  spn : ∀ x, Sp m W (GT W p st 0) x ↔ M x
theorem Pst.step (h : Pst m W p st M) (ht : PTab m W p') (hs : ∀ s ∈ st', s.length = W ∧ AllIn m s)
    (ha : ∀ k g, GT W p st k g → Sp m W (GT W p' st' k) g) (hb : ∀ g, GT W p' st' 0 g → Sp m W (GT W p st 0) g)
    (hn : ∀ j : Nat, j < W → row p' (j : Int) ≠ [] → row p' (j : Int) ≠ row p (j : Int) → Sp m W (GT W p' st' (j + 1)) (fun i => m / rd (row p' (j : Int)) (j : Int) * rd (row p' (j : Int)) (i : Int))) : Pst m W p' st' M where
  inv := ⟨ht, hs, fun j hj hr => by
    by_cases e : row p' (j : Int) = row p (j : Int)
    · have := h.inv.how j hj (by rw [← e]; exact hr)
      rw [e]
      exact this.mono (ha (j + 1))
    · exact hn j hj hr e⟩
  spn := fun x => by
    rw [← h.spn x]
    exact ⟨fun hx => hx.mono hb, fun hx => hx.mono (ha 0)⟩
theorem GT.zb {k : Nat} {s : List Int} (hs : s ∈ st) (hz : Zb k s) : GT W p st k (V s) := .inr ⟨s, hs, hz, rfl⟩
theorem Pst.drop {v : List Int} (h : Pst m W p (st ++ [v]) M) (hz : Zb W v) : Pst m W p st M := by
  refine h.step h.inv.tab (fun s hs => h.inv.sts s (List.mem_append_left _ hs)) (fun k g hg => ?_) (fun g hg => .gen ?_) (fun j _ _ e => absurd rfl e)
  · rcases hg with hg | ⟨s, hs, hk, rfl⟩
    · exact .gen (.inl hg)
    · rcases List.mem_append.1 hs with hs | hs
      · exact .gen (.inr ⟨s, hs, hk, rfl⟩)
      · rw [List.mem_singleton] at hs
        subst hs
        exact .alike .nil fun i hi => by rw [show V s i = 0 from hz i hi]; exact ⟨0, by omega⟩
  · rcases hg with hg | ⟨s, hs, hk, rfl⟩
    · exact .inl hg
    · exact .inr ⟨s, List.mem_append_left _ hs, hk, rfl⟩
theorem Pst.less {v w : List Int} {c : Int} (h : Pst m W p (st ++ [v]) M) {j : Nat} (hj : j < W) (hr : row p (j : Int) ≠ []) (hvj : rd v (j : Int) ≠ 0) (hw : w.length = W ∧ AllIn m w) (hz : Zb j w)
    (he : ∀ i : Nat, i < W → m ∣ 1 * rd v (i : Int) + (-c) * rd (row p (j : Int)) (i : Int) - rd w (i : Int)) : Pst m W p (st ++ [w]) M := by
  refine h.step h.inv.tab (fun s hs => ?_) (fun k g hg => ?_) (fun g hg => ?_) (fun j _ _ e => absurd rfl e)
  · rcases List.mem_append.1 hs with hs | hs
    · exact h.inv.sts s (List.mem_append_left _ hs)
    · rw [List.mem_singleton] at hs; subst hs; exact hw
  · rcases hg with hg | ⟨s, hs, hk, rfl⟩
    · exact .gen (.inl hg)
    · rcases List.mem_append.1 hs with hs | hs
      · exact .gen (.inr ⟨s, List.mem_append_left _ hs, hk, rfl⟩)
      · rw [List.mem_singleton] at hs
        subst hs
        have hkj : k ≤ j := by
          by_cases q : k ≤ j
          · exact q
          · exact absurd (hk j (by omega)) hvj
        refine Sp.two (a := 1) (b := c) (x := V w) (y := V (row p (j : Int))) (.gen (GT.zb (List.mem_append_right _ (List.mem_singleton.2 rfl)) fun i hi => hz i (by omega))) (.gen (.inl ⟨j, hkj, hj, hr, rfl⟩)) fun i hi => ?_
        obtain ⟨q, hq⟩ := he i hi
        refine ⟨-q, ?_⟩
        rw [Int.mul_neg, ← hq, Int.neg_mul]
        show 1 * rd w (i : Int) + c * rd (row p (j : Int)) (i : Int) - rd s (i : Int) = _
        omega
  · rcases hg with hg | ⟨s, hs, hk, rfl⟩
    · exact .gen (.inl hg)
    · rcases List.mem_append.1 hs with hs | hs
      · exact .gen (.inr ⟨s, List.mem_append_left _ hs, hk, rfl⟩)
      · rw [List.mem_singleton] at hs
        subst hs
        exact Sp.two (a := 1) (b := -c) (x := V v) (y := V (row p (j : Int))) (.gen (GT.zb (List.mem_append_right _ (List.mem_singleton.2 rfl)) fun i hi => by omega)) (.gen (.inl ⟨j, Nat.zero_le _, hj, hr, rfl⟩)) fun i hi => he i hi
theorem Pst.swap {v n : List Int} {ws : List (List Int)} (h : Pst m W p (st ++ [v]) M) {j : Nat} (hj : j < W) (hvj : rd v (j : Int) ≠ 0) (hn : PRow m W j n) (hws : ∀ w ∈ ws, (w.length = W ∧ AllIn m w) ∧ Zb (j + 1) w)
    (ho : row p (j : Int) ≠ [] → Sp m W (fun g => g = V n ∨ ∃ w ∈ ws, g = V w) (V (row p (j : Int))))
    (hv : Sp m W (fun g => g = V n ∨ ∃ w ∈ ws, g = V w) (V v))
    (hd : Sp m W (fun g => ∃ w ∈ ws, g = V w) (fun i => m / rd n (j : Int) * rd n (i : Int)))
    (hb : ∀ g, (g = V n ∨ ∃ w ∈ ws, g = V w) → Sp m W (fun g => g = V v ∨ (row p (j : Int) ≠ [] ∧ g = V (row p (j : Int)))) g) : Pst m W (p.set j n) (st ++ ws) M := by
  have hpl : j < p.length := by rw [h.inv.tab.len]; exact hj
  have hsame : row (p.set j n) (j : Int) = n := row_set_same hpl
  have new : ∀ k, k ≤ j → ∀ g, (g = V n ∨ ∃ w ∈ ws, g = V w) → Sp m W (GT W (p.set j n) (st ++ ws) k) g := fun k hk g hg => by
    rcases hg with rfl | ⟨w, hw, rfl⟩
    · exact .gen (.inl ⟨j, hk, hj, by rw [hsame]; exact hn.ne, by rw [hsame]⟩)
    · exact .gen (GT.zb (List.mem_append_right _ hw) fun i hi => (hws w hw).2 i (by omega))
  have old : ∀ g, (g = V v ∨ (row p (j : Int) ≠ [] ∧ g = V (row p (j : Int)))) → Sp m W (GT W p (st ++ [v]) 0) g := fun g hg => by
    rcases hg with rfl | ⟨hr, rfl⟩
    · exact .gen (GT.zb (List.mem_append_right _ (List.mem_singleton.2 rfl)) fun i hi => by omega)
    · exact .gen (.inl ⟨j, Nat.zero_le _, hj, hr, rfl⟩)
  refine h.step (h.inv.tab.set hj hn) (fun s hs => ?_) (fun k g hg => ?_) (fun g hg => ?_) (fun i hi hr e => ?_)
  · rcases List.mem_append.1 hs with hs | hs
    · exact h.inv.sts s (List.mem_append_left _ hs)
    · exact (hws s hs).1
  · rcases hg with ⟨i, hk, hi, hr, rfl⟩ | ⟨s, hs, hk, rfl⟩
    · by_cases e : i = j
      · subst e
        exact (ho hr).mono (new k hk)
      · exact .gen (.inl ⟨i, hk, hi, by rw [row_set_ne e]; exact hr, by rw [row_set_ne e]⟩)
    · rcases List.mem_append.1 hs with hs | hs
      · exact .gen (.inr ⟨s, List.mem_append_left _ hs, hk, rfl⟩)
      · rw [List.mem_singleton] at hs
        subst hs
        have hkj : k ≤ j := by
          by_cases q : k ≤ j
          · exact q
          · exact absurd (hk j (by omega)) hvj
        exact hv.mono (new k hkj)
  · rcases hg with ⟨i, hk, hi, hr, rfl⟩ | ⟨s, hs, hk, rfl⟩
    · by_cases e : i = j
      · subst e
        rw [hsame]
        exact (hb _ (.inl rfl)).mono old
      · rw [row_set_ne e] at hr ⊢
        exact .gen (.inl ⟨i, hk, hi, hr, rfl⟩)
    · rcases List.mem_append.1 hs with hs | hs
      · exact .gen (.inr ⟨s, List.mem_append_left _ hs, hk, rfl⟩)
      · exact (hb _ (.inr ⟨s, hs, rfl⟩)).mono old
  · by_cases q : i = j
    · subst q
      rw [hsame]
      exact hd.mono fun g hg => by
        obtain ⟨w, hw, rfl⟩ := hg
        exact .gen (GT.zb (List.mem_append_right _ hw) (hws w hw).2)
    · exact absurd (row_set_ne q) e
end
end Go.Proofs.Ytpppnoliogdkiaa.V
set_option linter.unusedVariables false
set_option linter.unusedSimpArgs false
set_option maxHeartbeats 4000000
set_option maxRecDepth 20000
namespace Go.Proofs.Ytpppnoliogdkiaa.V
open Go.RowKit Go.Proofs.Ytpppnoliogdkiaa.D Go.Proofs.Ytpppnoliogdkiaa.P
theorem indexFunc (v : List Int) (hl : v.length ≤ 1000000) : (Zb v.length v ∧ slices_IndexFunc_int64.f v (fun z0 => (impl_span_put_1.f z0).map fun z => z) = some (-1)) ∨
    ∃ j : Nat, j < v.length ∧ Zb j v ∧ ¬ rd v (j : Int) = 0 ∧ slices_IndexFunc_int64.f v (fun z0 => (impl_span_put_1.f z0).map fun z => z) = some (j : Int) := by
  rw [slices_IndexFunc_int64.f_eq]
  obtain ⟨F, hF⟩ : ∃ F : Int → Option Bool, F = fun z0 => (impl_span_put_1.f z0).map fun z => z := ⟨_, rfl⟩
  rw [← hF]
  have hf : ∀ x, F x = some (!decide (x = 0)) := fun x => by rw [hF]; show Option.map _ (impl_span_put_1.f x) = _; rw [impl_span_put_1.f_eq]; rfl
  suffices H : ∀ d k : Nat, k + d = v.length → Zb k v → (Zb v.length v ∧ slices_IndexFunc_int64.l0 v F (v.length : Int) (k : Int) = some (-1)) ∨
      ∃ j : Nat, j < v.length ∧ Zb j v ∧ ¬ rd v (j : Int) = 0 ∧ slices_IndexFunc_int64.l0 v F (v.length : Int) (k : Int) = some (j : Int) from
    H v.length 0 (by omega) (fun i hi => by omega)
  intro d
  induction d with
  | zero =>
    intro k hd hz
    obtain rfl : k = v.length := by omega
    refine .inl ⟨hz, ?_⟩
    (rw [slices_IndexFunc_int64.l0_eq])
    ((with_reducible repeat (first | refine go_pos (by first | assumption | omega | rfl | exact B_pos (by omega)) ?_ | refine go_neg (by first | assumption | omega | decide | exact B_not (by omega)) ?_ | refine go_bind (by first | assumption) ?_ | dsimp only)); first | done | (with_reducible rfl) | simp (disch := omega) only [w64] | (show False; done))
  | succ d ih =>
    intro k hd hz
    have hfk := hf (rd v (k : Int))
    by_cases h : rd v (k : Int) = 0
    · have st : slices_IndexFunc_int64.l0 v F (v.length : Int) (k : Int) = slices_IndexFunc_int64.l0 v F (v.length : Int) ((k + 1 : Nat) : Int) := by
        rw [h] at hfk
        rw [slices_IndexFunc_int64.l0_eq, wn (j := k) (by omega), h]
        (with_reducible repeat (first | refine go_pos (by first | assumption | omega | rfl | exact B_pos (by omega)) ?_ | refine go_neg (by first | assumption | omega | decide | exact B_not (by omega)) ?_ | refine go_bind (by first | assumption) ?_ | dsimp only))
      rw [st]
      refine ih (k + 1) (by omega) fun i hi => ?_
      by_cases e : i = k
      · rw [e]; exact h
      · exact hz i (by omega)
    · refine .inr ⟨k, by omega, hz, h, ?_⟩
      rw [slices_IndexFunc_int64.l0_eq]
      (with_reducible repeat (first | refine go_pos (by first | assumption | omega | rfl | exact B_pos (by omega)) ?_ | refine go_neg (by first | assumption | omega | decide | exact B_not (by omega)) ?_ | refine go_bind (by first | assumption) ?_ | dsimp only))
      rw [decide_eq_false h]
      rfl
theorem rd_zeros (n : Nat) (i : Int) : rd (List.replicate n (0 : Int)) i = 0 := by
  simp only [rd, List.getD_eq_getElem?_getD, List.getElem?_replicate]
  split <;> rfl
theorem zeros_in {m : Int} (m0 : 0 < m) (n : Nat) : AllIn m (List.replicate n (0 : Int)) := fun i _ _ => by rw [rd_zeros]; omega
theorem lin_back {m a b c e : Int} (h : m ∣ 1 * a + (-e) * b - c) : m ∣ 1 * c + e * b - a := by
  obtain ⟨q, hq⟩ := h
  refine ⟨-q, ?_⟩
  rw [Int.mul_neg, ← hq, Int.neg_mul]
  omega
theorem tdiv_neg {d e : Int} (d0 : 0 < d) : Int.tdiv (0 - d * e) d = -e := by
  rw [show 0 - d * e = d * (-e) by rw [Int.mul_neg]; omega]
  exact Int.mul_tdiv_cancel_left _ (by omega)
theorem last_row (st : List (List Int)) (v : List Int) : row (st ++ [v]) (st.length : Int) = v := by simp [row, List.getD_eq_getElem?_getD]
theorem take_init (st : List (List Int)) (v : List Int) : (st ++ [v]).take st.length = st := by simp
theorem quot_bd {d e x : Int} (d0 : 0 < d) (h : x = d * e) (x0 : 0 ≤ x) (x1 : x ≤ 12) : 0 ≤ e ∧ e ≤ 12 := by
  constructor
  · by_cases q : 0 ≤ e
    · exact q
    · have := Int.mul_le_mul_of_nonneg_left (show e ≤ -1 by omega) (Int.le_of_lt d0)
      omega
  · by_cases q : e ≤ 12
    · exact q
    · have h1 := Int.mul_le_mul_of_nonneg_right (show 1 ≤ d by omega) (show 0 ≤ e by omega)
      omega
theorem put_top {m : Int} (m2 : 2 ≤ m) (m12 : m ≤ 12) {W : Nat} (hW : W ≤ 100000) {M : Vc → Prop} : ∀ (n j : Nat) (v : List Int) (p st : List (List Int)), W ≤ j + n → Zb j v → Pst m W p (st ++ [v]) M → st.length ≤ 1000000000 →
    (impl_span_put.l0 m p (st ++ [v]) = impl_span_put.l0 m p st ∧ Pst m W p st M) ∨
    ∃ p' ws, impl_span_put.l0 m p (st ++ [v]) = impl_span_put.l0 m p' (st ++ ws) ∧ ws.length = 3 ∧ Pst m W p' (st ++ ws) M ∧ dsum m p' W < dsum m p W := by
  intro n
  induction n with
  | zero =>
    intro j v p st hj hz h hst
    obtain ⟨hvl, hva⟩ := h.inv.sts v (List.mem_append_right _ (List.mem_singleton.2 rfl))
    have e0 : (st ++ [v]).length = st.length + 1 := by simp
    have e1 : wrapI (((st ++ [v]).length : Int) - 1) = (st.length : Int) := by rw [w64 (by omega) (by omega)]; omega
    rcases indexFunc v (by omega) with ⟨hzz, hI⟩ | ⟨i, hi, hzi, hne, hI⟩
    · rw [hvl] at hzz
      refine .inl ⟨?_, h.drop hzz⟩
      rw [impl_span_put.l0_eq, e1, last_row, Int.toNat_natCast, take_init]
      ((with_reducible repeat (first | refine go_pos (by first | assumption | omega | rfl | exact B_pos (by omega)) ?_ | refine go_neg (by first | assumption | omega | decide | exact B_not (by omega)) ?_ | refine go_bind (by first | assumption) ?_ | dsimp only)); first | done | (with_reducible rfl) | simp (disch := omega) only [w64] | (show False; done))
    · exact absurd (hz i (by omega)) hne
  | succ n ih =>
    intro j v p st hj hz h hst
    obtain ⟨hvl, hva⟩ := h.inv.sts v (List.mem_append_right _ (List.mem_singleton.2 rfl))
    have e0 : (st ++ [v]).length = st.length + 1 := by simp
    have e1 : wrapI (((st ++ [v]).length : Int) - 1) = (st.length : Int) := by rw [w64 (by omega) (by omega)]; omega
    rcases indexFunc v (by omega) with ⟨hzz, hI⟩ | ⟨i, hi, hzi, hne, hI⟩
    · rw [hvl] at hzz
      refine .inl ⟨?_, h.drop hzz⟩
      rw [impl_span_put.l0_eq, e1, last_row, Int.toNat_natCast, take_init]
      ((with_reducible repeat (first | refine go_pos (by first | assumption | omega | rfl | exact B_pos (by omega)) ?_ | refine go_neg (by first | assumption | omega | decide | exact B_not (by omega)) ?_ | refine go_bind (by first | assumption) ?_ | dsimp only)); first | done | (with_reducible rfl) | simp (disch := omega) only [w64] | (show False; done))
    have hij : j ≤ i := by
      by_cases q : j ≤ i
      · exact q
      · exact absurd (hz i (by omega)) hne
    have hpl := h.inv.tab.len
    have hiW : i < W := by omega
    obtain ⟨v0, v1⟩ := hva i (by omega) (by omega)
    have swap : ∀ o : List Int, (row p (i : Int) = [] ∧ o = List.replicate v.length 0 ∨ row p (i : Int) ≠ [] ∧ o = row p (i : Int)) → (¬ rd o (i : Int) = 0 → ¬ Int.tmod (rd v (i : Int)) (rd o (i : Int)) = 0) →
        ∃ p' ws, impl_span_put.j1 v i o m p st = impl_span_put.l0 m p' (st ++ ws) ∧ ws.length = 3 ∧ Pst m W p' (st ++ ws) M ∧ dsum m p' W < dsum m p W := by
      intro o ho hnd
      have ol : o.length = W := by
        rcases ho with ⟨_, rfl⟩ | ⟨hr, rfl⟩
        · rw [List.length_replicate]; exact hvl
        · exact (h.inv.tab.prow hiW hr).len
      have oa : AllIn m o := by
        rcases ho with ⟨_, rfl⟩ | ⟨hr, rfl⟩
        · exact zeros_in (by omega) _
        · exact (h.inv.tab.prow hiW hr).ent
      have oz : Zb i o := by
        rcases ho with ⟨_, rfl⟩ | ⟨hr, rfl⟩
        · exact fun k _ => rd_zeros _ _
        · exact (h.inv.tab.prow hiW hr).zero
      obtain ⟨o0, o1⟩ := oa i (by omega) (by omega)
      obtain ⟨x, y, hbz, hx, hy, hxy⟩ := bezout m2 m12 (p := p) (a := rd o (i : Int)) (b := rd v (i : Int)) o0 (by omega) v0 (by omega)
      have dm : ((Int.gcd ((Int.gcd (rd o (i : Int)) (rd v (i : Int)) : Nat) : Int) m : Nat) : Int) ∣ m := Int.gcd_dvd_right ..
      have dg : ((Int.gcd ((Int.gcd (rd o (i : Int)) (rd v (i : Int)) : Nat) : Int) m : Nat) : Int) ∣ ((Int.gcd (rd o (i : Int)) (rd v (i : Int)) : Nat) : Int) := Int.gcd_dvd_left ..
      have dO := Int.dvd_trans dg (Int.gcd_dvd_left (a := rd o (i : Int)) (b := rd v (i : Int)))
      have dV := Int.dvd_trans dg (Int.gcd_dvd_right (a := rd o (i : Int)) (b := rd v (i : Int)))
      have d0 : 0 < ((Int.gcd ((Int.gcd (rd o (i : Int)) (rd v (i : Int)) : Nat) : Int) m : Nat) : Int) := by
        have : 0 < Int.gcd ((Int.gcd (rd o (i : Int)) (rd v (i : Int)) : Nat) : Int) m := Int.gcd_pos_of_ne_zero_right _ (by omega)
        omega
      generalize ((Int.gcd ((Int.gcd (rd o (i : Int)) (rd v (i : Int)) : Nat) : Int) m : Nat) : Int) = d at hbz hxy dm dO dV d0
      clear dg
      have dv1 : d ≤ rd v (i : Int) := Int.le_of_dvd (by omega) dV
      obtain ⟨eo, heo⟩ := dO
      obtain ⟨ev, hev⟩ := dV
      obtain ⟨eo0, eo1⟩ := quot_bd d0 heo o0 (by omega)
      obtain ⟨ev0, ev1⟩ := quot_bd d0 hev v0 (by omega)
      obtain ⟨md, hmd⟩ := dm
      obtain ⟨md0, md1⟩ := quot_bd d0 hmd (by omega) m12
      have hmdd : Int.tdiv m d = md := by rw [hmd]; exact Int.mul_tdiv_cancel_left _ (by omega)
      have hmde : m / d = md := by rw [hmd]; exact Int.mul_ediv_cancel_left _ (by omega)
      have c1 := combined m2 m12 (p := p) (x := x) (y := y) oa hva (by omega) (by omega) (by omega) (by omega) (by omega) (by omega)
      obtain ⟨nx, hnx⟩ : ∃ nx, nx = mix m x o y v := ⟨_, rfl⟩
      have nl : nx.length = W := by rw [hnx, mix_length, ol]
      have na : AllIn m nx := by rw [hnx]; exact mix_in (by omega)
      have nz : Zb i nx := fun k hk => by
        rw [hnx, mix_rd (by omega), oz k hk, hzi k hk]; simp
      have nd : rd nx (i : Int) = d := by
        rw [hnx, mix_rd (by omega)]
        have : (x * rd o (i : Int) + y * rd v (i : Int)) % m = d % m := by
          obtain ⟨q, hq⟩ := hxy
          rw [show x * rd o (i : Int) + y * rd v (i : Int) = d + m * q by omega, Int.add_mul_emod_self_left]
        rw [this, Int.emod_eq_of_lt (by omega) (by omega)]
      have nP : PRow m W i nx := ⟨nl, na, nz, by omega, by omega, by rw [nd]; exact ⟨md, hmd⟩⟩
      rw [← hnx] at c1
      have c2 := combined m2 m12 (p := p.set i nx) (x := 1) (y := -eo) oa na (by omega) (by omega) (by omega) (by omega) (by omega) (by omega)
      have c3 := combined m2 m12 (p := p.set i nx) (x := 1) (y := -ev) hva na (by omega) (by omega) (by omega) (by omega) (by omega) (by omega)
      have c4 := combined m2 m12 (p := p.set i nx) (x := md) (y := 0) na na rfl (by omega) (by omega) (by omega) (by omega) (by omega)
      have f1 : wrapI ((wrapI (0 - rd o (i : Int))).tdiv d) = -eo := by rw [w64 (x := 0 - rd o (i : Int)) (by omega) (by omega), heo, tdiv_neg d0, w64 (by omega) (by omega)]
      have f2 : wrapI ((wrapI (0 - rd v (i : Int))).tdiv d) = -ev := by rw [w64 (x := 0 - rd v (i : Int)) (by omega) (by omega), hev, tdiv_neg d0, w64 (by omega) (by omega)]
      have f3 : wrapI (Int.tdiv m d) = md := by rw [hmdd]; exact w64 (by omega) (by omega)
      have l3 : ∀ a b c : List Int, ([a, b, c] : List (List Int)).length = 3 := fun _ _ _ => rfl
      have hset : (p.set i nx).length = W := by rw [List.length_set]; exact hpl
      refine ⟨p.set i nx, [mix m 1 o (-eo) nx, mix m 1 v (-ev) nx, mix m md nx 0 nx], ?_, rfl, ?_, ?_⟩
      · rw [impl_span_put.j1_eq]
        by_cases q : rd o (i : Int) = 0
        · (with_reducible repeat (first | refine go_pos (by first | assumption | omega | rfl | exact B_pos (by omega)) ?_ | refine go_neg (by first | assumption | omega | decide | exact B_not (by omega)) ?_ | refine go_bind (by first | assumption) ?_ | dsimp only))
          rw [Int.toNat_natCast, f1]
          (with_reducible repeat (first | refine go_pos (by first | assumption | omega | rfl | exact B_pos (by omega)) ?_ | refine go_neg (by first | assumption | omega | decide | exact B_not (by omega)) ?_ | refine go_bind (by first | assumption) ?_ | dsimp only))
          rw [f2]
          (with_reducible repeat (first | refine go_pos (by first | assumption | omega | rfl | exact B_pos (by omega)) ?_ | refine go_neg (by first | assumption | omega | decide | exact B_not (by omega)) ?_ | refine go_bind (by first | assumption) ?_ | dsimp only))
          rw [f3]
          (with_reducible repeat (first | refine go_pos (by first | assumption | omega | rfl | exact B_pos (by omega)) ?_ | refine go_neg (by first | assumption | omega | decide | exact B_not (by omega)) ?_ | refine go_bind (by first | assumption) ?_ | dsimp only))
          rw [l3]
          (with_reducible repeat (first | refine go_pos (by first | assumption | omega | rfl | exact B_pos (by omega)) ?_ | refine go_neg (by first | assumption | omega | decide | exact B_not (by omega)) ?_ | refine go_bind (by first | assumption) ?_ | dsimp only))
        · have q2 := hnd q
          (with_reducible repeat (first | refine go_pos (by first | assumption | omega | rfl | exact B_pos (by omega)) ?_ | refine go_neg (by first | assumption | omega | decide | exact B_not (by omega)) ?_ | refine go_bind (by first | assumption) ?_ | dsimp only))
          rw [Int.toNat_natCast, f1]
          (with_reducible repeat (first | refine go_pos (by first | assumption | omega | rfl | exact B_pos (by omega)) ?_ | refine go_neg (by first | assumption | omega | decide | exact B_not (by omega)) ?_ | refine go_bind (by first | assumption) ?_ | dsimp only))
          rw [f2]
          (with_reducible repeat (first | refine go_pos (by first | assumption | omega | rfl | exact B_pos (by omega)) ?_ | refine go_neg (by first | assumption | omega | decide | exact B_not (by omega)) ?_ | refine go_bind (by first | assumption) ?_ | dsimp only))
          rw [f3]
          (with_reducible repeat (first | refine go_pos (by first | assumption | omega | rfl | exact B_pos (by omega)) ?_ | refine go_neg (by first | assumption | omega | decide | exact B_not (by omega)) ?_ | refine go_bind (by first | assumption) ?_ | dsimp only))
          rw [l3]
          (with_reducible repeat (first | refine go_pos (by first | assumption | omega | rfl | exact B_pos (by omega)) ?_ | refine go_neg (by first | assumption | omega | decide | exact B_not (by omega)) ?_ | refine go_bind (by first | assumption) ?_ | dsimp only))
      · have g0 : ∀ k : Nat, k < W → m ∣ 1 * rd o (k : Int) + (-eo) * rd nx (k : Int) - rd (mix m 1 o (-eo) nx) (k : Int) := fun k hk => mix_dvd (by omega)
        have g1 : ∀ k : Nat, k < W → m ∣ 1 * rd v (k : Int) + (-ev) * rd nx (k : Int) - rd (mix m 1 v (-ev) nx) (k : Int) := fun k hk => mix_dvd (by omega)
        have g2 : ∀ k : Nat, k < W → m ∣ md * rd nx (k : Int) + 0 * rd nx (k : Int) - rd (mix m md nx 0 nx) (k : Int) := fun k hk => mix_dvd (by omega)
        have zb : ∀ (a b : Int) (r : List Int), r.length = W → Zb i r → a * rd r (i : Int) + b * d = 0 ∨ a * rd r (i : Int) + b * d = m → Zb (i + 1) (mix m a r b nx) := fun a b r hr hz hab k hk => by
          rw [mix_rd (by omega)]
          by_cases e : k = i
          · subst e
            rw [nd]
            rcases hab with hab | hab <;> rw [hab]
            · exact Int.zero_emod m
            · exact Int.emod_self
          · rw [hz k (by omega), nz k (by omega)]; simp
        refine h.swap hiW hne nP (fun w hw => ?_) (fun hr => ?_) ?_ ?_ ?_
        · simp only [List.mem_cons, List.not_mem_nil, or_false] at hw
          rcases hw with rfl | rfl | rfl
          · exact ⟨⟨by rw [mix_length]; exact ol, mix_in (by omega)⟩, zb 1 (-eo) o ol oz (.inl (by rw [heo, Int.neg_mul, Int.mul_comm eo d]; omega))⟩
          · exact ⟨⟨by rw [mix_length]; exact hvl, mix_in (by omega)⟩, zb 1 (-ev) v hvl hzi (.inl (by rw [hev, Int.neg_mul, Int.mul_comm ev d]; omega))⟩
          · exact ⟨⟨by rw [mix_length]; exact nl, mix_in (by omega)⟩, zb md 0 nx nl nz (.inr (by rw [nd, hmd, Int.mul_comm md d]; omega))⟩
        · have ho' : o = row p (i : Int) := by
            rcases ho with ⟨e, _⟩ | ⟨_, e⟩
            · exact absurd e hr
            · exact e
          rw [← ho']
          exact Sp.two (a := 1) (b := eo) (x := V (mix m 1 o (-eo) nx)) (y := V nx) (.gen (.inr ⟨_, List.mem_cons_self .., rfl⟩)) (.gen (.inl rfl)) fun k hk => lin_back (g0 k hk)
        · exact Sp.two (a := 1) (b := ev) (x := V (mix m 1 v (-ev) nx)) (y := V nx) (.gen (.inr ⟨_, List.mem_cons_of_mem _ (List.mem_cons_self ..), rfl⟩)) (.gen (.inl rfl)) fun k hk => lin_back (g1 k hk)
        · refine .alike (.gen ⟨_, List.mem_cons_of_mem _ (List.mem_cons_of_mem _ (List.mem_cons_self ..)), rfl⟩) fun k hk => ?_
          obtain ⟨q, hq⟩ := g2 k hk
          refine ⟨-q, ?_⟩
          rw [nd, hmde, Int.mul_neg, ← hq]
          show rd (mix m md nx 0 nx) (k : Int) - md * rd nx (k : Int) = _
          omega
        · have hov : ∀ G : Vc → Prop, (row p (i : Int) ≠ [] → G (V (row p (i : Int)))) → Sp m W G (V o) := fun G hG => by
            rcases ho with ⟨_, rfl⟩ | ⟨hr, rfl⟩
            · exact .alike .nil fun k hk => by
                show m ∣ 0 - rd (List.replicate v.length (0 : Int)) (k : Int)
                rw [rd_zeros]; exact ⟨0, by omega⟩
            · exact .gen (hG hr)
          have ho2 := hov (fun g => g = V v ∨ (row p (i : Int) ≠ [] ∧ g = V (row p (i : Int)))) fun hr => .inr ⟨hr, rfl⟩
          have hn2 : Sp m W (fun g => g = V v ∨ (row p (i : Int) ≠ [] ∧ g = V (row p (i : Int)))) (V nx) := Sp.two (a := x) (b := y) (x := V o) (y := V v) ho2 (.gen (.inl rfl)) fun k hk => by
            have : m ∣ x * rd o (k : Int) + y * rd v (k : Int) - rd (mix m x o y v) (k : Int) := mix_dvd (by omega)
            rwa [← hnx] at this
          intro g hg
          rcases hg with rfl | ⟨w, hw, rfl⟩
          · exact hn2
          simp only [List.mem_cons, List.not_mem_nil, or_false] at hw
          rcases hw with rfl | rfl | rfl
          · exact Sp.two (a := 1) (b := -eo) ho2 hn2 fun k hk => g0 k hk
          · exact Sp.two (a := 1) (b := -ev) (x := V v) (.gen (.inl rfl)) hn2 fun k hk => g1 k hk
          · exact Sp.two (a := md) (b := 0) hn2 hn2 fun k hk => g2 k hk
      · rw [dsum_set hpl hiW, if_pos hiW, dv_set_same hpl hiW nP.ne, nd]
        unfold dv
        rcases ho with ⟨e, _⟩ | ⟨hr, e⟩
        · rw [if_pos e]; omega
        · rw [if_neg hr, ← e]
          have hO := (h.inv.tab.prow hiW hr).pos
          rw [← e] at hO
          have q2 := hnd (by omega)
          have : d ≤ rd o (i : Int) := Int.le_of_dvd hO ⟨eo, heo⟩
          by_cases q : d = rd o (i : Int)
          · exact absurd (tmod_zero.2 ⟨ev, by rw [← q]; exact hev⟩) q2
          · omega
    have start : ∀ o : List Int, (row p (i : Int) = [] ∧ o = List.replicate v.length 0 ∨ row p (i : Int) ≠ [] ∧ o = row p (i : Int)) → impl_span_put.l0 m p (st ++ [v]) = impl_span_put.j1 v i o m p st := by
      intro o ho
      rw [impl_span_put.l0_eq, e1, last_row, Int.toNat_natCast, take_init, Int.toNat_natCast]
      rcases ho with ⟨e, rfl⟩ | ⟨hr, rfl⟩
      · have e' : (row p (i : Int)).length = 0 := by rw [e]; rfl
        ((with_reducible repeat (first | refine go_pos (by first | assumption | omega | rfl | exact B_pos (by omega)) ?_ | refine go_neg (by first | assumption | omega | decide | exact B_not (by omega)) ?_ | refine go_bind (by first | assumption) ?_ | dsimp only)); first | done | (with_reducible rfl) | simp (disch := omega) only [w64] | (show False; done))
      · have e' : 0 < (row p (i : Int)).length := List.length_pos_iff.2 hr
        ((with_reducible repeat (first | refine go_pos (by first | assumption | omega | rfl | exact B_pos (by omega)) ?_ | refine go_neg (by first | assumption | omega | decide | exact B_not (by omega)) ?_ | refine go_bind (by first | assumption) ?_ | dsimp only)); first | done | (with_reducible rfl) | simp (disch := omega) only [w64] | (show False; done))
    by_cases hr : row p (i : Int) = []
    · have hs := start _ (.inl ⟨hr, rfl⟩)
      obtain ⟨p', ws, k1, k2, k3, k4⟩ := swap _ (.inl ⟨hr, rfl⟩) (fun q => absurd (rd_zeros _ _) q)
      exact .inr ⟨p', ws, hs.trans k1, k2, k3, k4⟩
    have hs := start _ (.inr ⟨hr, rfl⟩)
    by_cases hd : Int.tmod (rd v (i : Int)) (rd (row p (i : Int)) (i : Int)) = 0
    rotate_left
    · obtain ⟨p', ws, k1, k2, k3, k4⟩ := swap _ (.inr ⟨hr, rfl⟩) (fun _ => hd)
      exact .inr ⟨p', ws, hs.trans k1, k2, k3, k4⟩
    have hP := h.inv.tab.prow hiW hr
    have pl := hP.len
    have p0 := hP.pos
    have p1 := hP.lt
    obtain ⟨e, he⟩ := tmod_zero.1 hd
    obtain ⟨ee0, ee1⟩ := quot_bd p0 he v0 (by omega)
    have c1 := combined m2 m12 (p := p) (x := 1) (y := -e) hva hP.ent (by omega) (by omega) (by omega) (by omega) (by omega) (by omega)
    have f1 : wrapI ((wrapI (0 - rd v (i : Int))).tdiv (rd (row p (i : Int)) (i : Int))) = -e := by rw [w64 (x := 0 - rd v (i : Int)) (by omega) (by omega), he, tdiv_neg p0, w64 (by omega) (by omega)]
    have hpne : ¬ rd (row p (i : Int)) (i : Int) = 0 := by omega
    have l1 : ∀ a : List Int, ([a] : List (List Int)).length = 1 := fun _ => rfl
    have hstep : impl_span_put.j1 v i (row p (i : Int)) m p st = impl_span_put.l0 m p (st ++ [mix m 1 v (-e) (row p (i : Int))]) := by
      rw [impl_span_put.j1_eq, f1]
      (with_reducible repeat (first | refine go_pos (by first | assumption | omega | rfl | exact B_pos (by omega)) ?_ | refine go_neg (by first | assumption | omega | decide | exact B_not (by omega)) ?_ | refine go_bind (by first | assumption) ?_ | dsimp only))
      rw [l1]
      ((with_reducible repeat (first | refine go_pos (by first | assumption | omega | rfl | exact B_pos (by omega)) ?_ | refine go_neg (by first | assumption | omega | decide | exact B_not (by omega)) ?_ | refine go_bind (by first | assumption) ?_ | dsimp only)); first | done | (with_reducible rfl) | simp (disch := omega) only [w64] | (show False; done))
    have wl : (mix m 1 v (-e) (row p (i : Int))).length = W := by rw [mix_length]; exact hvl
    have wz : Zb (i + 1) (mix m 1 v (-e) (row p (i : Int))) := fun k hk => by
      rw [mix_rd (by omega)]
      by_cases q : k = i
      · subst q
        rw [he, show 1 * (rd (row p (k : Int)) (k : Int) * e) + -e * rd (row p (k : Int)) (k : Int) = 0 by rw [Int.neg_mul, Int.mul_comm e]; omega]
        exact Int.zero_emod m
      · rw [hzi k (by omega), hP.zero k (by omega)]; simp
    have h' := h.less (c := e) hiW hr hne ⟨wl, mix_in (by omega)⟩ (fun k hk => wz k (by omega)) fun k hk => mix_dvd (by omega)
    rcases ih (i + 1) _ p st (by omega) wz h' hst with ⟨k1, k2⟩ | ⟨p', ws, k1, k2, k3, k4⟩
    · exact .inl ⟨(hs.trans hstep).trans k1, k2⟩
    · exact .inr ⟨p', ws, (hs.trans hstep).trans k1, k2, k3, k4⟩
theorem put_ {m : Int} (m2 : 2 ≤ m) (m12 : m ≤ 12) {W : Nat} (hW : W ≤ 100000) {M : Vc → Prop} {p : List (List Int)} {r : List Int} (h : Pst m W p [r] M) : ∃ p', impl_span_put.f m p r = some (m, p') ∧ Pst m W p' [] M := by
  rw [impl_span_put.f_eq]
  have key : ∀ (D : Nat) (k : Nat) (p st : List (List Int)), st.length = k → dsum m p W ≤ D → (st.length : Int) + 3 * dsum m p W ≤ 100000000 → Pst m W p st M → ∃ p', impl_span_put.l0 m p st = some (m, p') ∧ Pst m W p' [] M := by
    intro D
    induction D with
    | zero =>
      intro k
      induction k with
      | zero =>
        intro p st hl _ _ h
        obtain rfl := List.length_eq_zero_iff.1 hl
        refine ⟨p, ?_, h⟩
        rw [impl_span_put.l0_eq]
        ((with_reducible repeat (first | refine go_pos (by first | assumption | omega | rfl | exact B_pos (by omega)) ?_ | refine go_neg (by first | assumption | omega | decide | exact B_not (by omega)) ?_ | refine go_bind (by first | assumption) ?_ | dsimp only)); first | done | (with_reducible rfl) | simp (disch := omega) only [w64] | (show False; done))
      | succ k ih =>
        intro p st hl hD hK h
        obtain ⟨st', v, rfl⟩ : ∃ st' v, st = st' ++ [v] := ⟨st.dropLast, st.getLast (fun e => by rw [e] at hl; simp at hl), (List.dropLast_concat_getLast _).symm⟩
        have e0 : (st' ++ [v]).length = st'.length + 1 := by simp
        obtain ⟨s0, _⟩ := dsum_bd (show 0 < m by omega) h.inv.tab W (Nat.le_refl _)
        rcases put_top m2 m12 hW W 0 v p st' (by omega) (fun i hi => by omega) h (by omega) with ⟨k1, k2⟩ | ⟨p', ws, k1, k2, k3, k4⟩
        · rw [k1]
          exact ih p st' (by omega) hD (by omega) k2
        · obtain ⟨s1, _⟩ := dsum_bd (show 0 < m by omega) k3.inv.tab W (Nat.le_refl _)
          omega
    | succ D ihD =>
      intro k
      induction k with
      | zero =>
        intro p st hl _ _ h
        obtain rfl := List.length_eq_zero_iff.1 hl
        refine ⟨p, ?_, h⟩
        rw [impl_span_put.l0_eq]
        ((with_reducible repeat (first | refine go_pos (by first | assumption | omega | rfl | exact B_pos (by omega)) ?_ | refine go_neg (by first | assumption | omega | decide | exact B_not (by omega)) ?_ | refine go_bind (by first | assumption) ?_ | dsimp only)); first | done | (with_reducible rfl) | simp (disch := omega) only [w64] | (show False; done))
      | succ k ih =>
        intro p st hl hD hK h
        obtain ⟨st', v, rfl⟩ : ∃ st' v, st = st' ++ [v] := ⟨st.dropLast, st.getLast (fun e => by rw [e] at hl; simp at hl), (List.dropLast_concat_getLast _).symm⟩
        have e0 : (st' ++ [v]).length = st'.length + 1 := by simp
        obtain ⟨s0, _⟩ := dsum_bd (show 0 < m by omega) h.inv.tab W (Nat.le_refl _)
        rcases put_top m2 m12 hW W 0 v p st' (by omega) (fun i hi => by omega) h (by omega) with ⟨k1, k2⟩ | ⟨p', ws, k1, k2, k3, k4⟩
        · rw [k1]
          exact ih p st' (by omega) hD (by omega) k2
        · rw [k1]
          have e1 : (st' ++ ws).length = st'.length + 3 := by rw [List.length_append, k2]
          exact ihD _ p' (st' ++ ws) rfl (by omega) (by omega) k3
  obtain ⟨s0, s1⟩ := dsum_bd (show 0 < m by omega) h.inv.tab W (Nat.le_refl _)
  have hb : m * (W : Int) ≤ 12 * 100000 := Int.mul_le_mul (by omega) (by omega) (by omega) (by omega)
  exact key (dsum m p W).toNat 1 p [r] rfl (by omega) (by show (1 : Int) + _ ≤ _; omega) h
end Go.Proofs.Ytpppnoliogdkiaa.V
set_option linter.unusedVariables false
set_option linter.unusedSimpArgs false
set_option maxHeartbeats 4000000
set_option maxRecDepth 20000
namespace Go.Proofs.Ytpppnoliogdkiaa.V
open Go.RowKit Go.Proofs.Ytpppnoliogdkiaa.D Go.Proofs.Ytpppnoliogdkiaa.P
end Go.Proofs.Ytpppnoliogdkiaa.V
set_option linter.unusedVariables false
set_option linter.unusedSimpArgs false
set_option maxHeartbeats 4000000
set_option maxRecDepth 20000
namespace Go.Proofs.Ytpppnoliogdkiaa.V
open Go.RowKit Go.Proofs.Ytpppnoliogdkiaa.D Go.Proofs.Ytpppnoliogdkiaa.P
section
variable {m : Int} {W : Nat} {p : List (List Int)} {M : Vc → Prop} {G G' : Vc → Prop}
theorem Pst.lead (m0 : 0 < m) (h : Pst m W p [] M) : Lead m W p M := by
  have e : ∀ k g, GT W p [] k g → Sp m W (Rws W p k) g := fun k g hg => by
    rcases hg with hg | ⟨s, hs, _⟩
    · exact .gen hg
    · cases hs
  exact lead_of m0 h.inv.tab (fun j hj hr => (h.inv.how j hj hr).mono (e _)) fun x => by
    rw [← h.spn x]
    exact ⟨fun hx => hx.mono fun g hg => .gen (.inl hg), fun hx => hx.mono (e 0)⟩
theorem Pst.add {r : List Int} (h : Pst m W p [] (Sp m W G)) (hr : r.length = W ∧ AllIn m r) (hG : ∀ g, G' g ↔ G g ∨ g = V r) : Pst m W p [r] (Sp m W G') where
  inv := ⟨h.inv.tab, fun s hs => by rw [List.mem_singleton] at hs; subst hs; exact hr, fun j hj hn => (h.inv.how j hj hn).mono fun g hg => by
    rcases hg with hg | ⟨s, hs, _⟩
    · exact .gen (.inl hg)
    · cases hs⟩
  spn := fun x => by
    constructor
    · intro hx
      refine hx.mono fun g hg => ?_
      rcases hg with hg | ⟨s, hs, _, rfl⟩
      · exact ((h.spn g).1 (.gen (.inl hg))).mono fun g hg => .gen ((hG g).2 (.inl hg))
      · rw [List.mem_singleton] at hs
        subst hs
        exact .gen ((hG _).2 (.inr rfl))
    · intro hx
      refine hx.mono fun g hg => ?_
      rcases (hG g).1 hg with hg | rfl
      · refine ((h.spn g).2 (.gen hg)).mono fun g hg => ?_
        rcases hg with hg | ⟨s, hs, _⟩
        · exact .gen (.inl hg)
        · cases hs
      · exact .gen (.inr ⟨r, List.mem_singleton.2 rfl, fun i hi => by omega, rfl⟩)
theorem row_repl (n : Nat) (i : Int) : row (List.replicate n ([] : List Int)) i = [] := by
  simp only [row, List.getD_eq_getElem?_getD, List.getElem?_replicate]
  split <;> rfl
theorem Pst.none (hG : ∀ g, ¬ G g) : Pst m W (List.replicate W []) [] (Sp m W G) where
  inv := ⟨⟨List.length_replicate, fun j _ => .inl (row_repl _ _)⟩, fun s hs => (by cases hs), fun j _ hn => absurd (row_repl _ _) hn⟩
  spn := fun x => by
    constructor
    · intro hx
      refine hx.mono fun g hg => ?_
      rcases hg with ⟨j, _, _, hn, _⟩ | ⟨s, hs, _⟩
      · exact absurd (row_repl _ _) hn
      · cases hs
    · intro hx
      exact hx.mono fun g hg => absurd hg (hG g)
def Gn (f : Nat → List Int) (k : Nat) : Vc → Prop := fun g => ∃ i : Nat, i < k ∧ g = V (f i)
theorem Gn_succ {f : Nat → List Int} {k : Nat} (g : Vc) : Gn f (k + 1) g ↔ Gn f k g ∨ g = V (f k) := by
  constructor
  · rintro ⟨i, hi, rfl⟩
    by_cases e : i = k
    · exact .inr (by rw [e])
    · exact .inl ⟨i, by omega, rfl⟩
  · rintro (⟨i, hi, rfl⟩ | rfl)
    · exact ⟨i, by omega, rfl⟩
    · exact ⟨k, by omega, rfl⟩
theorem rd_take {r : List Int} {A i : Nat} (h : i < A) : rd (r.take A) (i : Int) = rd r (i : Int) := by
  simp [rd, List.getD_eq_getElem?_getD, List.getElem?_take, h]
theorem rd_drop {r : List Int} {A i : Nat} : rd (r.drop A) (i : Int) = rd r ((A + i : Nat) : Int) := by
  simp only [rd, Int.toNat_natCast, List.getD_eq_getElem?_getD, List.getElem?_drop]
theorem Lead.first {A B : Nat} {q : List (List Int)} (h : Lead m (A + B) p M) (m0 : 0 < m) (hl : q.length = A) (hr : ∀ j : Nat, j < A → row q (j : Int) = (row p (j : Int)).take A) :
    Lead m A q (fun x => ∃ y, M y ∧ ∀ i, i < A → m ∣ y i - x i) := by
  have hP : ∀ j : Nat, j < A → row p (j : Int) ≠ [] → PRow m A j (row q (j : Int)) := fun j hj hn => by
    have k := h.tab.prow (show j < A + B by omega) hn
    rw [hr j hj]
    refine ⟨by rw [List.length_take, k.len]; omega, k.ent.take _, fun i hi => by rw [rd_take (by omega)]; exact k.zero i hi, ?_, ?_, ?_⟩ <;> rw [rd_take hj]
    · exact k.pos
    · exact k.lt
    · exact k.dvd
  have hE : ∀ j : Nat, j < A → (row q (j : Int) = [] ↔ row p (j : Int) = []) := fun j hj => by
    constructor
    · intro e
      by_cases hn : row p (j : Int) = []
      · exact hn
      · exact absurd e (hP j hj hn).ne
    · intro e; rw [hr j hj, e]; simp
  have hdv : ∀ j : Nat, j < A → dv m q j = dv m p j := fun j hj => by
    unfold dv
    by_cases hn : row p (j : Int) = []
    · rw [if_pos hn, if_pos ((hE j hj).2 hn)]
    · rw [if_neg hn, if_neg fun e => hn ((hE j hj).1 e), hr j hj, rd_take hj]
  exact {
    tab := ⟨hl, fun j hj => by
      by_cases hn : row p (j : Int) = []
      · exact .inl ((hE j hj).2 hn)
      · exact .inr (hP j hj hn)⟩
    sub := ⟨⟨_, h.sub.zero, fun i _ => dvd_same rfl⟩, fun x y ⟨x', hx, ex⟩ ⟨y', hy, ey⟩ c => ⟨_, h.sub.lin _ _ hx hy c, fun i hi => by
      have := Int.dvd_add (ex i hi) (Int.dvd_mul_of_dvd_right (b := c) (ey i hi))
      rw [Int.mul_sub] at this
      rwa [show ∀ a b c d : Int, a + c - (b + d) = a - b + (c - d) from fun a b c d => by omega]⟩,
      fun x y ⟨x', hx, ex⟩ e => ⟨x', hx, fun i hi => by
        have := Int.dvd_add (ex i hi) (e i hi)
        rwa [show ∀ a b c : Int, a - b + (b - c) = a - c from fun a b c => by omega] at this⟩⟩
    own := fun j hj hn => ⟨V (row p (j : Int)), h.own j (by omega) fun e => hn ((hE j hj).2 e), fun i hi => by
      refine dvd_same ?_
      show rd (row p (j : Int)) (i : Int) = rd (row q (j : Int)) (i : Int)
      rw [hr j hj, rd_take hi]⟩
    lead := fun x ⟨y, hy, e⟩ j hj hz => by
      have := h.lead y hy j (by omega) fun i hi => by
        have := Int.dvd_add (e i (by omega)) (hz i hi)
        rwa [show ∀ a b : Int, a - b + b = a from fun a b => by omega] at this
      rw [hdv j hj]
      have hd := (dv_bd m0 h.tab (show j < A + B by omega)).2.2
      have := Int.dvd_sub this (Int.dvd_trans hd (e j hj))
      rwa [show ∀ a b : Int, a - (a - b) = b from fun a b => by omega] at this }
def pad (A : Nat) (x : Vc) : Vc := fun i => if i < A then 0 else x (i - A)
theorem Lead.last {A B : Nat} {q : List (List Int)} (h : Lead m (A + B) p M) (m0 : 0 < m) (hl : q.length = B) (hr : ∀ j : Nat, j < B → row q (j : Int) = (row p ((A + j : Nat) : Int)).drop A) :
    Lead m B q (fun x => M (pad A x)) := by
  have hP : ∀ j : Nat, j < B → row p ((A + j : Nat) : Int) ≠ [] → PRow m B j (row q (j : Int)) := fun j hj hn => by
    have k := h.tab.prow (show A + j < A + B by omega) hn
    rw [hr j hj]
    refine ⟨by rw [List.length_drop, k.len]; omega, k.ent.drop _, fun i hi => by rw [rd_drop]; exact k.zero _ (by omega), ?_, ?_, ?_⟩ <;> rw [rd_drop]
    · exact k.pos
    · exact k.lt
    · exact k.dvd
  have hE : ∀ j : Nat, j < B → (row q (j : Int) = [] ↔ row p ((A + j : Nat) : Int) = []) := fun j hj => by
    constructor
    · intro e
      by_cases hn : row p ((A + j : Nat) : Int) = []
      · exact hn
      · exact absurd e (hP j hj hn).ne
    · intro e; rw [hr j hj, e]; simp
  have hdv : ∀ j : Nat, j < B → dv m q j = dv m p (A + j) := fun j hj => by
    unfold dv
    by_cases hn : row p ((A + j : Nat) : Int) = []
    · rw [if_pos hn, if_pos ((hE j hj).2 hn)]
    · rw [if_neg hn, if_neg fun e => hn ((hE j hj).1 e), hr j hj, rd_drop]
  have hpad : ∀ (x y : Vc) (c : Int), pad A (fun i => x i + c * y i) = fun i => pad A x i + c * pad A y i := fun x y c => by
    funext i
    unfold pad
    by_cases h : i < A
    · simp [h]
    · simp [h]
  exact {
    tab := ⟨hl, fun j hj => by
      by_cases hn : row p ((A + j : Nat) : Int) = []
      · exact .inl ((hE j hj).2 hn)
      · exact .inr (hP j hj hn)⟩
    sub := ⟨h.sub.alike _ _ h.sub.zero fun i _ => dvd_same (by unfold pad; simp), fun x y hx hy c => by rw [hpad]; exact h.sub.lin _ _ hx hy c,
      fun x y hx e => h.sub.alike _ _ hx fun i hi => by
        unfold pad
        by_cases k : i < A
        · simp [k]
        · simp only [k, if_false]
          exact e (i - A) (by omega)⟩
    own := fun j hj hn => by
      have hn' : row p ((A + j : Nat) : Int) ≠ [] := fun e => hn ((hE j hj).2 e)
      refine h.sub.alike _ _ (h.own (A + j) (by omega) hn') fun i hi => dvd_same ?_
      unfold pad
      by_cases k : i < A
      · simp only [k, if_true]
        exact (h.tab.prow (show A + j < A + B by omega) hn').zero i (by omega)
      · simp only [k, if_false]
        show rd (row p ((A + j : Nat) : Int)) (i : Int) = rd (row q (j : Int)) ((i - A : Nat) : Int)
        rw [hr j hj, rd_drop, show A + (i - A) = i by omega]
    lead := fun x hx j hj hz => by
      have := h.lead _ hx (A + j) (by omega) fun i hi => by
        unfold pad
        by_cases k : i < A
        · simp [k]
        · simp only [k, if_false]
          exact hz _ (by omega)
      rw [hdv j hj]
      unfold pad at this
      rw [if_neg (by omega), show A + j - A = j by omega] at this
      exact this }
theorem rd_app_left {a b : List Int} {i : Nat} (h : i < a.length) : rd (a ++ b) (i : Int) = rd a (i : Int) := by
  simp [rd, List.getD_eq_getElem?_getD, List.getElem?_append, h]
theorem rd_app_right {a b : List Int} {i : Nat} (h : a.length ≤ i) : rd (a ++ b) (i : Int) = rd b ((i - a.length : Nat) : Int) := by
  simp only [rd, Int.toNat_natCast, List.getD_eq_getElem?_getD, List.getElem?_append, if_neg (show ¬ i < a.length by omega)]
theorem first_span {A B k : Nat} {f e : Nat → List Int} (hf : ∀ i, i < k → (f i).length = A) (hM : Lead m (A + B) p (Sp m (A + B) (Gn (fun i => f i ++ e i) k))) (hL : Sub m A (fun x => ∃ y, Sp m (A + B) (Gn (fun i => f i ++ e i) k) y ∧ ∀ i, i < A → m ∣ y i - x i)) (x : Vc) :
    (∃ y, Sp m (A + B) (Gn (fun i => f i ++ e i) k) y ∧ ∀ i, i < A → m ∣ y i - x i) ↔ Sp m A (Gn f k) x := by
  constructor
  · rintro ⟨y, hy, h⟩
    refine .alike ?_ h
    have hs : Sub m (A + B) (Sp m A (Gn f k)) := ⟨.nil, fun x y hx hy c => hx.plus (hy.mul c), fun x y hx h => .alike hx fun i hi => h i (by omega)⟩
    refine hs.all (fun g hg => ?_) hy
    obtain ⟨i, hi, rfl⟩ := hg
    refine .alike (.gen ⟨i, hi, rfl⟩) fun j hj => dvd_same ?_
    show rd (f i) (j : Int) = rd (f i ++ e i) (j : Int)
    rw [rd_app_left (by rw [hf i hi]; exact hj)]
  · intro hx
    refine hL.all (fun g hg => ?_) hx
    obtain ⟨i, hi, rfl⟩ := hg
    refine ⟨_, .gen ⟨i, hi, rfl⟩, fun j hj => dvd_same ?_⟩
    show rd (f i ++ e i) (j : Int) = rd (f i) (j : Int)
    rw [rd_app_left (by rw [hf i hi]; exact hj)]
end
end Go.Proofs.Ytpppnoliogdkiaa.V
set_option linter.unusedVariables false
set_option linter.unusedSimpArgs false
set_option maxHeartbeats 4000000
set_option maxRecDepth 20000
namespace Go.Proofs.Ytpppnoliogdkiaa.V
open Go.RowKit Go.Proofs.Ytpppnoliogdkiaa.D Go.Proofs.Ytpppnoliogdkiaa.P
def unitC (c i : Nat) : List Int := (List.replicate c (0 : Int)).set i 1
theorem unitC_length (c i : Nat) : (unitC c i).length = c := by simp [unitC]
theorem unitC_in {m : Int} (m2 : 2 ≤ m) (c i : Nat) : AllIn m (unitC c i) := allIn_of fun x hx => by
  rcases List.mem_or_eq_of_mem_set hx with h | h
  · rw [List.mem_replicate] at h; omega
  · omega
theorem bdL_length (g : List (List Int)) (m : Int) (u v : List Int) (d : Nat) : (bdL g m u v d).length = (cells g ((d + 1 : Nat) : Int)).toNat := by rw [bdL, List.length_map, List.length_range]
theorem bdL_in {m : Int} (m2 : 2 ≤ m) (g : List (List Int)) (u v : List Int) (d : Nat) : AllIn m (bdL g m u v d) := allIn_of fun x hx => by
  obtain ⟨i, _, rfl⟩ := List.mem_map.1 hx
  exact ⟨Int.emod_nonneg _ (by omega), Int.emod_lt_of_pos _ (by omega)⟩
noncomputable def bdU (g : List (List Int)) (m : Int) (u : List Int) (e i : Nat) : List Int := bdL g m u (unitC (cells g (e : Int)).toNat i) e
noncomputable def bdG (g : List (List Int)) (m : Int) (u : List Int) : Nat → Vc → Prop
  | 0 => fun _ => False
  | e + 1 => Gn (bdU g m u e) (cells g (e : Int)).toNat
noncomputable def bdA (g : List (List Int)) (m : Int) (u : List Int) (e i : Nat) : List Int := bdU g m u e i ++ unitC (cells g (e : Int)).toNat i
noncomputable def nB (g : List (List Int)) (e : Nat) : Nat := (cells g (e : Int)).toNat
theorem unitCo {g : List (List Int)} (hg : Grp g) {m : Int} (m2 : 2 ≤ m) {e : Nat} (he : e ≤ 3) (i : Nat) : Co g m e (unitC (cells g (e : Int)).toNat i) := by
  have hb := cells_bd hg (d := (e : Int)) (by omega)
  exact ⟨⟨by omega, by omega⟩, by rw [unitC_length]; omega, unitC_in m2 _ _⟩
theorem newSpan_ (m : Int) {c : Nat} (hc : c ≤ 100000) : impl_newSpan.f m (c : Int) = some (m, List.replicate c []) := by
  rw [impl_newSpan.f_eq, Int.toNat_natCast]
  ((with_reducible repeat (first | refine go_pos (by first | assumption | omega | rfl | exact B_pos (by omega)) ?_ | refine go_neg (by first | assumption | omega | decide | exact B_not (by omega)) ?_ | refine go_bind (by first | assumption) ?_ | dsimp only)); first | done | (with_reducible rfl) | simp (disch := omega) only [w64] | (show False; done))
theorem concat2 {a b : List Int} (ha : a.length ≤ 1000000) (hb : b.length ≤ 1000000) : slices_Concat_int64.f [a, b] = some (a ++ b) := by
  have l2 : ([a, b] : List (List Int)).length = 2 := rfl
  have r0 : row [a, b] 0 = a := rfl
  have r1 : row [a, b] 1 = b := rfl
  have w1 : wrapI (0 + 1) = 1 := w64 (by omega) (by omega)
  have w2 : wrapI (1 + 1) = 2 := w64 (by omega) (by omega)
  have w3 : wrapI (0 + (a.length : Int)) = (a.length : Int) := by rw [w64 (by omega) (by omega)]; omega
  have w4 : wrapI ((a.length : Int) + (b.length : Int)) = ((a.length + b.length : Nat) : Int) := by rw [w64 (by omega) (by omega)]; omega
  have w5 : wrapI (0 - 0) = 0 := w64 (by omega) (by omega)
  have hG : slices_Grow_int64.f ((a.length + b.length : Nat) : Int) = some [] := by
    have w6 : wrapI (((a.length + b.length : Nat) : Int) - 0) = ((a.length + b.length : Nat) : Int) := by rw [w64 (by omega) (by omega)]; omega
    rw [slices_Grow_int64.f_eq, w5, w6, Int.toNat_natCast, List.length_replicate]
    by_cases h : a.length + b.length = 0
    · rw [h]; ((with_reducible repeat (first | refine go_pos (by first | assumption | omega | rfl | exact B_pos (by omega)) ?_ | refine go_neg (by first | assumption | omega | decide | exact B_not (by omega)) ?_ | refine go_bind (by first | assumption) ?_ | dsimp only)); first | done | (with_reducible rfl) | simp (disch := omega) only [w64] | (show False; done))
    · (with_reducible repeat (first | refine go_pos (by first | assumption | omega | rfl | exact B_pos (by omega)) ?_ | refine go_neg (by first | assumption | omega | decide | exact B_not (by omega)) ?_ | refine go_bind (by first | assumption) ?_ | dsimp only))
      rfl
  rw [slices_Concat_int64.f_eq, l2, slices_Concat_int64.l0_eq, r0, w1, w3]
  (with_reducible repeat (first | refine go_pos (by first | assumption | omega | rfl | exact B_pos (by omega)) ?_ | refine go_neg (by first | assumption | omega | decide | exact B_not (by omega)) ?_ | refine go_bind (by first | assumption) ?_ | dsimp only))
  rw [slices_Concat_int64.l0_eq, r1, w2, w4]
  (with_reducible repeat (first | refine go_pos (by first | assumption | omega | rfl | exact B_pos (by omega)) ?_ | refine go_neg (by first | assumption | omega | decide | exact B_not (by omega)) ?_ | refine go_bind (by first | assumption) ?_ | dsimp only))
  rw [slices_Concat_int64.l0_eq]
  (with_reducible repeat (first | refine go_pos (by first | assumption | omega | rfl | exact B_pos (by omega)) ?_ | refine go_neg (by first | assumption | omega | decide | exact B_not (by omega)) ?_ | refine go_bind (by first | assumption) ?_ | dsimp only))
  rw [l2, slices_Concat_int64.l1_eq, r0, w1, show ([] : List Int).length = 0 from rfl]
  (with_reducible repeat (first | refine go_pos (by first | assumption | omega | rfl | exact B_pos (by omega)) ?_ | refine go_neg (by first | assumption | omega | decide | exact B_not (by omega)) ?_ | refine go_bind (by first | assumption) ?_ | dsimp only))
  rw [List.nil_append, slices_Concat_int64.l1_eq, r1, w2]
  (with_reducible repeat (first | refine go_pos (by first | assumption | omega | rfl | exact B_pos (by omega)) ?_ | refine go_neg (by first | assumption | omega | decide | exact B_not (by omega)) ?_ | refine go_bind (by first | assumption) ?_ | dsimp only))
  rw [slices_Concat_int64.l1_eq]
  ((with_reducible repeat (first | refine go_pos (by first | assumption | omega | rfl | exact B_pos (by omega)) ?_ | refine go_neg (by first | assumption | omega | decide | exact B_not (by omega)) ?_ | refine go_bind (by first | assumption) ?_ | dsimp only)); first | done | (with_reducible rfl) | simp (disch := omega) only [w64] | (show False; done))
theorem nA_bd {g : List (List Int)} (hg : Grp g) {e : Nat} (he : e ≤ 4) : nB g e ≤ 16807 ∧ ((nB g e : Nat) : Int) = cells g (e : Int) := by
  have hb := cells_bd hg (d := (e : Int)) (by omega)
  unfold nB
  omega
theorem bounded_ {g : List (List Int)} (hg : Grp g) {m : Int} {u : List Int} (hm : Mdl g m u) {n : Nat} (hn : n ≤ 3) :
    ∃ p, impl_bounded.f g m u (n : Int) = some (m, p, ((nB g (n + 1) : Nat) : Int)) ∧ Pst m (nB g (n + 1) + nB g n) p [] (Sp m (nB g (n + 1) + nB g n) (Gn (bdA g m u n) (nB g n))) := by
  have m2 := hm.m2; have m12 := hm.m12
  obtain ⟨b1, b2⟩ := nA_bd hg (e := n) (by omega)
  obtain ⟨c1, c2⟩ := nA_bd hg (e := n + 1) (by omega)
  have hc := cells_ hg (d := (n : Int)) (by omega) (by omega)
  have hc2 := cells_ hg (d := ((n + 1 : Nat) : Int)) (by omega) (by omega)
  have hz := zero_ hg (n := n) (by omega)
  rw [← show nB g n = (cells g (n : Int)).toNat from rfl] at hz
  have hN := newSpan_ m (c := nB g (n + 1) + nB g n) (by omega)
  have w : wrapI ((nB g (n + 1) : Int) + (nB g n : Int)) = ((nB g (n + 1) + nB g n : Nat) : Int) := by rw [w64 (by omega) (by omega)]; omega
  rw [impl_bounded.f_eq, wn (j := n) (by omega), hc2, Option.bind_some, hc, Option.bind_some, ← b2, ← c2, w, hN, Option.bind_some]
  have key : ∀ k, k ≤ nB g n → ∃ p, impl_bounded.l0 (n : Int) ((nB g (n + 1) : Nat) : Int) ((nB g n : Nat) : Int) 0 g m u m (List.replicate (nB g (n + 1) + nB g n) []) = impl_bounded.l0 (n : Int) ((nB g (n + 1) : Nat) : Int) ((nB g n : Nat) : Int) (k : Int) g m u m p ∧ Pst m (nB g (n + 1) + nB g n) p [] (Sp m (nB g (n + 1) + nB g n) (Gn (bdA g m u n) k)) := by
    intro k
    induction k with
    | zero => exact fun _ => ⟨_, rfl, Pst.none fun g ⟨i, hi, _⟩ => by omega⟩
    | succ k ih =>
      intro hk
      obtain ⟨p, h1, h2⟩ := ih (by omega)
      have hl : (List.replicate (nB g n) (0 : Int)).length = nB g n := List.length_replicate
      have hB := boundary_ hg hm (unitCo hg m2 (e := n) (by omega) k)
      have hB : impl_boundary.f g m u (n : Int) ((List.replicate (nB g n) (0 : Int)).set k 1) = some (((n + 1 : Nat) : Int), bdU g m u n k) := hB
      have bl : (bdU g m u n k).length = nB g (n + 1) := bdL_length ..
      have ul : (unitC (nB g n) k).length = nB g n := unitC_length ..
      have hC : slices_Concat_int64.f [bdU g m u n k, (List.replicate (nB g n) (0 : Int)).set k 1] = some (bdA g m u n k) := concat2 (a := bdU g m u n k) (b := unitC (nB g n) k) (by omega) (by omega)
      have al : (bdA g m u n k).length = nB g (n + 1) + nB g n := by
        show (bdU g m u n k ++ unitC (nB g n) k).length = _
        rw [List.length_append, bl, ul]
      obtain ⟨p', h3, h4⟩ := put_ m2 m12 (show nB g (n + 1) + nB g n ≤ 100000 by omega) (h2.add (r := bdA g m u n k) ⟨al, (bdL_in m2 _ _ _ _).append (unitC_in m2 _ _)⟩ Gn_succ)
      refine ⟨p', ?_, h4⟩
      rw [h1, impl_bounded.l0_eq, wn (j := k) (by omega), Int.toNat_natCast]
      ((with_reducible repeat (first | refine go_pos (by first | assumption | omega | rfl | exact B_pos (by omega)) ?_ | refine go_neg (by first | assumption | omega | decide | exact B_not (by omega)) ?_ | refine go_bind (by first | assumption) ?_ | dsimp only)); first | done | (with_reducible rfl) | simp (disch := omega) only [w64] | (show False; done))
  obtain ⟨p, h1, h2⟩ := key _ (Nat.le_refl _)
  refine ⟨p, ?_, h2⟩
  rw [h1, impl_bounded.l0_eq]
  ((with_reducible repeat (first | refine go_pos (by first | assumption | omega | rfl | exact B_pos (by omega)) ?_ | refine go_neg (by first | assumption | omega | decide | exact B_not (by omega)) ?_ | refine go_bind (by first | assumption) ?_ | dsimp only)); first | done | (with_reducible rfl) | simp (disch := omega) only [w64] | (show False; done))
def rowsFrom (p : List (List Int)) (A B : Nat) : List (List Int) := (List.range B).map fun j : Nat => (row p ((A + j : Nat) : Int)).drop A
def rowsTo (p : List (List Int)) (A : Nat) : List (List Int) := (List.range A).map fun j : Nat => (row p (j : Int)).take A
theorem rowsFrom_row {p : List (List Int)} {A B j : Nat} (h : j < B) : row (rowsFrom p A B) (j : Int) = (row p ((A + j : Nat) : Int)).drop A := by
  rw [row_get (by simpa [rowsFrom] using h)]
  simp [rowsFrom]
theorem rowsTo_row {p : List (List Int)} {A j : Nat} (h : j < A) : row (rowsTo p A) (j : Int) = (row p (j : Int)).take A := by
  rw [row_get (by simpa [rowsTo] using h)]
  simp [rowsTo]
theorem rows_step (F : Nat → List Int) (B k : Nat) (h : k < B) : ((List.range k).map F ++ List.replicate (B - k) []).set k (F k) = (List.range (k + 1)).map F ++ List.replicate (B - (k + 1)) [] := by
  rw [List.set_append, if_neg (by simp), List.length_map, List.length_range, Nat.sub_self, show B - k = (B - (k + 1)) + 1 by omega, List.replicate_succ, List.set_cons_zero, List.range_succ, List.map_append]
  simp
theorem rows_stay (F : Nat → List Int) (B k : Nat) (h : k < B) (e : F k = []) : (List.range k).map F ++ List.replicate (B - k) [] = (List.range (k + 1)).map F ++ List.replicate (B - (k + 1)) [] := by
  rw [show B - k = (B - (k + 1)) + 1 by omega, List.replicate_succ, List.range_succ, List.map_append, List.map_singleton, e]
  simp
theorem rowz_len (F : Nat → List Int) (B k : Nat) (h : k ≤ B) : ((List.range k).map F ++ List.replicate (B - k) []).length = B := by simp; omega
theorem part_ {m : Int} {p : List (List Int)} {A B : Nat} (hA : A ≤ 100000) (hB : B ≤ 100000) (ht : PTab m (A + B) p) : impl_span_part.f m p (A : Int) = some (m, rowsFrom p A B, m, p) := by
  have hl := ht.len
  have w : wrapI ((p.length : Int) - (A : Int)) = (B : Int) := by rw [w64 (by omega) (by omega)]; omega
  rw [impl_span_part.f_eq, w, newSpan_ m hB, Option.bind_some]
  obtain ⟨F, hF⟩ : ∃ F : Nat → List Int, F = fun j : Nat => (row p ((A + j : Nat) : Int)).drop A := ⟨_, rfl⟩
  have loop := up B (fun k => impl_span_part.l0 (A : Int) ((A + k : Nat) : Int) m p m ((List.range k).map F ++ List.replicate (B - k) [])) (fun k hk => by
    have hw : wrapI (((A + k : Nat) : Int) - (A : Int)) = (k : Int) := by rw [w64 (by omega) (by omega)]; omega
    have rl := rowz_len F B k (by omega)
    have hFk : F k = (row p ((A + k : Nat) : Int)).drop A := by rw [hF]
    rw [show A + (k + 1) = A + k + 1 from rfl, impl_span_part.l0_eq, wn (j := A + k) (by omega), hw]
    simp only [Int.toNat_natCast]
    rw [← hFk]
    by_cases hr : row p ((A + k : Nat) : Int) = []
    · have e0 : (row p ((A + k : Nat) : Int)).length = 0 := by rw [hr]; rfl
      rw [← rows_stay F B k hk (by rw [hFk, hr]; simp)]
      ((with_reducible repeat (first | refine go_pos (by first | assumption | omega | rfl | exact B_pos (by omega)) ?_ | refine go_neg (by first | assumption | omega | decide | exact B_not (by omega)) ?_ | refine go_bind (by first | assumption) ?_ | dsimp only)); first | done | (with_reducible rfl) | simp (disch := omega) only [w64] | (show False; done))
    · have hP := ht.prow (show A + k < A + B by omega) hr
      have e1 := hP.len
      have e2 : (F k).length = B := by rw [hFk, List.length_drop, e1]; omega
      rw [← rows_step F B k hk]
      ((with_reducible repeat (first | refine go_pos (by first | assumption | omega | rfl | exact B_pos (by omega)) ?_ | refine go_neg (by first | assumption | omega | decide | exact B_not (by omega)) ?_ | refine go_bind (by first | assumption) ?_ | dsimp only)); first | done | (with_reducible rfl) | simp (disch := omega) only [w64] | (show False; done)))
  rw [List.range_zero, List.map_nil, List.nil_append, Nat.sub_zero, Nat.add_zero, Nat.sub_self, List.replicate_zero, List.append_nil] at loop
  rw [show rowsFrom p A B = (List.range B).map F by rw [hF]; rfl]
  refine loop.trans ?_
  rw [impl_span_part.l0_eq]
  ((with_reducible repeat (first | refine go_pos (by first | assumption | omega | rfl | exact B_pos (by omega)) ?_ | refine go_neg (by first | assumption | omega | decide | exact B_not (by omega)) ?_ | refine go_bind (by first | assumption) ?_ | dsimp only)); first | done | (with_reducible rfl) | simp (disch := omega) only [w64] | (show False; done))
noncomputable def coM (g : List (List Int)) (m : Int) (u : List Int) (n : Nat) : Vc → Prop := fun x => Sp m (nB g (n + 1) + nB g n) (Gn (bdA g m u n) (nB g n)) (pad (nB g (n + 1)) x)
theorem rowsFrom_lead {m : Int} {p : List (List Int)} {A B : Nat} {M : Vc → Prop} (m0 : 0 < m) (h : Lead m (A + B) p M) : Lead m B (rowsFrom p A B) (fun x => M (pad A x)) :=
  h.last m0 (by simp [rowsFrom]) fun j hj => rowsFrom_row hj
theorem cocycles_ {g : List (List Int)} (hg : Grp g) {m : Int} {u : List Int} (hm : Mdl g m u) {n : Nat} (hn : n ≤ 3) :
    ∃ q, impl_cocycles.f g m u (n : Int) = some (m, q) ∧ Lead m (nB g n) q (coM g m u n) := by
  have m2 := hm.m2
  obtain ⟨b1, b2⟩ := nA_bd hg (e := n) (by omega)
  obtain ⟨c1, c2⟩ := nA_bd hg (e := n + 1) (by omega)
  obtain ⟨p, h1, h2⟩ := bounded_ hg hm hn
  have h3 := h2.lead (by omega)
  have h4 := part_ (m := m) (A := nB g (n + 1)) (B := nB g n) (by omega) (by omega) h3.tab
  refine ⟨_, ?_, rowsFrom_lead (by omega) h3⟩
  rw [impl_cocycles.f_eq]
  ((with_reducible repeat (first | refine go_pos (by first | assumption | omega | rfl | exact B_pos (by omega)) ?_ | refine go_neg (by first | assumption | omega | decide | exact B_not (by omega)) ?_ | refine go_bind (by first | assumption) ?_ | dsimp only)); first | done | (with_reducible rfl) | simp (disch := omega) only [w64] | (show False; done))
end Go.Proofs.Ytpppnoliogdkiaa.V
set_option linter.unusedVariables false
set_option linter.unusedSimpArgs false
set_option maxHeartbeats 4000000
set_option maxRecDepth 20000
namespace Go.Proofs.Ytpppnoliogdkiaa.V
open Go.RowKit Go.Proofs.Ytpppnoliogdkiaa.D Go.Proofs.Ytpppnoliogdkiaa.P
def lc (p : List (List Int)) (t : List Int) : Nat → Vc
  | 0 => fun _ => 0
  | k + 1 => fun i => lc p t k i + rd t (k : Int) * rd (row p (k : Int)) (i : Int)
theorem lc_succ (p : List (List Int)) (t : List Int) (k i : Nat) : lc p t (k + 1) i = lc p t k i + rd t (k : Int) * rd (row p (k : Int)) (i : Int) := rfl
structure Least0 (m : Int) (W k : Nat) (p : List (List Int)) (M : Vc → Prop) (x y t : List Int) : Prop where
  len : y.length = W
  ent : AllIn m y
  dif : M fun i => rd x (i : Int) - rd y (i : Int)
  lt : ∀ j : Nat, j < k → rd y (j : Int) < dv m p j
  tlen : t.length = W
  tbd : ∀ j : Nat, j < W → 0 ≤ rd t (j : Int) ∧ rd t (j : Int) ≤ 12
  tnil : ∀ j : Nat, row p (j : Int) = [] → rd t (j : Int) = 0
  tak : ∀ i : Nat, i < W → m ∣ rd x (i : Int) - rd y (i : Int) - lc p t k i
theorem lc_congr {p : List (List Int)} {t t' : List Int} : ∀ k, (∀ j : Nat, j < k → rd t (j : Int) = rd t' (j : Int)) → lc p t k = lc p t' k := by
  intro k
  induction k with
  | zero => intro _; rfl
  | succ k ih =>
    intro h
    funext i
    rw [lc, lc, ih fun j hj => h j (by omega), h k (by omega)]
theorem rd_set_same {t : List Int} {j : Nat} {x : Int} (h : j < t.length) : rd (t.set j x) (j : Int) = x := by
  rw [rd_get (by rw [List.length_set]; exact h)]; simp
theorem rd_set_ne {t : List Int} {i j : Nat} {x : Int} (h : i ≠ j) : rd (t.set j x) (i : Int) = rd t (i : Int) := by
  simp only [rd, Int.toNat_natCast, List.getD_eq_getElem?_getD, List.getElem?_set, if_neg (show ¬ j = i from fun e => h e.symm)]
theorem Least0.begin {m : Int} {W : Nat} {p : List (List Int)} {M : Vc → Prop} (hM : Lead m W p M) {x : List Int} (hx : x.length = W) (ha : AllIn m x) : Least0 m W 0 p M x x (List.replicate W 0) where
  len := hx
  ent := ha
  dif := hM.sub.alike _ _ hM.sub.zero fun i _ => dvd_same (by simp)
  lt := fun j hj => by omega
  tlen := List.length_replicate
  tbd := fun j _ => by rw [rd_zeros]; omega
  tnil := fun j _ => rd_zeros _ _
  tak := fun i _ => dvd_same (by simp [lc])
theorem Least0.skip {m : Int} {W k : Nat} {p : List (List Int)} {M : Vc → Prop} {x y t : List Int} (h : Least0 m W k p M x y t) (hk : k < W) (hr : row p (k : Int) = []) : Least0 m W (k + 1) p M x y t :=
  { h with
    lt := fun j hj => by
      by_cases e : j = k
      · subst e
        rw [show dv m p j = m from if_pos hr]
        exact (h.ent j (by omega) (by rw [h.len]; omega)).2
      · exact h.lt j (by omega)
    tak := fun i hi => by
      rw [lc_succ, h.tnil k hr, Int.zero_mul, Int.add_zero]
      exact h.tak i hi }
theorem Least0.take {m : Int} {W k : Nat} {p : List (List Int)} {M : Vc → Prop} {x y t : List Int} (m2 : 2 ≤ m) (m12 : m ≤ 12) (hM : Lead m W p M) (h : Least0 m W k p M x y t) (hk : k < W) (hr : row p (k : Int) ≠ []) :
    Least0 m W (k + 1) p M x (mix m 1 y (-(rd y (k : Int) / rd (row p (k : Int)) (k : Int))) (row p (k : Int))) (t.set k (rd y (k : Int) / rd (row p (k : Int)) (k : Int))) := by
  have hP := hM.tab.prow hk hr
  have p0 := hP.pos
  have p1 := hP.lt
  have yl := h.len
  have tl := h.tlen
  obtain ⟨y0, y1⟩ := h.ent k (by omega) (by omega)
  obtain ⟨q, hq⟩ : ∃ q, q = rd y (k : Int) / rd (row p (k : Int)) (k : Int) := ⟨_, rfl⟩
  rw [← hq]
  have hmod := Int.mul_ediv_add_emod (rd y (k : Int)) (rd (row p (k : Int)) (k : Int))
  rw [← hq] at hmod
  have r0 := Int.emod_nonneg (rd y (k : Int)) (show rd (row p (k : Int)) (k : Int) ≠ 0 by omega)
  have r1 := Int.emod_lt_of_pos (rd y (k : Int)) p0
  have q0 : 0 ≤ q := by rw [hq]; exact Int.ediv_nonneg y0 (by omega)
  have q1 : q ≤ rd y (k : Int) := by rw [hq]; exact Int.ediv_le_self _ y0
  have hy : ∀ i : Nat, i < W → m ∣ 1 * rd y (i : Int) + (-q) * rd (row p (k : Int)) (i : Int) - rd (mix m 1 y (-q) (row p (k : Int))) (i : Int) := fun i hi => mix_dvd (by omega)
  refine ⟨by rw [mix_length]; exact yl, mix_in (by omega), ?_, fun j hj => ?_, by rw [List.length_set]; exact tl, fun j hj => ?_, fun j hn => ?_, fun i hi => ?_⟩
  · refine hM.sub.alike _ _ (hM.sub.lin _ _ h.dif (hM.own k hk hr) q) fun i hi => ?_
    obtain ⟨z, hz⟩ := hy i hi
    refine ⟨-z, ?_⟩
    rw [Int.mul_neg, ← hz, Int.neg_mul]
    show rd x (i : Int) - rd y (i : Int) + q * rd (row p (k : Int)) (i : Int) - (rd x (i : Int) - rd (mix m 1 y (-q) (row p (k : Int))) (i : Int)) = _
    omega
  · by_cases e : j = k
    · subst e
      rw [mix_rd (by omega), show dv m p j = rd (row p (j : Int)) (j : Int) from if_neg hr, show 1 * rd y (j : Int) + -q * rd (row p (j : Int)) (j : Int) = rd y (j : Int) % rd (row p (j : Int)) (j : Int) by rw [Int.neg_mul, Int.mul_comm q]; omega, Int.emod_eq_of_lt r0 (by omega)]
      exact r1
    · obtain ⟨a0, a1⟩ := h.ent j (by omega) (by omega)
      rw [mix_rd (by omega), hP.zero j (by omega), Int.mul_zero, Int.add_zero, Int.one_mul, Int.emod_eq_of_lt a0 a1]
      exact h.lt j (by omega)
  · by_cases e : j = k
    · subst e; rw [rd_set_same (by omega)]; omega
    · rw [rd_set_ne e]; exact h.tbd j hj
  · have e : j ≠ k := fun e => hr (e ▸ hn)
    rw [rd_set_ne e]; exact h.tnil j hn
  · rw [lc_succ, rd_set_same (by omega), lc_congr k fun j hj => rd_set_ne (show j ≠ k by omega)]
    obtain ⟨z, hz⟩ := hy i hi
    obtain ⟨z', hz'⟩ := h.tak i hi
    refine ⟨z' + z, ?_⟩
    rw [Int.mul_add, ← hz, ← hz', Int.neg_mul]
    omega
theorem Least0.fin {m : Int} {W : Nat} {p : List (List Int)} {M : Vc → Prop} {x y t : List Int} (h : Least0 m W W p M x y t) : Least m W p M x y := ⟨h.len, h.ent, h.dif, h.lt⟩
theorem rest_ {m : Int} (m2 : 2 ≤ m) (m12 : m ≤ 12) {W : Nat} (hW : W ≤ 100000) {p : List (List Int)} {M : Vc → Prop} (hM : Lead m W p M) {x : List Int} (hx : x.length = W) (ha : AllIn m x) :
    ∃ y t, impl_span_rest.f m p x = some (y, t, m, p) ∧ Least0 m W W p M x y t := by
  have hl := hM.tab.len
  rw [impl_span_rest.f_eq, hl, Int.toNat_natCast]
  have key : ∀ k, k ≤ W → ∃ y t, impl_span_rest.l0 (W : Int) 0 m p x (List.replicate W 0) = impl_span_rest.l0 (W : Int) (k : Int) m p y t ∧ Least0 m W k p M x y t := by
    intro k
    induction k with
    | zero => exact fun _ => ⟨_, _, rfl, Least0.begin hM hx ha⟩
    | succ k ih =>
      intro hk
      obtain ⟨y, t, h1, h2⟩ := ih (by omega)
      have yl := h2.len
      have tl := h2.tlen
      by_cases hr : row p (k : Int) = []
      · have e0 : (row p (k : Int)).length = 0 := by rw [hr]; rfl
        refine ⟨y, t, ?_, h2.skip (by omega) hr⟩
        rw [h1, impl_span_rest.l0_eq, wn (j := k) (by omega)]
        ((with_reducible repeat (first | refine go_pos (by first | assumption | omega | rfl | exact B_pos (by omega)) ?_ | refine go_neg (by first | assumption | omega | decide | exact B_not (by omega)) ?_ | refine go_bind (by first | assumption) ?_ | dsimp only)); first | done | (with_reducible rfl) | simp (disch := omega) only [w64] | (show False; done))
      · have hP := hM.tab.prow (show k < W by omega) hr
        have pl := hP.len
        have p0 := hP.pos
        obtain ⟨y0, y1⟩ := h2.ent k (by omega) (by omega)
        refine ⟨_, _, ?_, h2.take m2 m12 hM (by omega) hr⟩
        have hT : T p (k : Int) (k : Int) = rd (row p (k : Int)) (k : Int) := rfl
        have d0 : 0 ≤ rd y (k : Int) / rd (row p (k : Int)) (k : Int) := Int.ediv_nonneg y0 (by omega)
        have d1 : rd y (k : Int) / rd (row p (k : Int)) (k : Int) ≤ rd y (k : Int) := Int.ediv_le_self _ y0
        have e1 : wrapI (Int.tdiv (rd y (k : Int)) (rd (row p (k : Int)) (k : Int))) = rd y (k : Int) / rd (row p (k : Int)) (k : Int) := by rw [tdiv_nn y0]; exact w64 (by omega) (by omega)
        have hne : ¬ rd (row p (k : Int)) (k : Int) = 0 := by omega
        have hsl : (t.set k (rd y (k : Int) / rd (row p (k : Int)) (k : Int))).length = W := by rw [List.length_set]; exact tl
        have hc := combined m2 m12 (p := p) (x := 1) (y := -(rd y (k : Int) / rd (row p (k : Int)) (k : Int))) h2.ent hP.ent (by omega) (by omega) (by omega) (by omega) (by omega) (by omega)
        have e2 : wrapI (0 - rd y (k : Int) / rd (row p (k : Int)) (k : Int)) = -(rd y (k : Int) / rd (row p (k : Int)) (k : Int)) := by rw [w64 (by omega) (by omega)]; omega
        rw [h1, impl_span_rest.l0_eq, wn (j := k) (by omega), hT, e1, Int.toNat_natCast, rd_set_same (by omega), e2]
        ((with_reducible repeat (first | refine go_pos (by first | assumption | omega | rfl | exact B_pos (by omega)) ?_ | refine go_neg (by first | assumption | omega | decide | exact B_not (by omega)) ?_ | refine go_bind (by first | assumption) ?_ | dsimp only)); first | done | (with_reducible rfl) | simp (disch := omega) only [w64] | (show False; done))
  obtain ⟨y, t, h1, h2⟩ := key W (Nat.le_refl _)
  refine ⟨y, t, ?_, h2⟩
  (with_reducible repeat (first | refine go_pos (by first | assumption | omega | rfl | exact B_pos (by omega)) ?_ | refine go_neg (by first | assumption | omega | decide | exact B_not (by omega)) ?_ | refine go_bind (by first | assumption) ?_ | dsimp only))
  rw [h1, impl_span_rest.l0_eq]
  ((with_reducible repeat (first | refine go_pos (by first | assumption | omega | rfl | exact B_pos (by omega)) ?_ | refine go_neg (by first | assumption | omega | decide | exact B_not (by omega)) ?_ | refine go_bind (by first | assumption) ?_ | dsimp only)); first | done | (with_reducible rfl) | simp (disch := omega) only [w64] | (show False; done))
theorem clone_ (x : List Int) (h : x.length ≤ 1000000) : slices_Clone_int64.f x = some x := by
  rw [slices_Clone_int64.f_eq, List.nil_append, show ([] : List Int).length = 0 from rfl]
  by_cases h0 : x.length = 0
  · have := List.eq_nil_of_length_eq_zero h0
    subst this
    ((with_reducible repeat (first | refine go_pos (by first | assumption | omega | rfl | exact B_pos (by omega)) ?_ | refine go_neg (by first | assumption | omega | decide | exact B_not (by omega)) ?_ | refine go_bind (by first | assumption) ?_ | dsimp only)); first | done | (with_reducible rfl) | simp (disch := omega) only [w64] | (show False; done))
  · ((with_reducible repeat (first | refine go_pos (by first | assumption | omega | rfl | exact B_pos (by omega)) ?_ | refine go_neg (by first | assumption | omega | decide | exact B_not (by omega)) ?_ | refine go_bind (by first | assumption) ?_ | dsimp only)); first | done | (with_reducible rfl) | simp (disch := omega) only [w64] | (show False; done))
theorem least_ {m : Int} (m2 : 2 ≤ m) (m12 : m ≤ 12) {W : Nat} (hW : W ≤ 100000) {p : List (List Int)} {M : Vc → Prop} (hM : Lead m W p M) (d : Int) {x : List Int} (hx : x.length = W) (ha : AllIn m x) :
    ∃ y, impl_span_least.f m p d x = some (d, y, m, p) ∧ Least m W p M x y := by
  obtain ⟨y, t, h1, h2⟩ := rest_ m2 m12 hW hM hx ha
  have hc := clone_ x (by omega)
  refine ⟨y, ?_, h2.fin⟩
  rw [impl_span_least.f_eq]
  ((with_reducible repeat (first | refine go_pos (by first | assumption | omega | rfl | exact B_pos (by omega)) ?_ | refine go_neg (by first | assumption | omega | decide | exact B_not (by omega)) ?_ | refine go_bind (by first | assumption) ?_ | dsimp only)); first | done | (with_reducible rfl) | simp (disch := omega) only [w64] | (show False; done))
def Zr (x : List Int) : Prop := ∀ i : Int, 0 ≤ i → i < x.length → rd x i = 0
theorem isZero_ (x : List Int) (hl : x.length ≤ 1000000) : impl_isZero.f x = some (B (Zr x)) := by
  have hf : (fun z0 => (impl_isZero_1.f z0).map fun z => z) = (fun z0 : Int => some (!decide (z0 = 0))) := by
    funext z; rw [impl_isZero_1.f_eq]; rfl
  have hp : (fun z0 => (impl_span_put_1.f z0).map fun z => z) = (fun z0 : Int => some (!decide (z0 = 0))) := by
    funext z; rw [impl_span_put_1.f_eq]; rfl
  have hI := indexFunc x hl
  rw [hp] at hI
  have hC : (fun z0 => ((fun z0 : Int => some (!decide (z0 = 0))) z0).map fun z => z) = (fun z0 : Int => some (!decide (z0 = 0))) := rfl
  rw [impl_isZero.f_eq, hf, slices_ContainsFunc_int64.f_eq, hC]
  rcases hI with ⟨hz, h⟩ | ⟨j, hj, _, hne, h⟩
  · rw [h, B_pos (show Zr x from fun i i0 i1 => by
      obtain ⟨n, rfl⟩ := Int.eq_ofNat_of_zero_le i0
      exact hz n (by omega))]
    rfl
  · rw [h, B_neg (show ¬ Zr x from fun k => hne (k j (by omega) (by omega)))]
    simp
theorem Least.zero_iff {m : Int} (m0 : 0 < m) {W : Nat} {p : List (List Int)} {M : Vc → Prop} (hM : Lead m W p M) {x y : List Int} (h : Least m W p M x y) : Zr y ↔ M (V x) := by
  have yl := h.len
  constructor
  · intro hz
    refine hM.sub.alike _ _ h.dif fun i hi => ?_
    rw [hz i (by omega) (by omega)]
    exact dvd_same (by simp [V])
  · intro hx
    have hz : Least m W p M x (List.replicate W 0) := ⟨List.length_replicate, zeros_in m0 W, hM.sub.alike _ _ hx fun i hi => dvd_same (by rw [rd_zeros]; simp [V]), fun j hj => by rw [rd_zeros]; exact (dv_bd m0 hM.tab hj).1⟩
    rw [h.same m0 hM hM hz]
    exact fun i _ _ => rd_zeros _ _
end Go.Proofs.Ytpppnoliogdkiaa.V
set_option linter.unusedVariables false
set_option linter.unusedSimpArgs false
set_option maxHeartbeats 4000000
set_option maxRecDepth 20000
namespace Go.Proofs.Ytpppnoliogdkiaa.V
open Go.RowKit Go.Proofs.Ytpppnoliogdkiaa.D Go.Proofs.Ytpppnoliogdkiaa.P
theorem Co.nB {g : List (List Int)} (hg : Grp g) {m : Int} {k : Nat} {v : List Int} (h : Co g m k v) : v.length = nB g k := by
  have := h.2.1
  have hk := h.1.2
  obtain ⟨b1, b2⟩ := nA_bd hg (e := k) (by omega)
  omega
def addL (m : Int) (v w : List Int) (c : Int) : List Int := (List.range v.length).map fun i : Nat => (rd v (i : Int) + c * rd w (i : Int)) % m
theorem addL_length (m : Int) (v w : List Int) (c : Int) : (addL m v w c).length = v.length := by simp [addL]
theorem addL_rd {m : Int} {v w : List Int} {c : Int} {i : Nat} (h : i < v.length) : rd (addL m v w c) (i : Int) = (rd v (i : Int) + c * rd w (i : Int)) % m := by
  rw [rd_get (by rw [addL_length]; exact h)]; simp [addL]
theorem addL_in {m : Int} (m0 : 0 < m) (v w : List Int) (c : Int) : AllIn m (addL m v w c) := allIn_of fun x hx => by
  obtain ⟨i, _, rfl⟩ := List.mem_map.1 hx
  exact ⟨Int.emod_nonneg _ (by omega), Int.emod_lt_of_pos _ m0⟩
theorem add_bd {m a b c : Int} (m12 : m ≤ 12) (a0 : 0 ≤ a) (a1 : a < m) (b0 : 0 ≤ b) (b1 : b < m) (c0 : -1000 ≤ c) (c1 : c ≤ 1000) : wrapI (a + wrapI (c * b)) = a + c * b ∧ -13000 ≤ a + c * b ∧ a + c * b ≤ 13000 := by
  have := mul_bd (x := c) (a := b) (B := 1000) c0 c1 b0 b1 m12 (by omega)
  rw [w64 (x := c * b) (by omega) (by omega), w64 (by omega) (by omega)]
  omega
theorem added_ {m : Int} (m2 : 2 ≤ m) (m12 : m ≤ 12) (d e : Int) {v w : List Int} (hl : w.length = v.length) (hv : AllIn m v) (hw : AllIn m w) (hL : v.length ≤ 1000000) {c : Int} (c0 : -1000 ≤ c) (c1 : c ≤ 1000) :
    impl_added.f m d v e w c = some (d, addL m v w c) ∧ ∀ u, spec_l03Add.f m u d v e w c = some (d, addL m v w c) := by
  have l2 : ∀ x : Int, ([x] : List Int).length = 1 := fun _ => rfl
  constructor
  · rw [impl_added.f_eq]
    have loop := up v.length (fun i => impl_added.l0 m c v (v.length : Int) (i : Int) e w 0 d [] ((addL m v w c).take i)) (fun i hi => by
      obtain ⟨a0, a1⟩ := hv i (by omega) (by omega)
      obtain ⟨b0, b1⟩ := hw i (by omega) (by omega)
      obtain ⟨e1, _, _⟩ := add_bd m12 a0 a1 b0 b1 c0 c1
      have e2 := mod_mod (a := rd v (i : Int) + c * rd w (i : Int)) (m := m) (by omega) (by omega)
      have tl : ((addL m v w c).take i).length = i := by rw [List.length_take, addL_length]; omega
      rw [take_rd (by rw [addL_length]; exact hi), addL_rd hi, impl_added.l0_eq, wn (j := i) (by omega), e1, e2]
      (with_reducible repeat (first | refine go_pos (by first | assumption | omega | rfl | exact B_pos (by omega)) ?_ | refine go_neg (by first | assumption | omega | decide | exact B_not (by omega)) ?_ | refine go_bind (by first | assumption) ?_ | dsimp only))
      rw [l2]
      ((with_reducible repeat (first | refine go_pos (by first | assumption | omega | rfl | exact B_pos (by omega)) ?_ | refine go_neg (by first | assumption | omega | decide | exact B_not (by omega)) ?_ | refine go_bind (by first | assumption) ?_ | dsimp only)); first | done | (with_reducible rfl) | simp (disch := omega) only [w64] | (show False; done)))
    simp only [Int.natCast_zero, List.take_zero] at loop
    rw [List.take_of_length_le (by rw [addL_length]; exact Nat.le_refl _)] at loop
    rw [loop, impl_added.l0_eq]
    ((with_reducible repeat (first | refine go_pos (by first | assumption | omega | rfl | exact B_pos (by omega)) ?_ | refine go_neg (by first | assumption | omega | decide | exact B_not (by omega)) ?_ | refine go_bind (by first | assumption) ?_ | dsimp only)); first | done | (with_reducible rfl) | simp (disch := omega) only [w64] | (show False; done))
  · intro u
    rw [spec_l03Add.f_eq, Own_ v (by omega), Option.bind_some]
    have al := addL_length m v w c
    have loop := up v.length (fun i => spec_l03Add.l0 c (i : Int) m u d v e w 0 d ((addL m v w c).take i ++ v.drop i)) (fun i hi => by
      obtain ⟨a0, a1⟩ := hv i (by omega) (by omega)
      obtain ⟨b0, b1⟩ := hw i (by omega) (by omega)
      obtain ⟨e1, q0, q1⟩ := add_bd m12 a0 a1 b0 b1 c0 c1
      have hM := Mod_ (a := rd v (i : Int) + c * rd w (i : Int)) (m := m) (by omega) (by omega) (by omega) (by omega)
      have hs := set_take (xs := v) (ys := addL m v w c) (by omega) hi (addL_rd hi).symm
      have hll : ((addL m v w c).take i ++ v.drop i).length = v.length := by rw [List.length_append, List.length_take, List.length_drop]; omega
      rw [← hs, spec_l03Add.l0_eq, wn (j := i) (by omega), e1, Int.toNat_natCast]
      ((with_reducible repeat (first | refine go_pos (by first | assumption | omega | rfl | exact B_pos (by omega)) ?_ | refine go_neg (by first | assumption | omega | decide | exact B_not (by omega)) ?_ | refine go_bind (by first | assumption) ?_ | dsimp only)); first | done | (with_reducible rfl) | simp (disch := omega) only [w64] | (show False; done)))
    simp only [Int.natCast_zero, List.take_zero, List.nil_append, List.drop_zero] at loop
    rw [List.take_of_length_le (by omega), List.drop_of_length_le (Nat.le_refl _), List.append_nil] at loop
    rw [loop, spec_l03Add.l0_eq]
    ((with_reducible repeat (first | refine go_pos (by first | assumption | omega | rfl | exact B_pos (by omega)) ?_ | refine go_neg (by first | assumption | omega | decide | exact B_not (by omega)) ?_ | refine go_bind (by first | assumption) ?_ | dsimp only)); first | done | (with_reducible rfl) | simp (disch := omega) only [w64] | (show False; done))
end Go.Proofs.Ytpppnoliogdkiaa.V
set_option linter.unusedVariables false
set_option linter.unusedSimpArgs false
set_option maxHeartbeats 4000000
set_option maxRecDepth 20000
namespace Go.Proofs.Ytpppnoliogdkiaa.V
open Go.RowKit Go.Proofs.Ytpppnoliogdkiaa.D Go.Proofs.Ytpppnoliogdkiaa.P
noncomputable def allM (g : List (List Int)) (m : Int) (u : List Int) (e : Nat) : Vc → Prop := Sp m (nB g (e + 1) + nB g e) (Gn (bdA g m u e) (nB g e))
structure LB (g : List (List Int)) (m : Int) (u : List Int) (e : Nat) (v y : List Int) : Prop where
  len : y.length = nB g e
  ent : AllIn m y
  mem : allM g m u e (V (v ++ y))
  lt : ∀ q, Lead m (nB g e) q (coM g m u e) → ∀ j : Nat, j < nB g e → rd y (j : Int) < dv m q j
theorem LB.same {g : List (List Int)} {m : Int} {u : List Int} {e : Nat} {v y y' : List Int} (m0 : 0 < m) (hv : v.length = nB g (e + 1)) {q : List (List Int)} (hq : Lead m (nB g e) q (coM g m u e)) (h : LB g m u e v y) (h' : LB g m u e v y') : y = y' := by
  have hd : coM g m u e fun i => rd y (i : Int) - rd y' (i : Int) := by
    refine .alike ((show Sp m _ _ _ from h.mem).plus ((show Sp m _ _ _ from h'.mem).mul (-1))) fun i hi => dvd_same ?_
    show rd (v ++ y) (i : Int) + -1 * rd (v ++ y') (i : Int) = pad (nB g (e + 1)) (fun i => rd y (i : Int) - rd y' (i : Int)) i
    unfold pad
    by_cases k : i < nB g (e + 1)
    · rw [if_pos k, rd_app_left (by omega), rd_app_left (by omega)]; omega
    · rw [if_neg k, rd_app_right (by omega), rd_app_right (by omega), hv]; dsimp only; omega
  exact Least.same m0 hq hq (x := y) ⟨h.len, h.ent, hq.sub.alike _ _ hq.sub.zero fun i _ => dvd_same (by simp), h.lt q hq⟩ ⟨h'.len, h'.ent, hd, h'.lt q hq⟩
theorem dv_rowsTo {m : Int} {W A B : Nat} {p : List (List Int)} (ht : PTab m (A + B) p) {j : Nat} (hj : j < A) : dv m (rowsTo p A) j = dv m p j := by
  unfold dv
  rw [rowsTo_row hj]
  by_cases hn : row p (j : Int) = []
  · rw [hn]; simp
  · have hP := ht.prow (show j < A + B by omega) hn
    have hl := hP.len
    have : (row p (j : Int)).take A ≠ [] := fun e => by
      have := congrArg List.length e
      rw [List.length_take, List.length_nil] at this
      omega
    rw [if_neg hn, if_neg this, rd_take hj]
theorem bound_iff {g : List (List Int)} {m : Int} (m0 : 0 < m) {u : List Int} {e : Nat} {p : List (List Int)} (hM : Lead m (nB g (e + 1) + nB g e) p (allM g m u e)) (x : Vc) :
    (∃ z, allM g m u e z ∧ ∀ i, i < nB g (e + 1) → m ∣ z i - x i) ↔ Sp m (nB g (e + 1)) (bdG g m u (e + 1)) x :=
  first_span (fun i hi => bdL_length ..) hM (hM.first m0 (q := rowsTo p (nB g (e + 1))) (by simp [rowsTo]) fun j hj => rowsTo_row hj).sub x
def negL (m : Int) (r : List Int) : List Int := (List.range r.length).map fun i : Nat => (0 - rd r (i : Int)) % m
theorem negL_length (m : Int) (r : List Int) : (negL m r).length = r.length := by simp [negL]
theorem negL_rd {m : Int} {r : List Int} {i : Nat} (h : i < r.length) : rd (negL m r) (i : Int) = (0 - rd r (i : Int)) % m := by
  rw [rd_get (by rw [negL_length]; exact h)]; simp [negL]
theorem negL_in {m : Int} (m0 : 0 < m) (r : List Int) : AllIn m (negL m r) := allIn_of fun x hx => by
  obtain ⟨i, _, rfl⟩ := List.mem_map.1 hx
  exact ⟨Int.emod_nonneg _ (by omega), Int.emod_lt_of_pos _ m0⟩
theorem lb_of {g : List (List Int)} {m : Int} (m0 : 0 < m) {u : List Int} {e : Nat} {p : List (List Int)} (hM : Lead m (nB g (e + 1) + nB g e) p (allM g m u e)) {v y0 yf : List Int} (hv : v.length = nB g (e + 1)) (hy : y0.length = nB g (e + 1) + nB g e)
    (hd : allM g m u e fun i => rd (v ++ List.replicate (nB g e) 0) (i : Int) - rd y0 (i : Int)) (hz : ∀ i : Nat, i < nB g (e + 1) → rd y0 (i : Int) = 0)
    (hL : Least m (nB g e) (rowsFrom p (nB g (e + 1)) (nB g e)) (coM g m u e) (negL m (y0.drop (nB g (e + 1)))) yf) : LB g m u e v yf := by
  have hq := rowsFrom_lead m0 hM
  have dl : (y0.drop (nB g (e + 1))).length = nB g e := by rw [List.length_drop]; omega
  refine ⟨hL.len, hL.ent, ?_, fun q' hq' j hj => ?_⟩
  · have h2 : allM g m u e (pad (nB g (e + 1)) fun i => rd (negL m (y0.drop (nB g (e + 1)))) (i : Int) - rd yf (i : Int)) := hL.dif
    refine hM.sub.alike _ _ (hM.sub.lin _ _ hd h2 (-1)) fun i hi => ?_
    show m ∣ rd (v ++ List.replicate (nB g e) 0) (i : Int) - rd y0 (i : Int) + -1 * pad (nB g (e + 1)) (fun i => rd (negL m (y0.drop (nB g (e + 1)))) (i : Int) - rd yf (i : Int)) i - rd (v ++ yf) (i : Int)
    unfold pad
    by_cases k : i < nB g (e + 1)
    · rw [if_pos k, rd_app_left (by omega), rd_app_left (by omega), hz i k]
      exact ⟨0, by omega⟩
    · rw [if_neg k, rd_app_right (by omega), rd_app_right (by omega), hv, rd_zeros]
      dsimp only
      rw [negL_rd (by omega), rd_drop, show nB g (e + 1) + (i - nB g (e + 1)) = i by omega]
      have := Int.mul_ediv_add_emod (0 - rd y0 (i : Int)) m
      exact ⟨(0 - rd y0 (i : Int)) / m, by omega⟩
  · rw [← dv_same m0 hq hq' hj]
    exact hL.lt j hj
theorem leastBounded_ {g : List (List Int)} (hg : Grp g) {m : Int} {u : List Int} (hm : Mdl g m u) {e : Nat} {v : List Int} (hc : Co g m ((e + 1 : Nat) : Int) v) :
    (Sp m (nB g (e + 1)) (bdG g m u (e + 1)) (V v) ∧ ∃ y, impl_leastBounded.f g m u ((e + 1 : Nat) : Int) v = some ((e : Int), y, true) ∧ LB g m u e v y) ∨
    (¬ Sp m (nB g (e + 1)) (bdG g m u (e + 1)) (V v) ∧ impl_leastBounded.f g m u ((e + 1 : Nat) : Int) v = some (0, [], false)) := by
  have m2 := hm.m2; have m12 := hm.m12
  have he := hc.1.2
  have vl := hc.nB hg
  obtain ⟨b1, b2⟩ := nA_bd hg (e := e) (by omega)
  obtain ⟨c1, c2⟩ := nA_bd hg (e := e + 1) (by omega)
  obtain ⟨p, h1, h2⟩ := bounded_ hg hm (n := e) (by omega)
  have hM := h2.lead (by omega)
  have hM : Lead m (nB g (e + 1) + nB g e) p (allM g m u e) := hM
  have hcl := cells_ hg (d := (e : Int)) (by omega) (by omega)
  rw [← b2] at hcl
  have zl : (List.replicate (nB g e) (0 : Int)).length = nB g e := List.length_replicate
  have hcat := concat2 (a := v) (b := List.replicate (nB g e) (0 : Int)) (by omega) (by omega)
  have rl : (v ++ List.replicate (nB g e) (0 : Int)).length = nB g (e + 1) + nB g e := by rw [List.length_append, zl, vl]
  have ra : AllIn m (v ++ List.replicate (nB g e) (0 : Int)) := hc.2.2.append (zeros_in (by omega) _)
  obtain ⟨y0, t, h3, h4⟩ := rest_ m2 m12 (by omega) hM rl ra
  have yl := h4.len
  have tl : (y0.take (nB g (e + 1))).length = nB g (e + 1) := by rw [List.length_take]; omega
  have h5 := isZero_ (y0.take (nB g (e + 1))) (by omega)
  have w : wrapI (((e + 1 : Nat) : Int) - 1) = (e : Int) := by rw [w64 (by omega) (by omega)]; omega
  have hLf : Least m (nB g (e + 1)) (rowsTo p (nB g (e + 1))) (fun x => ∃ z, allM g m u e z ∧ ∀ i, i < nB g (e + 1) → m ∣ z i - x i) v (y0.take (nB g (e + 1))) :=
    ⟨tl, h4.ent.take _, ⟨_, h4.dif, fun i hi => dvd_same (by dsimp only; rw [rd_app_left (by omega), rd_take hi])⟩, fun j hj => by rw [dv_rowsTo (W := 0) hM.tab hj, rd_take hj]; exact h4.lt j (by omega)⟩
  have hF := hM.first (by omega) (q := rowsTo p (nB g (e + 1))) (by simp [rowsTo]) fun j hj => rowsTo_row hj
  have hzi := hLf.zero_iff (by omega) hF
  have hzi : Zr (y0.take (nB g (e + 1))) ↔ Sp m (nB g (e + 1)) (bdG g m u (e + 1)) (V v) := hzi.trans (bound_iff (by omega) hM (V v))
  rw [B_congr hzi] at h5
  have start : impl_leastBounded.f g m u ((e + 1 : Nat) : Int) v = (impl_isZero.f (y0.take (nB g (e + 1)))).bind fun t46 => if t46 = true then (impl_leastBounded.l0 ((nB g (e + 1) : Nat) : Int) (y0.drop (nB g (e + 1))) ((y0.drop (nB g (e + 1))).length : Int) 0 m u 0 m (e : Int) [] p []) else (some (0, [], false)) := by
    clear h5
    rw [impl_leastBounded.f_eq, w, if_neg (by omega), h1, Option.bind_some, hcl, Option.bind_some, Int.toNat_natCast]
    (with_reducible repeat (first | refine go_pos (by first | assumption | omega | rfl | exact B_pos (by omega)) ?_ | refine go_neg (by first | assumption | omega | decide | exact B_not (by omega)) ?_ | refine go_bind (by first | assumption) ?_ | dsimp only))
    rw [Int.toNat_natCast, show (if 0 ≤ ((nB g (e + 1) : Nat) : Int) then if ((nB g (e + 1) : Nat) : Int) ≤ (y0.length : Int) then impl_leastBounded.l0 ((nB g (e + 1) : Nat) : Int) (y0.drop (nB g (e + 1))) ((y0.drop (nB g (e + 1))).length : Int) 0 m u 0 m (e : Int) [] p [] else none else none) = impl_leastBounded.l0 ((nB g (e + 1) : Nat) : Int) (y0.drop (nB g (e + 1))) ((y0.drop (nB g (e + 1))).length : Int) 0 m u 0 m (e : Int) [] p [] by rw [if_pos (by omega), if_pos (by omega)]]
  rw [start]
  by_cases hb : Sp m (nB g (e + 1)) (bdG g m u (e + 1)) (V v)
  rotate_left
  · rw [B_neg hb] at h5
    exact .inr ⟨hb, by ((with_reducible repeat (first | refine go_pos (by first | assumption | omega | rfl | exact B_pos (by omega)) ?_ | refine go_neg (by first | assumption | omega | decide | exact B_not (by omega)) ?_ | refine go_bind (by first | assumption) ?_ | dsimp only)); first | done | (with_reducible rfl) | simp (disch := omega) only [w64] | (show False; done))⟩
  rw [B_pos hb] at h5
  refine .inl ⟨hb, ?_⟩
  obtain ⟨r, hr⟩ : ∃ r, r = y0.drop (nB g (e + 1)) := ⟨_, rfl⟩
  have rdl : r.length = nB g e := by rw [hr, List.length_drop]; omega
  have rin : AllIn m r := by rw [hr]; exact h4.ent.drop _
  have nl := negL_length m r
  have hq := rowsFrom_lead (show 0 < m by omega) hM
  obtain ⟨yf, h6, h7⟩ := least_ m2 m12 (W := nB g e) (by omega) hq (e : Int) (by rw [nl, rdl]) (negL_in (by omega) r)
  have hp := part_ (m := m) (A := nB g (e + 1)) (B := nB g e) (by omega) (by omega) hM.tab
  have l2 : ∀ x : Int, ([x] : List Int).length = 1 := fun _ => rfl
  have loop := up r.length (fun i => impl_leastBounded.l0 ((nB g (e + 1) : Nat) : Int) r (r.length : Int) (i : Int) m u 0 m (e : Int) [] p ((negL m r).take i)) (fun i hi => by
    obtain ⟨a0, a1⟩ := rin i (by omega) (by omega)
    have ek : (wrapI (m - rd r (i : Int))).tmod m = (0 - rd r (i : Int)) % m := by
      rw [w64 (by omega) (by omega), tmod_nn (by omega), show m - rd r (i : Int) = m + (0 - rd r (i : Int)) by omega, Int.add_emod_left]
    have tk : ((negL m r).take i).length = i := by rw [List.length_take]; omega
    rw [take_rd (by omega), negL_rd hi, impl_leastBounded.l0_eq, wn (j := i) (by omega), ek]
    (with_reducible repeat (first | refine go_pos (by first | assumption | omega | rfl | exact B_pos (by omega)) ?_ | refine go_neg (by first | assumption | omega | decide | exact B_not (by omega)) ?_ | refine go_bind (by first | assumption) ?_ | dsimp only))
    rw [l2]
    ((with_reducible repeat (first | refine go_pos (by first | assumption | omega | rfl | exact B_pos (by omega)) ?_ | refine go_neg (by first | assumption | omega | decide | exact B_not (by omega)) ?_ | refine go_bind (by first | assumption) ?_ | dsimp only)); first | done | (with_reducible rfl) | simp (disch := omega) only [w64] | (show False; done)))
  simp only [Int.natCast_zero, List.take_zero] at loop
  rw [List.take_of_length_le (by omega)] at loop
  refine ⟨yf, ?_, lb_of (by omega) hM vl yl h4.dif (fun i hi => ?_) (by rw [← hr]; exact h7)⟩
  · rw [← hr]
    (with_reducible repeat (first | refine go_pos (by first | assumption | omega | rfl | exact B_pos (by omega)) ?_ | refine go_neg (by first | assumption | omega | decide | exact B_not (by omega)) ?_ | refine go_bind (by first | assumption) ?_ | dsimp only))
    rw [loop, impl_leastBounded.l0_eq]
    ((with_reducible repeat (first | refine go_pos (by first | assumption | omega | rfl | exact B_pos (by omega)) ?_ | refine go_neg (by first | assumption | omega | decide | exact B_not (by omega)) ?_ | refine go_bind (by first | assumption) ?_ | dsimp only)); first | done | (with_reducible rfl) | simp (disch := omega) only [w64] | (show False; done))
  · have := hzi.2 hb (i : Int) (by omega) (by omega)
    rwa [rd_take hi] at this
end Go.Proofs.Ytpppnoliogdkiaa.V
