/- What the proof of the law FactorSetOfChoice stands on, part 7: words, each Go function's Lean function, and that the Go code comes to its answers; no condition. (Packed by wip/myprint/pack.py out of what the kit's printer wrote, its words among it, partly by our patches of it, and out of texts of this session.) -/
import Derived.Test.YtlkdhmijgpadaaaRows
import Derived.WalkKit
import Derived.ProofKit
import Derived.KernelRfl
import Derived.Test.YtlkdhmijgpadaaaKFactorSetOfChoice4
import Derived.Test.YtlkdhmijgpadaaaKFactorSetOfChoice6
set_option linter.unusedVariables false
set_option linter.unusedSimpArgs false
set_option maxHeartbeats 2000000
set_option maxRecDepth 20000
namespace Go.Proofs.Ytlkdhmijgpadaaa.V
open Go.RowKit Go.Proofs.Ytlkdhmijgpadaaa.D Go.Proofs.Ytlkdhmijgpadaaa.P
theorem pow_nat : ∀ n : Nat, n ≤ 7 → ∀ i : Nat, i ≤ 5 → n ^ i ≤ 16807 := by decide
theorem pow_bd {a : Int} (h0 : 0 ≤ a) (h1 : a ≤ 7) (i : Nat) (hi : i ≤ 5) : 0 ≤ a ^ i ∧ a ^ i ≤ 16807 := by
  obtain ⟨n, rfl⟩ := Int.eq_ofNat_of_zero_le h0
  have h := pow_nat n (by omega) i hi
  rw [← Int.natCast_pow]
  omega
def cells (g : List (List Int)) (d : Int) : Int := ((g.length : Int) - 1) ^ d.toNat
theorem cells_bd {g : List (List Int)} (hg : Grp g) {d : Int} (h1 : d ≤ 5) : 0 ≤ cells g d ∧ cells g d ≤ 16807 := by
  have n8 := hg.n8; have n0 := hg.n1
  exact pow_bd (by omega) (by omega) _ (by omega)
theorem power {a d : Int} (h0 : 0 ≤ a) (h1 : a ≤ 7) (d0 : 0 ≤ d) (d1 : d ≤ 4) : impl_power.f a d = some (a ^ d.toNat) := by
  obtain ⟨n, rfl⟩ := Int.eq_ofNat_of_zero_le d0
  have := up n (fun j => impl_power.l0 a (a ^ j) (n : Int) (j : Int)) (fun j hj => by
    have hw : wrapI ((j : Int) + 1) = ((j + 1 : Nat) : Int) := by rw [w64 (by omega) (by omega)]; omega
    have b := pow_bd h0 h1 (j + 1) (by omega)
    have hp : wrapI (a ^ j * a) = a ^ (j + 1) := by rw [show a ^ j * a = a ^ (j + 1) from (Int.pow_succ a j).symm]; exact w64 (by omega) (by omega)
    rw [impl_power.l0_eq, hw, hp]
    ((with_reducible repeat (first | refine go_pos (by first | assumption | omega | rfl | exact B_pos (by omega)) ?_ | refine go_neg (by first | assumption | omega | decide | exact B_not (by omega)) ?_ | refine go_bind (by first | assumption) ?_ | dsimp only)); first | done | (with_reducible rfl) | simp (disch := omega) only [w64] | (show False; done)))
  simp only [Int.pow_zero, Int.natCast_zero] at this
  rw [impl_power.f_eq, this, impl_power.l0_eq, Int.toNat_natCast]
  ((with_reducible repeat (first | refine go_pos (by first | assumption | omega | rfl | exact B_pos (by omega)) ?_ | refine go_neg (by first | assumption | omega | decide | exact B_not (by omega)) ?_ | refine go_bind (by first | assumption) ?_ | dsimp only)); first | done | (with_reducible rfl) | simp (disch := omega) only [w64] | (show False; done))
theorem cells_ {g : List (List Int)} (hg : Grp g) {d : Int} (d0 : 0 ≤ d) (d1 : d ≤ 4) : impl_cells.f g d = some (cells g d) := by
  have n8 := hg.n8; have n0 := hg.n1
  have hw : wrapI ((g.length : Int) - 1) = g.length - 1 := w64 (by omega) (by omega)
  have hp := power (a := (g.length : Int) - 1) (by omega) (by omega) d0 d1
  show _ = some (((g.length : Int) - 1) ^ d.toNat)
  rw [impl_cells.f_eq, impl_order.f_eq, Option.bind_some, hw]
  ((with_reducible repeat (first | refine go_pos (by first | assumption | omega | rfl | exact B_pos (by omega)) ?_ | refine go_neg (by first | assumption | omega | decide | exact B_not (by omega)) ?_ | refine go_bind (by first | assumption) ?_ | dsimp only)); first | done | (with_reducible rfl) | simp (disch := omega) only [w64] | (show False; done))
def idx (g : List (List Int)) (xs : List Int) : Int := xs.foldl (fun a x => a * ((g.length : Int) - 1) + x - 1) 0
def NoUnit (xs : List Int) : Prop := ∀ j : Int, 0 ≤ j → j < xs.length → ¬ rd xs j = 0
noncomputable def At (g : List (List Int)) (v xs : List Int) : Int := ite_ (NoUnit xs) (rd v (idx g xs)) 0
end Go.Proofs.Ytlkdhmijgpadaaa.V
set_option linter.unusedVariables false
set_option linter.unusedSimpArgs false
set_option maxHeartbeats 2000000
set_option maxRecDepth 20000
namespace Go.Proofs.Ytlkdhmijgpadaaa.V
open Go.RowKit Go.Proofs.Ytlkdhmijgpadaaa.D Go.Proofs.Ytlkdhmijgpadaaa.P
theorem inv_is {g : List (List Int)} (hg : Grp g) {a : Int} (a0 : 0 ≤ a) (a1 : a < g.length) :
    ∃ b : Int, 0 ≤ b ∧ b < g.length ∧ T g a b = 0 ∧ impl_Group_inverse.f g a = some b ∧ spec_l01Inverse.f g a = some b := by
  have hm := maxLen_le
  have n8 := hg.n8
  have lr := hg.row a a0 a1
  have hlr : (row g a).length ≤ maxLen := le_maxLen (by omega)
  rcases index_ (row g a) 0 hlr with ⟨h, _⟩ | ⟨b, b0, b1, hf, hb, e⟩
  · obtain ⟨b, b0, b1, hb⟩ := hg.inv a a0 a1
    exact absurd hb (h b b0 (by omega))
  refine ⟨b, b0, by omega, hb, ?_, ?_⟩
  · rw [impl_Group_inverse.f_eq]
    ((with_reducible repeat (first | refine go_pos (by first | assumption | omega | rfl | exact B_pos (by omega)) ?_ | refine go_neg (by first | assumption | omega | decide | exact B_not (by omega)) ?_ | refine go_bind (by first | assumption) ?_ | dsimp only)); first | done | (with_reducible rfl) | simp (disch := omega) only [w64] | (show False; done))
  · rw [spec_l01Inverse.f_eq]
    obtain ⟨n, rfl⟩ := Int.eq_ofNat_of_zero_le b0
    have := up n (fun i => spec_l01Inverse.l0 a (i : Int) g) (fun i hi => by
      have h2 : T g a i ≠ 0 := hf i (by omega) (by omega)
      have hw : wrapI ((i : Int) + 1) = ((i + 1 : Nat) : Int) := by rw [w64 (by omega) (by omega)]; omega
      (rw [spec_l01Inverse.l0_eq, spec_l01N.f_eq, Option.bind_some, hw])
      ((with_reducible repeat (first | refine go_pos (by first | assumption | omega | rfl | exact B_pos (by omega)) ?_ | refine go_neg (by first | assumption | omega | decide | exact B_not (by omega)) ?_ | refine go_bind (by first | assumption) ?_ | dsimp only)); first | done | (with_reducible rfl) | simp (disch := omega) only [w64] | (show False; done)))
    simp only [Int.natCast_zero] at this
    have hb : T g a n = 0 := hb
    rw [this, spec_l01Inverse.l0_eq, spec_l01N.f_eq, Option.bind_some]
    ((with_reducible repeat (first | refine go_pos (by first | assumption | omega | rfl | exact B_pos (by omega)) ?_ | refine go_neg (by first | assumption | omega | decide | exact B_not (by omega)) ?_ | refine go_bind (by first | assumption) ?_ | dsimp only)); first | done | (with_reducible rfl) | simp (disch := omega) only [w64] | (show False; done))
theorem conj_is {g : List (List Int)} (hg : Grp g) {x : Int} (x0 : 0 ≤ x) (x1 : x < g.length) :
    ∃ C : Int → Int, ∀ y : Int, 0 ≤ y → y < g.length → (0 ≤ C y ∧ C y < g.length) ∧ impl_Group_conjugate.f g x y = some (C y) ∧ spec_l01Conjugate.f g y x = some (C y) := by
  obtain ⟨b, b0, b1, hb, eI, eS⟩ := inv_is hg x0 x1
  refine ⟨fun y => T g (T g x y) b, fun y y0 y1 => ?_⟩
  obtain ⟨c0, c1⟩ := hg.ent x y x0 x1 y0 y1
  obtain ⟨d0, d1⟩ := hg.ent _ b c0 c1 b0 b1
  have lx := hg.row x x0 x1
  have lc := hg.row _ c0 c1
  refine ⟨⟨d0, d1⟩, ?_, ?_⟩
  · rw [impl_Group_conjugate.f_eq]
    have ht := times hg [x, y, b] (allIn_three x0 x1 y0 y1 b0 b1) (le_maxLen (by simp))
    have e : [x, y, b].foldl (T g) 0 = T g (T g x y) b := by
      show T g (T g (T g 0 x) y) b = _
      rw [hg.one x x0 x1]
    rw [e] at ht
    ((with_reducible repeat (first | refine go_pos (by first | assumption | omega | rfl | exact B_pos (by omega)) ?_ | refine go_neg (by first | assumption | omega | decide | exact B_not (by omega)) ?_ | refine go_bind (by first | assumption) ?_ | dsimp only)); first | done | (with_reducible rfl) | simp (disch := omega) only [w64] | (show False; done))
  · rw [spec_l01Conjugate.f_eq]
    ((with_reducible repeat (first | refine go_pos (by first | assumption | omega | rfl | exact B_pos (by omega)) ?_ | refine go_neg (by first | assumption | omega | decide | exact B_not (by omega)) ?_ | refine go_bind (by first | assumption) ?_ | dsimp only)); first | done | (with_reducible rfl) | simp (disch := omega) only [w64] | (show False; done))
def lst (b : Int) : Nat → Int → List Int
  | 0, _ => []
  | n + 1, i => lst b n (i / b) ++ [i % b + 1]
theorem set_last (n : Nat) (t : List Int) (x : Int) : (List.replicate (n + 1) 0 ++ t).set n x = List.replicate n 0 ++ (x :: t) := by
  rw [List.replicate_succ', List.append_assoc, List.set_append, if_neg (by simp)]
  simp
theorem listOf {g : List (List Int)} (hg : Grp g) (n : Nat) (h2 : n = 0 ∨ 2 ≤ g.length) (hn : n ≤ 4) {i : Int} (i0 : 0 ≤ i) (i1 : i ≤ 16807) :
    impl_listOf.f g (n : Int) i = some (lst ((g.length : Int) - 1) n i) ∧ spec_l03List.f g (n : Int) i = some (lst ((g.length : Int) - 1) n i) := by
  have n8 := hg.n8; have n1 := hg.n1
  obtain ⟨b, hb⟩ : ∃ b : Int, b = (g.length : Int) - 1 := ⟨_, rfl⟩
  have hw0 : wrapI ((g.length : Int) - 1) = b := by rw [hb]; exact w64 (by omega) (by omega)
  rw [← hb]
  have b1 : n = 0 ∨ 1 ≤ b := by omega
  have b7 : b ≤ 7 := by omega
  have fact : ∀ (n : Nat) (i : Int), n ≤ 4 → 1 ≤ b → 0 ≤ i → i ≤ 16807 → wrapI (Int.tdiv i b) = i / b ∧ wrapI (1 + Int.tmod i b) = i % b + 1 ∧ wrapI (Int.tmod i b + 1) = i % b + 1 ∧ wrapI ((n : Int) - 1) = (n : Int) - 1 ∧ 0 ≤ i / b ∧ i / b ≤ 16807 := by
    intro n i hn b1 i0 i1
    have m0 := Int.emod_nonneg i (show b ≠ 0 by omega)
    have m1 := Int.emod_lt_of_pos i (show 0 < b by omega)
    have d0 : 0 ≤ i / b := Int.ediv_nonneg i0 (by omega)
    have d1 : i / b ≤ i := Int.ediv_le_self _ i0
    rw [tdiv_nn i0, tmod_nn i0]
    exact ⟨w64 (by omega) (by omega), by rw [w64 (by omega) (by omega)]; omega, w64 (by omega) (by omega), w64 (by omega) (by omega), d0, by omega⟩
  have hwn : wrapI ((n : Int) - 1) = (n : Int) - 1 := w64 (by omega) (by omega)
  constructor
  · rw [impl_listOf.f_eq, impl_order.f_eq, Option.bind_some, hw0, hwn, Int.toNat_natCast]
    (with_reducible repeat (first | refine go_pos (by first | assumption | omega | rfl | exact B_pos (by omega)) ?_ | refine go_neg (by first | assumption | omega | decide | exact B_not (by omega)) ?_ | refine go_bind (by first | assumption) ?_ | dsimp only))
    suffices H : ∀ (n : Nat) (i : Int) (t : List Int), n ≤ 4 → (n = 0 ∨ 1 ≤ b) → 0 ≤ i → i ≤ 16807 → impl_listOf.l0 i b ((n : Int) - 1) (List.replicate n 0 ++ t) = some (lst b n i ++ t) by
      simpa using H n i [] hn b1 i0 i1
    intro n
    induction n with
    | zero => intro i t _ _ _ _; rw [impl_listOf.l0_eq]; (with_reducible repeat (first | refine go_pos (by first | assumption | omega | rfl | exact B_pos (by omega)) ?_ | refine go_neg (by first | assumption | omega | decide | exact B_not (by omega)) ?_ | refine go_bind (by first | assumption) ?_ | dsimp only)); rfl
    | succ n ih =>
      intro i t hn b1 i0 i1
      obtain ⟨f1, f2, f3, f5, f6, f7⟩ := fact n i (by omega) (by omega) i0 i1
      have h := ih (i / b) ((i % b + 1) :: t) (by omega) (by omega) f6 f7
      have e : ((n + 1 : Nat) : Int) - 1 = (n : Int) := by omega
      have l1 : (List.replicate (n + 1) (0 : Int) ++ t).length = n + 1 + t.length := by rw [List.length_append, List.length_replicate]
      rw [e, impl_listOf.l0_eq, f1, f2, f5, Int.toNat_natCast, set_last]
      (with_reducible repeat (first | refine go_pos (by first | assumption | omega | rfl | exact B_pos (by omega)) ?_ | refine go_neg (by first | assumption | omega | decide | exact B_not (by omega)) ?_ | refine go_bind (by first | assumption) ?_ | dsimp only))
      rw [h, lst, List.append_assoc, List.singleton_append]
  · rw [spec_l03List.f_eq, spec_l01N.f_eq, Option.bind_some, hw0, hwn, Int.toNat_natCast]
    (with_reducible repeat (first | refine go_pos (by first | assumption | omega | rfl | exact B_pos (by omega)) ?_ | refine go_neg (by first | assumption | omega | decide | exact B_not (by omega)) ?_ | refine go_bind (by first | assumption) ?_ | dsimp only))
    suffices H : ∀ (n : Nat) (i : Int) (t : List Int), n ≤ 4 → (n = 0 ∨ 1 ≤ b) → 0 ≤ i → i ≤ 16807 → spec_l03List.l0 i b ((n : Int) - 1) (List.replicate n 0 ++ t) = some (lst b n i ++ t) by
      simpa using H n i [] hn b1 i0 i1
    intro n
    induction n with
    | zero => intro i t _ _ _ _; rw [spec_l03List.l0_eq]; (with_reducible repeat (first | refine go_pos (by first | assumption | omega | rfl | exact B_pos (by omega)) ?_ | refine go_neg (by first | assumption | omega | decide | exact B_not (by omega)) ?_ | refine go_bind (by first | assumption) ?_ | dsimp only)); rfl
    | succ n ih =>
      intro i t hn b1 i0 i1
      obtain ⟨f1, f2, f3, f5, f6, f7⟩ := fact n i (by omega) (by omega) i0 i1
      have h := ih (i / b) ((i % b + 1) :: t) (by omega) (by omega) f6 f7
      have e : ((n + 1 : Nat) : Int) - 1 = (n : Int) := by omega
      have l1 : (List.replicate (n + 1) (0 : Int) ++ t).length = n + 1 + t.length := by rw [List.length_append, List.length_replicate]
      rw [e, spec_l03List.l0_eq, f1, f3, f5, Int.toNat_natCast, set_last]
      (with_reducible repeat (first | refine go_pos (by first | assumption | omega | rfl | exact B_pos (by omega)) ?_ | refine go_neg (by first | assumption | omega | decide | exact B_not (by omega)) ?_ | refine go_bind (by first | assumption) ?_ | dsimp only))
      rw [h, lst, List.append_assoc, List.singleton_append]
theorem cells_two {g : List (List Int)} (hg : Grp g) {n : Nat} (hc : 0 < cells g n) : n = 0 ∨ 2 ≤ g.length := by
  have n1 := hg.n1
  by_cases h : n = 0
  · exact .inl h
  by_cases h2 : 2 ≤ g.length
  · exact .inr h2
  · have : (g.length : Int) - 1 = 0 := by omega
    have e : cells g (n : Int) = 0 := by unfold cells; rw [this, Int.toNat_natCast]; exact Int.zero_pow h
    omega
theorem cell_list {g : List (List Int)} (hg : Grp g) {n i : Nat} (hn : n ≤ 4) (hi : (i : Int) < cells g n) : impl_listOf.f g (n : Int) i = some (lst ((g.length : Int) - 1) n i) ∧ spec_l03List.f g (n : Int) i = some (lst ((g.length : Int) - 1) n i) := by
  have hb := cells_bd hg (d := (n : Int)) (by omega)
  exact listOf hg n (cells_two hg (by omega)) hn (by omega) (by omega)
theorem build_step (G : Nat → Int) (n i : Nat) (h : i < n) : ((List.range i).map G ++ List.replicate (n - i) 0).set i (G i) = (List.range (i + 1)).map G ++ List.replicate (n - (i + 1)) 0 := by
  rw [List.set_append, if_neg (by simp), List.length_map, List.length_range, Nat.sub_self, show n - i = (n - (i + 1)) + 1 by omega, List.replicate_succ, List.set_cons_zero, List.range_succ, List.map_append]
  simp
theorem build_len (G : Nat → Int) (n i : Nat) (h : i ≤ n) : ((List.range i).map G ++ List.replicate (n - i) 0).length = n := by rw [List.length_append, List.length_map, List.length_range, List.length_replicate]; omega
theorem mod_mod {a m : Int} (m0 : 0 < m) (m1 : m ≤ 1000000) : Int.tmod (wrapI (Int.tmod a m + m)) m = a % m := by
  have t0 := Int.tmod_lt_of_pos a m0
  have t1 : -m < Int.tmod a m := Int.lt_tmod_of_pos a m0
  have hq := Int.mul_tdiv_add_tmod a m
  have h5 : (m * a.tdiv m + a.tmod m) % m = a.tmod m % m := by rw [Int.add_comm, Int.add_mul_emod_self_left]
  rw [hq] at h5
  rw [w64 (by omega) (by omega), Int.tmod_eq_emod_of_nonneg (show 0 ≤ Int.tmod a m + m by omega), Int.add_emod_right, ← h5]
theorem zero_ {g : List (List Int)} (hg : Grp g) {n : Nat} (hn : n ≤ 4) : impl_zero.f g (n : Int) = some ((n : Int), List.replicate (cells g n).toNat 0) := by
  have hb := cells_bd hg (d := (n : Int)) (by omega)
  have hc := cells_ hg (d := (n : Int)) (by omega) (by omega)
  rw [impl_zero.f_eq]
  ((with_reducible repeat (first | refine go_pos (by first | assumption | omega | rfl | exact B_pos (by omega)) ?_ | refine go_neg (by first | assumption | omega | decide | exact B_not (by omega)) ?_ | refine go_bind (by first | assumption) ?_ | dsimp only)); first | done | (with_reducible rfl) | simp (disch := omega) only [w64] | (show False; done))
theorem told {g : List (List Int)} (hg : Grp g) {m : Int} (m2 : 2 ≤ m) (m12 : m ≤ 12) {n : Nat} (hn : n ≤ 4) {F : List Int → Option Int} {G : Nat → Int} (hF : ∀ i : Nat, (i : Int) < cells g n → F (lst ((g.length : Int) - 1) n i) = some (G i)) :
    impl_told.f g m (n : Int) F = some ((n : Int), (List.range (cells g n).toNat).map fun i => G i % m) := by
  have hb := cells_bd hg (d := (n : Int)) (by omega)
  have hz := zero_ hg hn
  obtain ⟨N, hN⟩ : ∃ N, N = (cells g n).toNat := ⟨_, rfl⟩
  rw [impl_told.f_eq, hz, Option.bind_some, ← hN]
  have := up N (fun j => impl_told.l0 m (n : Int) F (N : Int) (j : Int) g 0 (n : Int) ((List.range j).map (fun i => G i % m) ++ List.replicate (N - j) 0)) (fun j h => by
    have hw : wrapI ((j : Int) + 1) = ((j + 1 : Nat) : Int) := by rw [w64 (by omega) (by omega)]; omega
    have f := hF j (by omega)
    have hl := (cell_list hg hn (i := j) (by omega)).1
    have l1 := build_len (fun i => G i % m) N j (by omega)
    have e := mod_mod (a := G j) (m := m) (by omega) (by omega)
    rw [← build_step (fun i => G i % m) N j h, impl_told.l0_eq, hw, hl, Option.bind_some, f, Option.bind_some, e, Int.toNat_natCast]
    ((with_reducible repeat (first | refine go_pos (by first | assumption | omega | rfl | exact B_pos (by omega)) ?_ | refine go_neg (by first | assumption | omega | decide | exact B_not (by omega)) ?_ | refine go_bind (by first | assumption) ?_ | dsimp only)); first | done | (with_reducible rfl) | simp (disch := omega) only [w64] | (show False; done)))
  simp only [Int.natCast_zero, List.range_zero, List.map_nil, List.nil_append, Nat.sub_zero, Nat.sub_self, List.replicate_zero, List.append_nil] at this
  simp only [List.length_replicate]
  rw [this, impl_told.l0_eq]
  ((with_reducible repeat (first | refine go_pos (by first | assumption | omega | rfl | exact B_pos (by omega)) ?_ | refine go_neg (by first | assumption | omega | decide | exact B_not (by omega)) ?_ | refine go_bind (by first | assumption) ?_ | dsimp only)); first | done | (with_reducible rfl) | simp (disch := omega) only [w64] | (show False; done))
end Go.Proofs.Ytlkdhmijgpadaaa.V
set_option linter.unusedVariables false
set_option linter.unusedSimpArgs false
set_option maxHeartbeats 2000000
set_option maxRecDepth 20000
namespace Go.Proofs.Ytlkdhmijgpadaaa.V
open Go.RowKit Go.Proofs.Ytlkdhmijgpadaaa.D Go.Proofs.Ytlkdhmijgpadaaa.P
end Go.Proofs.Ytlkdhmijgpadaaa.V
set_option linter.unusedVariables false
set_option linter.unusedSimpArgs false
set_option maxHeartbeats 2000000
set_option maxRecDepth 20000
namespace Go.Proofs.Ytlkdhmijgpadaaa.V
open Go.RowKit Go.Proofs.Ytlkdhmijgpadaaa.D Go.Proofs.Ytlkdhmijgpadaaa.P
theorem parts {n m p : Int} (hm : 0 < m) (h0 : 0 ≤ p) (h1 : p < n * m) : 0 ≤ p / m ∧ p / m < n ∧ 0 ≤ p % m ∧ p % m < m :=
  ⟨Int.ediv_nonneg h0 (by omega), Int.ediv_lt_of_lt_mul hm h1, Int.emod_nonneg _ (by omega), Int.emod_lt_of_pos _ hm⟩
theorem made {N : Nat} (hN : N ≤ 100000) {F : Int → Int → Option Int} {G : Nat → Nat → Int} (hF : ∀ p q : Nat, p < N → q < N → F p q = some (G p q)) :
    impl_made.f (N : Int) F = some ((List.range N).map fun p : Nat => (List.range N).map fun q : Nat => G p q) := by
  have l2 : ∀ x : Int, ([x] : List Int).length = 1 := fun _ => rfl
  have l3 : ∀ x : List Int, ([x] : List (List Int)).length = 1 := fun _ => rfl
  rw [impl_made.f_eq]
  have := up N (fun p => impl_made.l0 (N : Int) F (N : Int) (p : Int) [] ((List.range p).map fun p : Nat => (List.range N).map fun q : Nat => G p q)) (fun p hp => by
    have inner := up N (fun q => impl_made.l1 (N : Int) F p (N : Int) p (N : Int) (q : Int) ((List.range q).map fun q : Nat => G p q) [] ((List.range p).map fun p : Nat => (List.range N).map fun q : Nat => G p q)) (fun q hq => by
      have l1 : ((List.range q).map fun q : Nat => G p q).length = q := by rw [List.length_map, List.length_range]
      rw [List.range_succ, List.map_append, List.map_singleton, impl_made.l1_eq, hF p q hp hq, Option.bind_some, l1, l2, wn (j := q) (by omega)]
      ((with_reducible repeat (first | refine go_pos (by first | assumption | omega | rfl | exact B_pos (by omega)) ?_ | refine go_neg (by first | assumption | omega | decide | exact B_not (by omega)) ?_ | refine go_bind (by first | assumption) ?_ | dsimp only)); first | done | (with_reducible rfl) | simp (disch := omega) only [w64] | (show False; done)))
    simp only [Int.natCast_zero, List.range_zero, List.map_nil] at inner
    have l1 : ((List.range p).map fun p : Nat => (List.range N).map fun q : Nat => G p q).length = p := by rw [List.length_map, List.length_range]
    rw [List.range_succ, List.map_append, List.map_singleton, impl_made.l0_eq]
    (with_reducible repeat (first | refine go_pos (by first | assumption | omega | rfl | exact B_pos (by omega)) ?_ | refine go_neg (by first | assumption | omega | decide | exact B_not (by omega)) ?_ | refine go_bind (by first | assumption) ?_ | dsimp only))
    rw [inner, impl_made.l1_eq, l1, l3, wn (j := p) (by omega)]
    ((with_reducible repeat (first | refine go_pos (by first | assumption | omega | rfl | exact B_pos (by omega)) ?_ | refine go_neg (by first | assumption | omega | decide | exact B_not (by omega)) ?_ | refine go_bind (by first | assumption) ?_ | dsimp only)); first | done | (with_reducible rfl) | simp (disch := omega) only [w64] | (show False; done)))
  simp only [Int.natCast_zero, List.range_zero, List.map_nil] at this
  rw [this, impl_made.l0_eq]
  ((with_reducible repeat (first | refine go_pos (by first | assumption | omega | rfl | exact B_pos (by omega)) ?_ | refine go_neg (by first | assumption | omega | decide | exact B_not (by omega)) ?_ | refine go_bind (by first | assumption) ?_ | dsimp only)); first | done | (with_reducible rfl) | simp (disch := omega) only [w64] | (show False; done))
end Go.Proofs.Ytlkdhmijgpadaaa.V
set_option linter.unusedVariables false
set_option linter.unusedSimpArgs false
set_option maxHeartbeats 2000000
set_option maxRecDepth 20000
namespace Go.Proofs.Ytlkdhmijgpadaaa.V
open Go.RowKit Go.Proofs.Ytlkdhmijgpadaaa.D Go.Proofs.Ytlkdhmijgpadaaa.P
structure Sq (e : List (List Int)) (N : Nat) : Prop where
  len : e.length = N
  row : ∀ a : Int, 0 ≤ a → a < N → (row e a).length = N
  ent : ∀ a b : Int, 0 ≤ a → a < N → 0 ≤ b → b < N → 0 ≤ T e a b ∧ T e a b < N
theorem Sq.times2 {e : List (List Int)} {N : Nat} (h : Sq e N) (one : ∀ a : Int, 0 ≤ a → a < N → T e 0 a = a) {x y : Int} (x0 : 0 ≤ x) (x1 : x < N) (y0 : 0 ≤ y) (y1 : y < N) : impl_Group_times.f e [x, y] = some (T e x y) := by
  have hl := h.len
  have h1 := one x x0 x1
  have r0 := h.row 0 (by omega) (by omega)
  have rx := h.row x x0 x1
  have q0 : rd [x, y] 0 = x := rfl
  have q1 : rd [x, y] 1 = y := rfl
  have w1 : wrapI (0 + 1) = 1 := w64 (by omega) (by omega)
  have w2 : wrapI (1 + 1) = 2 := w64 (by omega) (by omega)
  have ll : (([x, y] : List Int).length : Int) = 2 := rfl
  rw [impl_Group_times.f_eq, ll, impl_Group_times.l0_eq, ll, q0, w1, h1]
  (with_reducible repeat (first | refine go_pos (by first | assumption | omega | rfl | exact B_pos (by omega)) ?_ | refine go_neg (by first | assumption | omega | decide | exact B_not (by omega)) ?_ | refine go_bind (by first | assumption) ?_ | dsimp only))
  rw [impl_Group_times.l0_eq, ll, q1, w2]
  (with_reducible repeat (first | refine go_pos (by first | assumption | omega | rfl | exact B_pos (by omega)) ?_ | refine go_neg (by first | assumption | omega | decide | exact B_not (by omega)) ?_ | refine go_bind (by first | assumption) ?_ | dsimp only))
  rw [impl_Group_times.l0_eq]
  ((with_reducible repeat (first | refine go_pos (by first | assumption | omega | rfl | exact B_pos (by omega)) ?_ | refine go_neg (by first | assumption | omega | decide | exact B_not (by omega)) ?_ | refine go_bind (by first | assumption) ?_ | dsimp only)); first | done | (with_reducible rfl) | simp (disch := omega) only [w64] | (show False; done))
theorem php : ∀ (N : Nat) (f : Nat → Nat), (∀ i, i ≤ N → f i < N) → ∃ i j, i < j ∧ j ≤ N ∧ f i = f j := by
  intro N
  induction N with
  | zero => intro f h; exact absurd (h 0 (Nat.le_refl 0)) (by omega)
  | succ N ih =>
    intro f h
    by_cases hv : ∃ i, i ≤ N ∧ f i = f (N + 1)
    · obtain ⟨i, hi, e⟩ := hv
      exact ⟨i, N + 1, by omega, Nat.le_refl _, e⟩
    · have hne : ∀ i, i ≤ N → f i ≠ f (N + 1) := fun i hi e => hv ⟨i, hi, e⟩
      have hN := h (N + 1) (Nat.le_refl _)
      obtain ⟨i, j, hij, hj, e⟩ := ih (fun i => if f i > f (N + 1) then f i - 1 else f i) (fun i hi => by
        have h1 := h i (by omega)
        have h2 := hne i hi
        split <;> omega)
      refine ⟨i, j, hij, by omega, ?_⟩
      have h1 := hne i (by omega)
      have h2 := hne j (by omega)
      split at e <;> split at e <;> omega
def seq (f : Int → Int) (x : Int) : Nat → Int
  | 0 => x
  | n + 1 => f (seq f x n)
theorem seq_in {f : Int → Int} {N : Nat} (hf : ∀ x : Int, 0 ≤ x → x < N → 0 ≤ f x ∧ f x < N) {x : Int} (h0 : 0 ≤ x) (h1 : x < N) : ∀ n, 0 ≤ seq f x n ∧ seq f x n < N
  | 0 => ⟨h0, h1⟩
  | n + 1 => hf _ (seq_in hf h0 h1 n).1 (seq_in hf h0 h1 n).2
theorem comes_back {f : Int → Int} {N : Nat} (hf : ∀ x : Int, 0 ≤ x → x < N → 0 ≤ f x ∧ f x < N) (hi : ∀ x y : Int, 0 ≤ x → x < N → 0 ≤ y → y < N → f x = f y → x = y) {x : Int} (h0 : 0 ≤ x) (h1 : x < N) :
    ∃ k, k ≤ N ∧ 1 ≤ k ∧ seq f x k = x ∧ ∀ j, 1 ≤ j → j < k → seq f x j ≠ x := by
  obtain ⟨i, j, hij, hj, e⟩ := php N (fun n => (seq f x n).toNat) (fun i _ => by have := seq_in hf h0 h1 i; omega)
  have back : ∀ i j, i < j → seq f x i = seq f x j → seq f x (j - i) = x := by
    intro i
    induction i with
    | zero => intro j _ e; simpa [seq] using e.symm
    | succ i ih =>
      intro j hj e
      obtain ⟨j, rfl⟩ : ∃ m, j = m + 1 := ⟨j - 1, by omega⟩
      have a := seq_in hf h0 h1 i
      have b := seq_in hf h0 h1 j
      have := ih j (by omega) (hi _ _ a.1 a.2 b.1 b.2 e)
      rwa [show j + 1 - (i + 1) = j - i by omega]
  have a := seq_in hf h0 h1 i
  have b := seq_in hf h0 h1 j
  have e' : seq f x i = seq f x j := by omega
  have hk := back i j hij e'
  have least : ∀ d, 1 ≤ d → seq f x d = x → ∃ k, k ≤ d ∧ 1 ≤ k ∧ seq f x k = x ∧ ∀ j, 1 ≤ j → j < k → seq f x j ≠ x := by
    intro d
    induction d using Nat.strongRecOn with
    | _ d ih =>
      intro d1 hd
      by_cases h : ∃ j, 1 ≤ j ∧ j < d ∧ seq f x j = x
      · obtain ⟨j, j1, j2, j3⟩ := h
        obtain ⟨k, k1, k2⟩ := ih j j2 j1 j3
        exact ⟨k, by omega, k2⟩
      · exact ⟨d, Nat.le_refl _, d1, hd, fun j j1 j2 j3 => h ⟨j, j1, j2, j3⟩⟩
  obtain ⟨k, k1, k2⟩ := least (j - i) (by omega) hk
  exact ⟨k, by omega, k2⟩
theorem Grp.cancel_right {g : List (List Int)} (hg : Grp g) {a b c : Int} (a0 : 0 ≤ a) (a1 : a < g.length) (b0 : 0 ≤ b) (b1 : b < g.length) (c0 : 0 ≤ c) (c1 : c < g.length) (h : T g a c = T g b c) : a = b := by
  obtain ⟨d, d0, d1, hd⟩ := hg.inv c c0 c1
  have e1 := hg.assoc a c d a0 a1 c0 c1 d0 d1
  have e2 := hg.assoc b c d b0 b1 c0 c1 d0 d1
  rw [hd, hg.one' a a0 a1] at e1
  rw [hd, hg.one' b b0 b1] at e2
  rw [← e1, ← e2, h]
end Go.Proofs.Ytlkdhmijgpadaaa.V
set_option linter.unusedVariables false
set_option linter.unusedSimpArgs false
set_option maxHeartbeats 2000000
set_option maxRecDepth 20000
namespace Go.Proofs.Ytlkdhmijgpadaaa.V
open Go.RowKit Go.Proofs.Ytlkdhmijgpadaaa.D Go.Proofs.Ytlkdhmijgpadaaa.P
def pw (g : List (List Int)) (z : Int) (k : Nat) : Int := seq (fun q => T g q z) 0 k
theorem pw_zero (g : List (List Int)) (z : Int) : pw g z 0 = 0 := rfl
theorem pw_succ (g : List (List Int)) (z : Int) (k : Nat) : pw g z (k + 1) = T g (pw g z k) z := rfl
structure Ord (g : List (List Int)) (z : Int) (K : Nat) : Prop where
  pos : 1 ≤ K
  le : K ≤ g.length
  zero : pw g z K = 0
  ne : ∀ j, 1 ≤ j → j < K → pw g z j ≠ 0
theorem pw_in {g : List (List Int)} (hg : Grp g) {z : Int} (z0 : 0 ≤ z) (z1 : z < g.length) (k : Nat) : 0 ≤ pw g z k ∧ pw g z k < g.length := by
  have n1 := hg.n1
  exact seq_in (f := fun q => T g q z) (N := g.length) (fun x x0 x1 => hg.ent x z x0 x1 z0 z1) (by omega) (by omega) k
theorem ord_ {g : List (List Int)} (hg : Grp g) {z : Int} (z0 : 0 ≤ z) (z1 : z < g.length) : ∃ K, Ord g z K := by
  have n1 := hg.n1
  obtain ⟨k, k1, k2, k3, k4⟩ := comes_back (f := fun q => T g q z) (N := g.length) (fun x x0 x1 => hg.ent x z x0 x1 z0 z1) (fun x y x0 x1 y0 y1 e => hg.cancel_right x0 x1 y0 y1 z0 z1 e) (x := 0) (by omega) (by omega)
  exact ⟨k, k2, k1, k3, k4⟩
theorem pw_one {g : List (List Int)} (hg : Grp g) {z : Int} (z0 : 0 ≤ z) (z1 : z < g.length) : pw g z 1 = z := hg.one z z0 z1
theorem pw_back {g : List (List Int)} (hg : Grp g) {z : Int} (z0 : 0 ≤ z) (z1 : z < g.length) : ∀ i j, i < j → pw g z i = pw g z j → pw g z (j - i) = 0 := by
  intro i
  induction i with
  | zero => intro j _ e; rw [Nat.sub_zero, ← e]; rfl
  | succ i ih =>
    intro j hj e
    obtain ⟨j, rfl⟩ : ∃ m, j = m + 1 := ⟨j - 1, by omega⟩
    have a := pw_in hg z0 z1 i
    have b := pw_in hg z0 z1 j
    rw [show j + 1 - (i + 1) = j - i by omega]
    exact ih j (by omega) (hg.cancel_right a.1 a.2 b.1 b.2 z0 z1 e)
theorem Ord.inj {g : List (List Int)} (hg : Grp g) {z : Int} (z0 : 0 ≤ z) (z1 : z < g.length) {K : Nat} (h : Ord g z K) {i j : Nat} (hi : i < K) (hj : j < K) (e : pw g z i = pw g z j) : i = j := by
  rcases Nat.lt_trichotomy i j with q | q | q
  · exact absurd (pw_back hg z0 z1 i j q e) (h.ne _ (by omega) (by omega))
  · exact q
  · exact absurd (pw_back hg z0 z1 j i q e.symm) (h.ne _ (by omega) (by omega))
theorem Ord.add {g : List (List Int)} {z : Int} {K : Nat} (h : Ord g z K) : ∀ i, pw g z (K + i) = pw g z i := by
  intro i
  induction i with
  | zero => rw [Nat.add_zero, h.zero]; rfl
  | succ i ih => rw [← Nat.add_assoc, pw_succ, ih, pw_succ]
theorem Ord.small {g : List (List Int)} {z : Int} {K : Nat} (h : Ord g z K) : ∀ i, ∃ j, j < K ∧ pw g z i = pw g z j := by
  have hp := h.pos
  intro i
  induction i using Nat.strongRecOn with
  | _ i ih =>
    by_cases hi : i < K
    · exact ⟨i, hi, rfl⟩
    · obtain ⟨j, j1, j2⟩ := ih (i - K) (by omega)
      refine ⟨j, j1, ?_⟩
      rw [← j2, ← h.add (i - K), show K + (i - K) = i by omega]
theorem pw_add {g : List (List Int)} (hg : Grp g) {z : Int} (z0 : 0 ≤ z) (z1 : z < g.length) (i : Nat) : ∀ j, T g (pw g z i) (pw g z j) = pw g z (i + j) := by
  intro j
  have a := pw_in hg z0 z1 i
  induction j with
  | zero => rw [pw_zero, hg.one' _ a.1 a.2]; rfl
  | succ j ih =>
    have b := pw_in hg z0 z1 j
    rw [pw_succ, ← hg.assoc _ _ _ a.1 a.2 b.1 b.2 z0 z1, ih, ← Nat.add_assoc, pw_succ]
theorem orderOf_ {g : List (List Int)} (hg : Grp g) {z : Int} (z0 : 0 ≤ z) (z1 : z < g.length) {K : Nat} (h : Ord g z K) : impl_Group_orderOf.f g z = some (K : Int) := by
  have n8 := hg.n8; have hK := h.le; have hp := h.pos
  have H : ∀ d j : Nat, 1 ≤ j → j + d = K → impl_Group_orderOf.l0 z (j : Int) (pw g z j) g = some (K : Int) := by
    intro d
    induction d with
    | zero =>
      intro j j1 hj
      obtain rfl : j = K := by omega
      rw [h.zero, impl_Group_orderOf.l0_eq, if_pos rfl]
    | succ d ih =>
      intro j j1 hj
      have hz := h.ne j j1 (by omega)
      obtain ⟨s0, s1⟩ := pw_in hg z0 z1 j
      have ht := times2 hg s0 s1 z0 z1
      have i1 := ih (j + 1) (by omega) (by omega)
      rw [impl_Group_orderOf.l0_eq, if_neg hz, ht, Option.bind_some, wn (j := j) (by omega)]
      exact i1
  have := H (K - 1) 1 (by omega) (by omega)
  rw [pw_one hg z0 z1] at this
  rw [impl_Group_orderOf.f_eq]
  exact this
theorem Order_ {g : List (List Int)} (hg : Grp g) {z : Int} (z0 : 0 ≤ z) (z1 : z < g.length) {K : Nat} (h : Ord g z K) : spec_l01Order.f g z = some (K : Int) := by
  have n8 := hg.n8; have hK := h.le; have hp := h.pos
  have H : ∀ d j : Nat, 1 ≤ j → j + d = K → spec_l01Order.l0 z (j : Int) (pw g z j) g = some (K : Int) := by
    intro d
    induction d with
    | zero =>
      intro j j1 hj
      obtain rfl : j = K := by omega
      rw [h.zero, spec_l01Order.l0_eq, if_pos rfl]
    | succ d ih =>
      intro j j1 hj
      have hz := h.ne j j1 (by omega)
      obtain ⟨s0, s1⟩ := pw_in hg z0 z1 j
      have hrow := hg.row _ s0 s1
      have i1 := ih (j + 1) (by omega) (by omega)
      rw [spec_l01Order.l0_eq, if_neg hz, wn (j := j) (by omega)]
      (with_reducible repeat (first | refine go_pos (by first | assumption | omega | rfl | exact B_pos (by omega)) ?_ | refine go_neg (by first | assumption | omega | decide | exact B_not (by omega)) ?_ | refine go_bind (by first | assumption) ?_ | dsimp only))
      exact i1
  have := H (K - 1) 1 (by omega) (by omega)
  rw [pw_one hg z0 z1] at this
  rw [spec_l01Order.f_eq]
  exact this
theorem exponent_ {g : List (List Int)} (hg : Grp g) {z : Int} (z0 : 0 ≤ z) (z1 : z < g.length) {K : Nat} (h : Ord g z K) {k : Nat} (hk : k < K) : impl_exponentOf.f g z (pw g z k) = some (k : Int) := by
  have n8 := hg.n8; have hK := h.le
  have H : ∀ d j : Nat, j + d = k → impl_exponentOf.l0 z (pw g z k) (j : Int) (pw g z j) g = some (k : Int) := by
    intro d
    induction d with
    | zero =>
      intro j hj
      obtain rfl : j = k := by omega
      rw [impl_exponentOf.l0_eq, if_pos rfl]
    | succ d ih =>
      intro j hj
      have hne : ¬ pw g z j = pw g z k := fun e => by have := h.inj hg z0 z1 (by omega) hk e; omega
      obtain ⟨s0, s1⟩ := pw_in hg z0 z1 j
      have ht := times2 hg s0 s1 z0 z1
      have i1 := ih (j + 1) (by omega)
      rw [impl_exponentOf.l0_eq, if_neg hne, ht, Option.bind_some, wn (j := j) (by omega)]
      exact i1
  have := H k 0 (by omega)
  rw [impl_exponentOf.f_eq]
  exact this
theorem Power_ {g : List (List Int)} (hg : Grp g) {z : Int} (z0 : 0 ≤ z) (z1 : z < g.length) {K : Nat} (h : Ord g z K) {k : Nat} (hk : k < K) : spec_l06Power.f g z (pw g z k) = some (k : Int) := by
  have n8 := hg.n8; have hK := h.le
  have hO := Order_ hg z0 z1 h
  have H : ∀ d j : Nat, j + d = k → spec_l06Power.l0 z (pw g z k) (pw g z j) (j : Int) g = some (k : Int) := by
    intro d
    induction d with
    | zero =>
      intro j hj
      obtain rfl : j = k := by omega
      rw [spec_l06Power.l0_eq, hO, Option.bind_some, if_pos (by omega), if_pos rfl]
    | succ d ih =>
      intro j hj
      have hne : ¬ pw g z j = pw g z k := fun e => by have := h.inj hg z0 z1 (by omega) hk e; omega
      obtain ⟨s0, s1⟩ := pw_in hg z0 z1 j
      have hrow := hg.row _ s0 s1
      have i1 := ih (j + 1) (by omega)
      rw [spec_l06Power.l0_eq, hO, Option.bind_some, if_pos (by omega), if_neg hne, wn (j := j) (by omega)]
      (with_reducible repeat (first | refine go_pos (by first | assumption | omega | rfl | exact B_pos (by omega)) ?_ | refine go_neg (by first | assumption | omega | decide | exact B_not (by omega)) ?_ | refine go_bind (by first | assumption) ?_ | dsimp only))
      exact i1
  have := H k 0 (by omega)
  rw [spec_l06Power.f_eq]
  exact this
end Go.Proofs.Ytlkdhmijgpadaaa.V
set_option linter.unusedVariables false
set_option linter.unusedSimpArgs false
set_option maxHeartbeats 2000000
set_option maxRecDepth 20000
namespace Go.Proofs.Ytlkdhmijgpadaaa.V
open Go.RowKit Go.Proofs.Ytlkdhmijgpadaaa.D Go.Proofs.Ytlkdhmijgpadaaa.P
theorem less_ (a b : Int) : cmp_Less_int64.f a b = some (decide (a < b)) := by
  rw [cmp_Less_int64.f_eq, cmp_isNaN_int64.f_eq, cmp_isNaN_int64.f_eq]
  simp
def insQ : List Int → Int → List Int → List Int
  | [], v, Q => v :: Q
  | w :: R, v, Q => if v < w then insQ R v (w :: Q) else R.reverse ++ w :: v :: Q
theorem rd_mid {A B : List Int} {v : Int} {j : Nat} (h : A.length = j) : rd (A ++ v :: B) (j : Int) = v := by subst h; simp [rd, List.getD_eq_getElem?_getD]
theorem set_mid {A B : List Int} {v w : Int} {j : Nat} (h : A.length = j) : (A ++ v :: B).set j w = A ++ w :: B := by subst h; simp
theorem inner_ (x2 : Int) (i : Nat) (hi : i < 4611686018427387904) : ∀ (R : List Int) (v : Int) (Q : List Int), R.length ≤ i → slices_insertionSortOrdered_int64.l1 0 x2 i (R.length : Int) (R.reverse ++ v :: Q) = slices_insertionSortOrdered_int64.l0 0 x2 ((i + 1 : Nat) : Int) (insQ R v Q) := by
  intro R
  induction R with
  | nil =>
    intro v Q _
    rw [slices_insertionSortOrdered_int64.l1_eq, wn (j := i) hi]
    (with_reducible repeat (first | refine go_pos (by first | assumption | omega | rfl | exact B_pos (by omega)) ?_ | refine go_neg (by first | assumption | omega | decide | exact B_not (by omega)) ?_ | refine go_bind (by first | assumption) ?_ | dsimp only))
    rfl
  | cons w R ih =>
    intro v Q hR
    have hR' : R.length + 1 ≤ i := hR
    have e : (w :: R).reverse ++ v :: Q = R.reverse ++ w :: v :: Q := by simp
    have e2 : (((w :: R).length : Nat) : Int) = ((R.length + 1 : Nat) : Int) := rfl
    have e3 : wrapI (((R.length + 1 : Nat) : Int) - 1) = (R.length : Int) := by rw [w64 (by omega) (by omega)]; omega
    have hl : R.reverse.length = R.length := List.length_reverse
    have r1 : rd (R.reverse ++ w :: v :: Q) ((R.length + 1 : Nat) : Int) = v := by
      rw [show R.reverse ++ w :: v :: Q = (R.reverse ++ [w]) ++ v :: Q by simp]
      exact rd_mid (by rw [List.length_append, hl]; rfl)
    have r2 : rd (R.reverse ++ w :: v :: Q) (R.length : Int) = w := rd_mid hl
    have s1 : (R.reverse ++ w :: v :: Q).set (R.length + 1) w = R.reverse ++ w :: w :: Q := by
      rw [show R.reverse ++ w :: v :: Q = (R.reverse ++ [w]) ++ v :: Q by simp, set_mid (by rw [List.length_append, hl]; rfl)]
      simp
    have s2 : (R.reverse ++ w :: w :: Q).set R.length v = R.reverse ++ v :: w :: Q := set_mid hl
    have l1 : (R.reverse ++ w :: v :: Q).length = R.length + 2 + Q.length := by rw [List.length_append, hl, List.length_cons, List.length_cons]; omega
    have l2 : (R.reverse ++ w :: w :: Q).length = R.length + 2 + Q.length := by rw [List.length_append, hl, List.length_cons, List.length_cons]; omega
    have hls := less_ v w
    rw [e, e2, slices_insertionSortOrdered_int64.l1_eq, e3, r1, r2, Int.toNat_natCast, Int.toNat_natCast, s1, s2, wn (j := i) hi, insQ]
    clear e e2 e3 r1 r2 s1 s2
    by_cases h : v < w
    · rw [decide_eq_true h] at hls
      rw [if_pos h]
      (with_reducible repeat (first | refine go_pos (by first | assumption | omega | rfl | exact B_pos (by omega)) ?_ | refine go_neg (by first | assumption | omega | decide | exact B_not (by omega)) ?_ | refine go_bind (by first | assumption) ?_ | dsimp only))
      exact ih v (w :: Q) (by omega)
    · rw [decide_eq_false h] at hls
      rw [if_neg h]
      ((with_reducible repeat (first | refine go_pos (by first | assumption | omega | rfl | exact B_pos (by omega)) ?_ | refine go_neg (by first | assumption | omega | decide | exact B_not (by omega)) ?_ | refine go_bind (by first | assumption) ?_ | dsimp only)); first | done | (with_reducible rfl) | simp (disch := omega) only [w64] | (show False; done))
theorem insQ_app : ∀ (R : List Int) (v : Int) (Q Q' : List Int), insQ R v (Q ++ Q') = insQ R v Q ++ Q' := by
  intro R
  induction R with
  | nil => intro v Q Q'; rfl
  | cons w R ih =>
    intro v Q Q'
    rw [insQ, insQ]
    split
    · exact ih v (w :: Q) Q'
    · simp
theorem insQ_mem : ∀ (R : List Int) (v : Int) (Q : List Int) (x : Int), x ∈ insQ R v Q ↔ x = v ∨ x ∈ R ∨ x ∈ Q := by
  intro R
  induction R with
  | nil => intro v Q x; simp [insQ]
  | cons w R ih =>
    intro v Q x
    rw [insQ]
    split
    · rw [ih]; simp only [List.mem_cons]; constructor
      · rintro (h | h | h | h) <;> simp [h]
      · rintro (h | (h | h) | h) <;> simp [h]
    · simp only [List.mem_append, List.mem_reverse, List.mem_cons]; constructor
      · rintro (h | h | h | h) <;> simp [h]
      · rintro (h | (h | h) | h) <;> simp [h]
theorem insQ_len : ∀ (R : List Int) (v : Int) (Q : List Int), (insQ R v Q).length = R.length + 1 + Q.length := by
  intro R
  induction R with
  | nil => intro v Q; simp [insQ]; omega
  | cons w R ih =>
    intro v Q
    rw [insQ]
    split
    · rw [ih]; simp; omega
    · simp; omega
theorem insQ_sorted : ∀ (R : List Int) (v : Int) (Q : List Int), R.Pairwise (fun a b => b < a) → (∀ x ∈ R, x ≠ v) → Q.Pairwise (· < ·) → (∀ x ∈ R, ∀ y ∈ Q, x < y) → (∀ y ∈ Q, v < y) → (insQ R v Q).Pairwise (· < ·) := by
  intro R
  induction R with
  | nil => intro v Q _ _ hQ _ hv; exact List.pairwise_cons.2 ⟨hv, hQ⟩
  | cons w R ih =>
    intro v Q hR hn hQ hRQ hv
    obtain ⟨h1, h2⟩ := List.pairwise_cons.1 hR
    rw [insQ]
    split
    · rename_i h
      refine ih v (w :: Q) h2 (fun x hx => hn x (List.mem_cons_of_mem _ hx)) (List.pairwise_cons.2 ⟨fun y hy => hRQ w List.mem_cons_self y hy, hQ⟩) (fun x hx y hy => ?_) (fun y hy => ?_)
      · rcases List.mem_cons.1 hy with rfl | hy
        · exact h1 x hx
        · exact hRQ x (List.mem_cons_of_mem _ hx) y hy
      · rcases List.mem_cons.1 hy with rfl | hy
        · exact h
        · exact hv y hy
    · rename_i h
      have hw : w < v := by have := hn w List.mem_cons_self; omega
      rw [List.pairwise_append]
      refine ⟨List.pairwise_reverse.2 h2, List.pairwise_cons.2 ⟨fun y hy => ?_, List.pairwise_cons.2 ⟨hv, hQ⟩⟩, fun x hx y hy => ?_⟩
      · rcases List.mem_cons.1 hy with rfl | hy
        · exact hw
        · exact hRQ w List.mem_cons_self y hy
      · have hx' := h1 x (List.mem_reverse.1 hx)
        rcases List.mem_cons.1 hy with rfl | hy
        · exact hx'
        · rcases List.mem_cons.1 hy with rfl | hy
          · omega
          · exact hRQ x (List.mem_cons_of_mem _ (List.mem_reverse.1 hx)) y hy
theorem sort_ (xs : List Int) (hl : xs.length ≤ 12) (hn : xs.Nodup) : ∃ ys, slices_Sort_int64.f xs = some ys ∧ ys.length = xs.length ∧ ys.Pairwise (· < ·) ∧ ∀ x, x ∈ ys ↔ x ∈ xs := by
 have hw : wr .u64 (xs.length : Int) = (xs.length : Int) := by
  show hid (IntKind.wrap .u64 _) = _
  rw [hid_eq]
  obtain ⟨n, hn⟩ : ∃ n, n = xs.length := ⟨_, rfl⟩
  rw [← hn] at hl ⊢
  have : ∀ n : Fin 13, IntKind.wrap .u64 ((n : Nat) : Int) = ((n : Nat) : Int) := by decide
  exact this ⟨n, by omega⟩
 have hb : ∃ y, bits_Len.f (xs.length : Int) = some y := ⟨_, if_pos ⟨by omega, by omega⟩⟩
 obtain ⟨y, hb⟩ := hb
 have H : ∀ (d : Nat) (R Q : List Int), Q.length = d → R.length + d = xs.length → 1 ≤ R.length → R.Pairwise (fun a b => b < a) → (R.reverse ++ Q).Nodup → ∃ ys, slices_insertionSortOrdered_int64.l0 0 (xs.length : Int) (R.length : Int) (R.reverse ++ Q) = some ys ∧ ys.length = xs.length ∧ ys.Pairwise (· < ·) ∧ ∀ x, x ∈ ys ↔ (x ∈ R ∨ x ∈ Q) := by
  intro d
  induction d with
  | zero =>
   intro R Q hQ hR _ hs hnd
   obtain rfl : Q = [] := List.eq_nil_of_length_eq_zero hQ
   refine ⟨R.reverse ++ [], ?_, by simp; omega, by rw [List.append_nil]; exact List.pairwise_reverse.2 hs, fun x => by simp⟩
   rw [slices_insertionSortOrdered_int64.l0_eq]
   ((with_reducible repeat (first | refine go_pos (by first | assumption | omega | rfl | exact B_pos (by omega)) ?_ | refine go_neg (by first | assumption | omega | decide | exact B_not (by omega)) ?_ | refine go_bind (by first | assumption) ?_ | dsimp only)); first | done | (with_reducible rfl) | simp (disch := omega) only [w64] | (show False; done))
  | succ d ih =>
   intro R Q hQ hR h1 hs hnd
   match Q, hQ with
   | v :: Q, hQ =>
    have hQ : Q.length = d := by simpa using hQ
    have hd := List.nodup_append.1 hnd
    obtain ⟨hvQ, hQn⟩ := List.nodup_cons.1 hd.2.1
    have hvR : ∀ x ∈ R, x ≠ v := fun x hx h => hd.2.2 x (List.mem_reverse.2 hx) v List.mem_cons_self h
    have hsort := insQ_sorted R v [] hs hvR List.Pairwise.nil (fun _ _ _ h => by cases h) (fun _ h => by cases h)
    have hlen := insQ_len R v []
    obtain ⟨S, hS⟩ : ∃ S, S = insQ R v [] := ⟨_, rfl⟩
    have hin : insQ R v Q = S ++ Q := by rw [hS, ← insQ_app, List.nil_append]
    rw [← hS] at hsort hlen
    have hmS : ∀ x, x ∈ S ↔ x = v ∨ x ∈ R := fun x => by rw [hS, insQ_mem]; simp
    have hSn : S.Nodup := hsort.imp fun h => by omega
    obtain ⟨ys, e, k1, k2, k3⟩ := ih S.reverse Q hQ (by rw [List.length_reverse, hlen]; simp; omega) (by rw [List.length_reverse, hlen]; omega) (List.pairwise_reverse.2 hsort) (by
     rw [List.reverse_reverse]
     refine List.nodup_append.2 ⟨hSn, hQn, fun a ha b hb => ?_⟩
     rcases (hmS a).1 ha with rfl | ha
     ·
      intro h; subst h; exact hvQ hb
     ·
      exact hd.2.2 a (List.mem_reverse.2 ha) b (List.mem_cons_of_mem _ hb))
    rw [List.reverse_reverse, List.length_reverse, hlen, List.length_nil, Nat.add_zero] at e
    refine ⟨ys, ?_, k1, k2, fun x => ?_⟩
    ·
     rw [slices_insertionSortOrdered_int64.l0_eq]
     (with_reducible repeat (first | refine go_pos (by first | assumption | omega | rfl | exact B_pos (by omega)) ?_ | refine go_neg (by first | assumption | omega | decide | exact B_not (by omega)) ?_ | refine go_bind (by first | assumption) ?_ | dsimp only))
     rw [inner_ _ R.length (by omega) R v Q (Nat.le_refl _), hin]
     exact e
    ·
     rw [k3, List.mem_reverse, hmS, List.mem_cons]
     constructor
     ·
      rintro ((h | h) | h) <;> simp [h]
     ·
      rintro (h | h | h) <;> simp [h]
 rw [slices_Sort_int64.f_eq, hw, hb, Option.bind_some, slices_pdqsortOrdered_int64.f_eq, slices_pdqsortOrdered_int64.l0_eq, slices_insertionSortOrdered_int64.f_eq, w64 (x := (xs.length : Int) - 0) (by omega) (by omega), show wrapI (0 + 1) = 1 from w64 (by omega) (by omega)]
 clear hw hb
 cases xs with
 | nil =>
  refine ⟨[], ?_, rfl, List.Pairwise.nil, fun x => Iff.rfl⟩
  rw [slices_insertionSortOrdered_int64.l0_eq]
  rfl
 | cons v Q =>
  obtain ⟨ys, e, k1, k2, k3⟩ := H Q.length [v] Q rfl (by simp; omega) (by simp) (List.pairwise_singleton ..) hn
  have e : slices_insertionSortOrdered_int64.l0 0 ((v :: Q).length : Int) 1 (v :: Q) = some ys := e
  refine ⟨ys, ?_, k1, k2, fun x => by rw [k3]; simp⟩
  rw [e, if_pos (by omega)]
  rfl
theorem sorted_unique : ∀ (xs ys : List Int), xs.Pairwise (· < ·) → ys.Pairwise (· < ·) → (∀ x, x ∈ xs ↔ x ∈ ys) → xs = ys := by
  intro xs
  induction xs with
  | nil =>
    intro ys _ _ h
    cases ys with
    | nil => rfl
    | cons y ys => exact absurd ((h y).2 List.mem_cons_self) (by simp)
  | cons x xs ih =>
    intro ys hx hy h
    cases ys with
    | nil => exact absurd ((h x).1 List.mem_cons_self) (by simp)
    | cons y ys =>
      obtain ⟨a1, a2⟩ := List.pairwise_cons.1 hx
      obtain ⟨b1, b2⟩ := List.pairwise_cons.1 hy
      have e : x = y := by
        have h1 := (h x).1 List.mem_cons_self
        have h2 := (h y).2 List.mem_cons_self
        rcases List.mem_cons.1 h1 with h1 | h1
        · exact h1
        · rcases List.mem_cons.1 h2 with h2 | h2
          · exact h2.symm
          · have := a1 y h2; have := b1 x h1; omega
      subst e
      refine congrArg _ (ih ys a2 b2 fun z => ?_)
      have hz := h z
      simp only [List.mem_cons] at hz
      constructor
      · intro k
        have := a1 z k
        rcases hz.1 (.inr k) with h | h
        · omega
        · exact h
      · intro k
        have := b1 z k
        rcases hz.2 (.inr k) with h | h
        · omega
        · exact h
end Go.Proofs.Ytlkdhmijgpadaaa.V
set_option linter.unusedVariables false
set_option linter.unusedSimpArgs false
set_option maxHeartbeats 2000000
set_option maxRecDepth 20000
namespace Go.Proofs.Ytlkdhmijgpadaaa.V
open Go.RowKit Go.Proofs.Ytlkdhmijgpadaaa.D Go.Proofs.Ytlkdhmijgpadaaa.P
theorem wr_u64 {a : Nat} (h : a < 8) : wr .u64 (a : Int) = (a : Int) := by
  show hid (IntKind.wrap .u64 _) = _
  rw [hid_eq]
  have : ∀ n : Fin 8, IntKind.wrap .u64 ((n : Nat) : Int) = ((n : Nat) : Int) := by decide
  exact this ⟨a, h⟩
theorem wr_i64 {a : Nat} (h : a < 4611686018427387904) : wr .i64 (a : Int) = (a : Int) := w64 (by omega) (by omega)
theorem ofInt_nat (a : Nat) : BitVec.ofInt 64 (a : Int) = BitVec.ofNat 64 a := by simp
theorem orI_nat {a b : Nat} (ha : a < 256) (hb : b < 256) : orI .i64 (a : Int) (b : Int) = ((a ||| b : Nat) : Int) := by
  have hab : a ||| b < 2 ^ 8 := Nat.or_lt_two_pow ha hb
  unfold orI
  rw [hid_eq]
  show wr .i64 (((BitVec.ofInt 64 (a : Int) ||| BitVec.ofInt 64 (b : Int)).toNat : Nat) : Int) = _
  rw [ofInt_nat, ofInt_nat, BitVec.toNat_or, BitVec.toNat_ofNat, BitVec.toNat_ofNat, Nat.mod_eq_of_lt (by omega), Nat.mod_eq_of_lt (by omega), wr_i64 (by omega)]
theorem shl_one {b : Nat} (hb : b < 8) : shlI .i64 1 (wr .u64 (b : Int)) = ((2 ^ b : Nat) : Int) := by
  have h2 : 2 ^ b < 256 := Nat.pow_lt_pow_right (by omega) (by omega : b < 8)
  unfold shlI
  rw [hid_eq, wr_u64 hb]
  show wr .i64 (1 * 2 ^ (min (b : Int).toNat 64)) = _
  rw [Int.toNat_natCast, Nat.min_eq_left (by omega), Int.one_mul, show (2 : Int) ^ b = ((2 ^ b : Nat) : Int) by rw [Int.natCast_pow]; rfl, wr_i64 (by omega)]
theorem bit_test {s a : Nat} (hs : s < 256) (ha : a < 8) : andI .i64 (shrI .i64 (s : Int) (wr .u64 (a : Int))) 1 = 1 ↔ s.testBit a = true := by
  have e1 : shrI .i64 (s : Int) (wr .u64 (a : Int)) = ((s >>> a : Nat) : Int) := by
    unfold shrI
    rw [hid_eq, wr_u64 ha]
    show (s : Int).fdiv (2 ^ (min (a : Int).toNat 64)) = _
    rw [Int.toNat_natCast, Nat.min_eq_left (by omega), Nat.shiftRight_eq_div_pow, show (2 : Int) ^ a = ((2 ^ a : Nat) : Int) by rw [Int.natCast_pow]; rfl, Int.fdiv_eq_ediv_of_nonneg _ (Int.natCast_nonneg _)]
    rfl
  have hlt : s >>> a < 256 := by rw [Nat.shiftRight_eq_div_pow]; exact Nat.lt_of_le_of_lt (Nat.div_le_self _ _) hs
  have e2 : andI .i64 ((s >>> a : Nat) : Int) 1 = (((s >>> a) &&& 1 : Nat) : Int) := by
    unfold andI
    rw [hid_eq]
    show wr .i64 (((BitVec.ofInt 64 ((s >>> a : Nat) : Int) &&& BitVec.ofInt 64 ((1 : Nat) : Int)).toNat : Nat) : Int) = _
    have h1 : s >>> a &&& 1 ≤ 1 := Nat.and_le_right
    rw [ofInt_nat, ofInt_nat, BitVec.toNat_and, BitVec.toNat_ofNat, BitVec.toNat_ofNat, Nat.mod_eq_of_lt (by omega), Nat.mod_eq_of_lt (by omega), wr_i64 (by omega)]
  rw [e1, e2, Nat.testBit_eq_decide_div_mod_eq, Nat.shiftRight_eq_div_pow, Nat.and_one_is_mod, decide_eq_true_iff]
  omega
theorem wr_nn {a : Nat} (ha : a < 8) : ¬ wr .u64 (a : Int) < 0 := by rw [wr_u64 ha]; omega
def elems (s : Nat) : List Int := ((List.range 8).filter fun a => s.testBit a).map fun a : Nat => (a : Int)
theorem elems_mem {s : Nat} {x : Int} : x ∈ elems s ↔ ∃ a : Nat, a < 8 ∧ s.testBit a = true ∧ x = a := by
  simp only [elems, List.mem_map, List.mem_filter, List.mem_range]
  constructor
  · rintro ⟨a, ⟨h1, h2⟩, rfl⟩; exact ⟨a, h1, h2, rfl⟩
  · rintro ⟨a, h1, h2, rfl⟩; exact ⟨a, ⟨h1, h2⟩, rfl⟩
theorem elems_sorted (s : Nat) : (elems s).Pairwise (· < ·) := by
  rw [elems, List.pairwise_map]
  refine List.Pairwise.imp (fun h => ?_) (List.Pairwise.filter _ List.pairwise_lt_range)
  omega
theorem elems_len (s : Nat) : (elems s).length ≤ 8 := by
  rw [elems, List.length_map]
  exact Nat.le_trans (List.length_filter_le _ _) (by simp)
theorem List_ {s : Nat} (hs : s < 256) : spec_l01List.f (s : Int) = some (elems s) := by
  rw [spec_l01List.f_eq]
  have := up 8 (fun i => spec_l01List.l0 (s : Int) (i : Int) (((List.range i).filter fun a => s.testBit a).map fun a : Nat => (a : Int))) (fun i hi => by
    have l1 : (((List.range i).filter fun a => s.testBit a).map fun a : Nat => (a : Int)).length ≤ i := by
      rw [List.length_map]
      exact Nat.le_trans (List.length_filter_le _ _) (by simp)
    have l2 : ∀ x : Int, ([x] : List Int).length = 1 := fun _ => rfl
    have hb := bit_test hs hi
    have hw := wr_nn hi
    rw [List.range_succ, List.filter_append, List.map_append, spec_l01List.l0_eq, wn (j := i) (by omega), l2]
    by_cases h : s.testBit i = true
    · have h1 := hb.2 h
      rw [List.filter_cons, List.filter_nil, if_pos h, List.map_singleton]
      ((with_reducible repeat (first | refine go_pos (by first | assumption | omega | rfl | exact B_pos (by omega)) ?_ | refine go_neg (by first | assumption | omega | decide | exact B_not (by omega)) ?_ | refine go_bind (by first | assumption) ?_ | dsimp only)); first | done | (with_reducible rfl) | simp (disch := omega) only [w64] | (show False; done))
    · have h1 := fun q => h (hb.1 q)
      rw [List.filter_cons, List.filter_nil, if_neg h, List.map_nil, List.append_nil]
      ((with_reducible repeat (first | refine go_pos (by first | assumption | omega | rfl | exact B_pos (by omega)) ?_ | refine go_neg (by first | assumption | omega | decide | exact B_not (by omega)) ?_ | refine go_bind (by first | assumption) ?_ | dsimp only)); first | done | (with_reducible rfl) | simp (disch := omega) only [w64] | (show False; done)))
  simp only [Int.natCast_zero, List.range_zero, List.filter_nil, List.map_nil] at this
  rw [this, spec_l01List.l0_eq]
  (with_reducible repeat (first | refine go_pos (by first | assumption | omega | rfl | exact B_pos (by omega)) ?_ | refine go_neg (by first | assumption | omega | decide | exact B_not (by omega)) ?_ | refine go_bind (by first | assumption) ?_ | dsimp only))
  rfl
end Go.Proofs.Ytlkdhmijgpadaaa.V
set_option linter.unusedVariables false
set_option linter.unusedSimpArgs false
set_option maxHeartbeats 2000000
set_option maxRecDepth 20000
namespace Go.Proofs.Ytlkdhmijgpadaaa.V
open Go.RowKit Go.Proofs.Ytlkdhmijgpadaaa.D Go.Proofs.Ytlkdhmijgpadaaa.P
theorem has_ (xs : List Int) (x : Int) (hl : xs.length ≤ 1000000) : slices_Contains_int64.f xs x = some (B (x ∈ xs)) := by
  rw [contains_ xs x (le_maxLen (by omega)), B_congr]
  constructor
  · rintro ⟨i, i0, i1, rfl⟩; exact rd_mem i0 i1
  · intro h
    obtain ⟨i, hi, rfl⟩ := List.mem_iff_getElem.1 h
    exact ⟨i, by omega, by omega, rd_get hi⟩
structure Gen (g : List (List Int)) (z : Int) (h : List Int) : Prop where
  sorted : h.Pairwise (· < ·)
  mem : ∀ x, x ∈ h ↔ ∃ k : Nat, x = pw g z k
theorem Gen.uniq {g : List (List Int)} {z : Int} {h h' : List Int} (a : Gen g z h) (b : Gen g z h') : h = h' := sorted_unique h h' a.sorted b.sorted fun x => (a.mem x).trans (b.mem x).symm
theorem subgroup_ {g : List (List Int)} (hg : Grp g) {z : Int} (z0 : 0 ≤ z) (z1 : z < g.length) : ∃ h, impl_Group_subgroup.f g [z] = some h ∧ Gen g z h ∧ h.length ≤ 8 := by
  have n8 := hg.n8
  obtain ⟨K, hK⟩ := ord_ hg z0 z1
  have k1 := hK.pos; have kn := hK.le
  have hlen : ∀ i : Nat, ((List.range i).map (pw g z)).length = i := fun i => by simp
  have hrd : ∀ i j : Nat, j < i → rd ((List.range i).map (pw g z)) (j : Int) = pw g z j := fun i j h => by
    rw [rd_get (by rw [hlen]; exact h)]; simp
  have hz1 : (([z] : List Int).length : Int) = 1 := rfl
  have hz2 : rd [z] 0 = z := rfl
  have w01 : wrapI (0 + 1) = 1 := w64 (by omega) (by omega)
  have round : ∀ i : Nat, i < K → (i + 1 < K → impl_Group_subgroup.l0 [z] (i : Int) g ((List.range (i + 1)).map (pw g z)) = impl_Group_subgroup.l0 [z] ((i + 1 : Nat) : Int) g ((List.range (i + 2)).map (pw g z))) ∧ (¬ i + 1 < K → impl_Group_subgroup.l0 [z] (i : Int) g ((List.range (i + 1)).map (pw g z)) = impl_Group_subgroup.l0 [z] ((i + 1 : Nat) : Int) g ((List.range (i + 1)).map (pw g z))) := fun i hi => by
    have l1 := hlen (i + 1)
    have r1 := hrd (i + 1) i (by omega)
    obtain ⟨p0, p1⟩ := pw_in hg z0 z1 i
    have ht := times2 hg p0 p1 z0 z1
    have hc := has_ ((List.range (i + 1)).map (pw g z)) (T g (pw g z i) z) (by omega)
    have hm : T g (pw g z i) z ∈ (List.range (i + 1)).map (pw g z) ↔ ¬ i + 1 < K := by
      rw [List.mem_map]
      constructor
      · rintro ⟨j, hj, e⟩ hlt
        have hj := List.mem_range.1 hj
        have := hK.inj hg z0 z1 (i := j) (j := i + 1) (by omega) hlt (by rw [pw_succ]; exact e)
        omega
      · intro h
        refine ⟨0, List.mem_range.2 (by omega), ?_⟩
        rw [pw_zero, ← pw_succ, show i + 1 = K by omega, hK.zero]
    have l2 : ∀ x : Int, ([x] : List Int).length = 1 := fun _ => rfl
    refine ⟨fun h => ?_, fun h => ?_⟩
    · rw [B_neg fun q => hm.1 q h] at hc
      rw [impl_Group_subgroup.l0_eq, if_pos (by omega), impl_Group_subgroup.l1_eq, hz1, hz2, r1, w01, if_pos (by omega), if_pos (by omega), if_pos (by omega), if_pos (by omega), if_pos (by omega), if_pos (by omega), if_pos (by omega), ht, Option.bind_some, hc, Option.bind_some, if_neg (by decide), l2, if_pos (by omega), impl_Group_subgroup.l1_eq, if_neg (by omega), wn (j := i) (by omega), ← pw_succ]
      congr 1
      rw [List.range_succ (n := i + 1), List.map_append, List.map_singleton]
    · rw [B_pos (hm.2 h)] at hc
      rw [impl_Group_subgroup.l0_eq, if_pos (by omega), impl_Group_subgroup.l1_eq, hz1, hz2, r1, w01]
      (with_reducible repeat (first | refine go_pos (by first | assumption | omega | rfl | exact B_pos (by omega)) ?_ | refine go_neg (by first | assumption | omega | decide | exact B_not (by omega)) ?_ | refine go_bind (by first | assumption) ?_ | dsimp only))
      rw [impl_Group_subgroup.l1_eq, if_neg (by omega), wn (j := i) (by omega)]
  have up1 := up (K - 1) (fun i => impl_Group_subgroup.l0 [z] (i : Int) g ((List.range (i + 1)).map (pw g z))) (fun i hi => (round i (by omega)).1 (by omega))
  have last := (round (K - 1) (by omega)).2 (by omega)
  rw [show K - 1 + 1 = K by omega] at last
  have e1 : (List.range (0 + 1)).map (pw g z) = [0] := rfl
  simp only [Int.natCast_zero] at up1
  rw [e1, show K - 1 + 1 = K by omega, last] at up1
  have hnd : ((List.range K).map (pw g z)).Nodup := by
    rw [List.nodup_iff_pairwise_ne, List.pairwise_map]
    refine List.Pairwise.imp_of_mem (fun {a b} ha hb hlt e => ?_) List.pairwise_lt_range
    have := hK.inj hg z0 z1 (List.mem_range.1 ha) (List.mem_range.1 hb) e
    omega
  obtain ⟨h, s1, s2, s3, s4⟩ := sort_ ((List.range K).map (pw g z)) (by rw [hlen]; omega) hnd
  refine ⟨h, ?_, ⟨s3, fun x => ?_⟩, by rw [s2, hlen]; omega⟩
  · rw [impl_Group_subgroup.f_eq, up1, impl_Group_subgroup.l0_eq, hlen, if_neg (by omega), s1, Option.bind_some]
  · rw [s4, List.mem_map]
    constructor
    · rintro ⟨k, _, rfl⟩; exact ⟨k, rfl⟩
    · rintro ⟨k, rfl⟩
      obtain ⟨j, hj, e⟩ := hK.small k
      exact ⟨j, List.mem_range.2 hj, e.symm⟩
theorem and_one {s a : Nat} (hs : s < 256) (ha : a < 8) : andI .i64 (s : Int) (shlI .i64 1 (wr .u64 (a : Int))) = 0 ↔ ¬ s.testBit a = true := by
  have h2 : 2 ^ a < 256 := Nat.pow_lt_pow_right (by omega) (by omega : a < 8)
  have e2 : andI .i64 (s : Int) ((2 ^ a : Nat) : Int) = ((s &&& 2 ^ a : Nat) : Int) := by
    unfold andI
    rw [hid_eq]
    show wr .i64 (((BitVec.ofInt 64 (s : Int) &&& BitVec.ofInt 64 ((2 ^ a : Nat) : Int)).toNat : Nat) : Int) = _
    have h1 : s &&& 2 ^ a ≤ s := Nat.and_le_left
    rw [ofInt_nat, ofInt_nat, BitVec.toNat_and, BitVec.toNat_ofNat, BitVec.toNat_ofNat, Nat.mod_eq_of_lt (by omega), Nat.mod_eq_of_lt (by omega), wr_i64 (by omega)]
  rw [shl_one ha, e2]
  constructor
  · intro h hb
    have h : s &&& 2 ^ a = 0 := by omega
    have := congrArg (fun n => n.testBit a) h
    simp [hb, Nat.testBit_and, Nat.testBit_two_pow_self] at this
  · intro h
    have : s &&& 2 ^ a = 0 := by
      apply Nat.eq_of_testBit_eq
      intro i
      rw [Nat.testBit_and, Nat.zero_testBit]
      by_cases e : a = i
      · subst e; simp [Bool.eq_false_iff.2 h]
      · rw [Nat.testBit_two_pow_of_ne e, Bool.and_false]
    rw [this]; rfl
theorem or_bit {s a : Nat} (hs : s < 256) (ha : a < 8) : orI .i64 (s : Int) (shlI .i64 1 (wr .u64 (a : Int))) = ((s ||| 2 ^ a : Nat) : Int) ∧ s ||| 2 ^ a < 256 ∧ (∀ b, (s ||| 2 ^ a).testBit b = true ↔ s.testBit b = true ∨ b = a) ∧ (¬ s.testBit a = true → s < s ||| 2 ^ a) := by
  have h2 : 2 ^ a < 256 := Nat.pow_lt_pow_right (by omega) (by omega : a < 8)
  have hb : ∀ b, (s ||| 2 ^ a).testBit b = true ↔ s.testBit b = true ∨ b = a := fun b => by
    rw [Nat.testBit_or, Bool.or_eq_true]
    by_cases e : a = b
    · subst e; simp [Nat.testBit_two_pow_self]
    · rw [Nat.testBit_two_pow_of_ne e]
      constructor
      · rintro (h | h)
        · exact .inl h
        · cases h
      · rintro (h | h)
        · exact .inl h
        · exact absurd h.symm e
  refine ⟨by rw [shl_one ha, orI_nat hs h2], Nat.or_lt_two_pow (n := 8) hs h2, hb, fun h => ?_⟩
  have hle : s ≤ s ||| 2 ^ a := Nat.left_le_or
  rcases Nat.lt_or_ge s (s ||| 2 ^ a) with q | q
  · exact q
  · have e : s ||| 2 ^ a = s := by omega
    exact absurd ((hb a).2 (.inr rfl)) (by rw [e]; exact h)
def Rnd (g : List (List Int)) (z : Int) (s : Nat) (done : Int → Int → Prop) (t : Nat) (m : Bool) : Prop :=
  t < 256 ∧ (∀ b, s.testBit b = true → t.testBit b = true) ∧ (∀ b, t.testBit b = true → ∃ k, (b : Int) = pw g z k) ∧ (m = true → s < t) ∧ (m = false → t = s ∧ ∀ x y : Int, done x y → T g x y ∈ elems s)
theorem Closed_ {g : List (List Int)} (hg : Grp g) {z : Int} (z0 : 0 ≤ z) (z1 : z < g.length) : ∀ (d s : Nat), s + d = 256 → 0 < d → (∀ b, s.testBit b = true → ∃ k, (b : Int) = pw g z k) → (0 : Int) ∈ elems s → z ∈ elems s →
    ∃ t : Nat, spec_l01Closed.l0 (s : Int) true g = some (t : Int) ∧ t < 256 ∧ ∀ x, x ∈ elems t ↔ ∃ k : Nat, x = pw g z k := by
  have n8 := hg.n8
  intro d
  induction d using Nat.strongRecOn with
  | _ d ih =>
    intro s hs hd hP h0 hz
    have hs8 : s < 256 := by omega
    have hin : ∀ x ∈ elems s, ∃ k, x = pw g z k := fun x hx => by
      obtain ⟨a, a1, a2, rfl⟩ := elems_mem.1 hx
      exact hP a a2
    have hpr : ∀ j : Nat, j < (elems s).length → ∃ k, rd (elems s) (j : Int) = pw g z k := fun j hj => hin _ (rd_mem (by omega) (by omega))
    have le8 := elems_len s
    have inner : ∀ (n k : Nat) (i : Nat) (t : Nat) (m : Bool), k + n = (elems s).length → i < (elems s).length →
        Rnd g z s (fun x y => (∃ i' j' : Nat, i' < i ∧ j' < (elems s).length ∧ x = rd (elems s) (i' : Int) ∧ y = rd (elems s) (j' : Int)) ∨ ∃ j' : Nat, j' < k ∧ x = rd (elems s) (i : Int) ∧ y = rd (elems s) (j' : Int)) t m →
        ∃ (t' : Nat) (m' : Bool), spec_l01Closed.l2 (t : Int) m (i : Int) (k : Int) g (elems s) = spec_l01Closed.l1 (t' : Int) m' ((i + 1 : Nat) : Int) g (elems s) ∧ Rnd g z s (fun x y => ∃ i' j' : Nat, i' < i + 1 ∧ j' < (elems s).length ∧ x = rd (elems s) (i' : Int) ∧ y = rd (elems s) (j' : Int)) t' m' := by
      intro n
      induction n with
      | zero =>
        intro k i t m hk hi hR
        refine ⟨t, m, ?_, hR.1, hR.2.1, hR.2.2.1, hR.2.2.2.1, fun hm => ⟨(hR.2.2.2.2 hm).1, fun x y ⟨i', j', a, b, c, e⟩ => (hR.2.2.2.2 hm).2 x y ?_⟩⟩
        · rw [spec_l01Closed.l2_eq, if_neg (by omega), wn (j := i) (by omega)]
        · by_cases q : i' = i
          · subst q; exact .inr ⟨j', by omega, c, e⟩
          · exact .inl ⟨i', j', by omega, b, c, e⟩
      | succ n ihn =>
        intro k i t m hk hi hR
        obtain ⟨t8, tsub, tP, tm, tf⟩ := hR
        obtain ⟨ki, hki⟩ := hpr i hi
        obtain ⟨kk, hkk⟩ := hpr k (by omega)
        obtain ⟨a0, a1⟩ := pw_in hg z0 z1 ki
        obtain ⟨b0, b1⟩ := pw_in hg z0 z1 kk
        rw [← hki] at a0 a1
        rw [← hkk] at b0 b1
        have hTk : T g (rd (elems s) (i : Int)) (rd (elems s) (k : Int)) = pw g z (ki + kk) := by rw [hki, hkk, pw_add hg z0 z1]
        obtain ⟨c0, c1⟩ := hg.ent _ _ a0 a1 b0 b1
        obtain ⟨p, hp⟩ := Int.eq_ofNat_of_zero_le c0
        have p8 : p < 8 := by omega
        have hrow := hg.row _ a0 a1
        have hnn := wr_nn p8
        rw [← hp] at hnn
        by_cases hb : t.testBit p = true
        · have ha := fun q => (and_one t8 p8).1 q hb
          rw [← hp] at ha
          obtain ⟨t', m', e, hR'⟩ := ihn (k + 1) i t m (by omega) hi ⟨t8, tsub, tP, tm, fun hm => ⟨(tf hm).1, fun x y hd => by
            rcases hd with hd | ⟨j', j1, j2, j3⟩
            · exact (tf hm).2 x y (.inl hd)
            · by_cases q : j' = k
              · subst q
                rw [j2, j3, hp, elems_mem]
                exact ⟨p, p8, by rw [← (tf hm).1]; exact hb, rfl⟩
              · exact (tf hm).2 x y (.inr ⟨j', by omega, j2, j3⟩)⟩⟩
          refine ⟨t', m', ?_, hR'⟩
          rw [spec_l01Closed.l2_eq, wn (j := k) (by omega)]
          (with_reducible repeat (first | refine go_pos (by first | assumption | omega | rfl | exact B_pos (by omega)) ?_ | refine go_neg (by first | assumption | omega | decide | exact B_not (by omega)) ?_ | refine go_bind (by first | assumption) ?_ | dsimp only))
          exact e
        · obtain ⟨o1, o2, o3, o4⟩ := or_bit t8 p8
          have ha := (and_one t8 p8).2 hb
          rw [← hp] at ha o1
          have hst : s ≤ t := by
            cases m with
            | true => exact Nat.le_of_lt (tm rfl)
            | false => exact Nat.le_of_eq (tf rfl).1.symm
          obtain ⟨t', m', e, hR'⟩ := ihn (k + 1) i (t ||| 2 ^ p) true (by omega) hi ⟨o2, fun b h => (o3 b).2 (.inl (tsub b h)), fun b h => by
            rcases (o3 b).1 h with h | rfl
            · exact tP b h
            · exact ⟨ki + kk, by rw [← hTk, hp]⟩, fun _ => Nat.lt_of_le_of_lt hst (o4 hb), fun h => by cases h⟩
          refine ⟨t', m', ?_, hR'⟩
          rw [spec_l01Closed.l2_eq, wn (j := k) (by omega), o1]
          (with_reducible repeat (first | refine go_pos (by first | assumption | omega | rfl | exact B_pos (by omega)) ?_ | refine go_neg (by first | assumption | omega | decide | exact B_not (by omega)) ?_ | refine go_bind (by first | assumption) ?_ | dsimp only))
          exact e
    have outer : ∀ (n i : Nat) (t : Nat) (m : Bool), i + n = (elems s).length → Rnd g z s (fun x y => ∃ i' j' : Nat, i' < i ∧ j' < (elems s).length ∧ x = rd (elems s) (i' : Int) ∧ y = rd (elems s) (j' : Int)) t m →
        ∃ (t' : Nat) (m' : Bool), spec_l01Closed.l1 (t : Int) m (i : Int) g (elems s) = spec_l01Closed.l0 (t' : Int) m' g ∧ Rnd g z s (fun x y => x ∈ elems s ∧ y ∈ elems s) t' m' := by
      intro n
      induction n with
      | zero =>
        intro i t m hi hR
        refine ⟨t, m, ?_, hR.1, hR.2.1, hR.2.2.1, hR.2.2.2.1, fun hm => ⟨(hR.2.2.2.2 hm).1, fun x y ⟨hx, hy⟩ => (hR.2.2.2.2 hm).2 x y ?_⟩⟩
        · rw [spec_l01Closed.l1_eq, if_neg (by omega)]
        · obtain ⟨i', hi', rfl⟩ := List.mem_iff_getElem.1 hx
          obtain ⟨j', hj', rfl⟩ := List.mem_iff_getElem.1 hy
          exact ⟨i', j', by omega, hj', (rd_get hi').symm, (rd_get hj').symm⟩
      | succ n ihn =>
        intro i t m hi hR
        obtain ⟨t1, m1, e1, hR1⟩ := inner (elems s).length 0 i t m (by omega) (by omega) ⟨hR.1, hR.2.1, hR.2.2.1, hR.2.2.2.1, fun hm => ⟨(hR.2.2.2.2 hm).1, fun x y hd => (hR.2.2.2.2 hm).2 x y (by
          rcases hd with hd | ⟨j', j1, _⟩
          · exact hd
          · omega)⟩⟩
        obtain ⟨t2, m2, e2, hR2⟩ := ihn (i + 1) t1 m1 (by omega) hR1
        refine ⟨t2, m2, ?_, hR2⟩
        rw [spec_l01Closed.l1_eq, if_pos (by omega)]
        exact e1.trans e2
    obtain ⟨t, m, e, t8, tsub, tP, tm, tf⟩ := outer (elems s).length 0 s false (by omega) ⟨hs8, fun b h => h, hP, fun h => Bool.noConfusion h, fun _ => ⟨rfl, fun x y ⟨i', j', a, _⟩ => by omega⟩⟩
    have hl := List_ hs8
    have estep : spec_l01Closed.l0 (s : Int) true g = spec_l01Closed.l0 (t : Int) m g := by
      rw [spec_l01Closed.l0_eq, if_pos rfl, hl, Option.bind_some]
      exact e
    have sub : ∀ x, x ∈ elems s → x ∈ elems t := fun x hx => by
      obtain ⟨a, a1, a2, rfl⟩ := elems_mem.1 hx
      exact elems_mem.2 ⟨a, a1, tsub a a2, rfl⟩
    cases m with
    | true =>
      have hlt := tm rfl
      obtain ⟨t', e', f'⟩ := ih (256 - t) (by omega) t (by omega) (by omega) tP (sub 0 h0) (sub z hz)
      exact ⟨t', by rw [estep]; exact e', f'⟩
    | false =>
      obtain ⟨rfl, hc⟩ := tf rfl
      refine ⟨t, by rw [estep, spec_l01Closed.l0_eq, if_neg (by decide)], t8, fun x => ⟨hin x, ?_⟩⟩
      rintro ⟨k, rfl⟩
      induction k with
      | zero => exact h0
      | succ k ihk => rw [pw_succ]; exact hc _ _ ⟨ihk, hz⟩
theorem Made_ {g : List (List Int)} (hg : Grp g) {z : Int} (z0 : 0 ≤ z) (z1 : z < g.length) : ∃ h, spec_l06Made.f g z = some h ∧ Gen g z h := by
  have n8 := hg.n8
  obtain ⟨p, rfl⟩ := Int.eq_ofNat_of_zero_le z0
  have p8 : p < 8 := by omega
  have hnn := wr_nn p8
  obtain ⟨o1, o2, o3, _⟩ := or_bit (s := 1) (by omega) p8
  have o1' : orI .i64 1 (shlI .i64 1 (wr .u64 (p : Int))) = ((1 ||| 2 ^ p : Nat) : Int) := o1
  have h1b : ∀ b, (1 : Nat).testBit b = true ↔ b = 0 := fun b => by
    show (2 ^ 0).testBit b = true ↔ b = 0
    by_cases e : 0 = b
    · subst e; simp
    · rw [Nat.testBit_two_pow_of_ne e]
      exact ⟨fun h => (by cases h), fun h => absurd h.symm e⟩
  have oo : orI .i64 ((1 ||| 2 ^ p : Nat) : Int) 1 = ((1 ||| 2 ^ p : Nat) : Int) := by
    have := orI_nat (a := 1 ||| 2 ^ p) (b := 1) o2 (by omega)
    rw [show (((1 : Nat)) : Int) = 1 from rfl] at this
    rw [this]
    congr 1
    rw [Nat.or_comm 1 (2 ^ p), Nat.or_assoc, Nat.or_self]
  have m0 : (0 : Int) ∈ elems (1 ||| 2 ^ p) := elems_mem.2 ⟨0, by omega, (o3 0).2 (.inl ((h1b 0).2 rfl)), rfl⟩
  have mz : (p : Int) ∈ elems (1 ||| 2 ^ p) := elems_mem.2 ⟨p, p8, (o3 p).2 (.inr rfl), rfl⟩
  obtain ⟨t, e, t8, ht⟩ := Closed_ hg z0 z1 (256 - (1 ||| 2 ^ p)) (1 ||| 2 ^ p) (by omega) (by omega) (fun b h => by
    rcases (o3 b).1 h with h | rfl
    · have := (h1b b).1 h; subst this; exact ⟨0, rfl⟩
    · exact ⟨1, (pw_one hg z0 z1).symm⟩) m0 mz
  have hcl : spec_l01Closed.f g ((1 ||| 2 ^ p : Nat) : Int) = some (t : Int) := by rw [spec_l01Closed.f_eq, oo]; exact e
  refine ⟨elems t, ?_, elems_sorted t, ht⟩
  rw [spec_l06Made.f_eq, if_neg hnn, o1', hcl, Option.bind_some, List_ t8]
  rfl
end Go.Proofs.Ytlkdhmijgpadaaa.V
set_option linter.unusedVariables false
set_option linter.unusedSimpArgs false
set_option maxHeartbeats 2000000
set_option maxRecDepth 20000
namespace Go.Proofs.Ytlkdhmijgpadaaa.V
open Go.RowKit Go.Proofs.Ytlkdhmijgpadaaa.D Go.Proofs.Ytlkdhmijgpadaaa.P
theorem bit_val {s a : Nat} (hs : s < 256) (ha : a < 8) : andI .i64 (shrI .i64 (s : Int) (wr .u64 (a : Int))) 1 = 0 ↔ ¬ s.testBit a = true := by
  have e1 : shrI .i64 (s : Int) (wr .u64 (a : Int)) = ((s >>> a : Nat) : Int) := by
    unfold shrI
    rw [hid_eq, wr_u64 ha]
    show (s : Int).fdiv (2 ^ (min (a : Int).toNat 64)) = _
    rw [Int.toNat_natCast, Nat.min_eq_left (by omega), Nat.shiftRight_eq_div_pow, show (2 : Int) ^ a = ((2 ^ a : Nat) : Int) by rw [Int.natCast_pow]; rfl, Int.fdiv_eq_ediv_of_nonneg _ (Int.natCast_nonneg _)]
    rfl
  have hlt : s >>> a < 256 := by rw [Nat.shiftRight_eq_div_pow]; exact Nat.lt_of_le_of_lt (Nat.div_le_self _ _) hs
  have e2 : andI .i64 ((s >>> a : Nat) : Int) 1 = (((s >>> a) &&& 1 : Nat) : Int) := by
    unfold andI
    rw [hid_eq]
    show wr .i64 (((BitVec.ofInt 64 ((s >>> a : Nat) : Int) &&& BitVec.ofInt 64 ((1 : Nat) : Int)).toNat : Nat) : Int) = _
    have h1 : s >>> a &&& 1 ≤ 1 := Nat.and_le_right
    rw [ofInt_nat, ofInt_nat, BitVec.toNat_and, BitVec.toNat_ofNat, BitVec.toNat_ofNat, Nat.mod_eq_of_lt (by omega), Nat.mod_eq_of_lt (by omega), wr_i64 (by omega)]
  rw [e1, e2, Nat.testBit_eq_decide_div_mod_eq, Nat.shiftRight_eq_div_pow, Nat.and_one_is_mod, decide_eq_true_iff]
  omega
theorem Bits_ {xs : List Int} (hx : AllIn 8 xs) (hl : xs.length ≤ 1000) : ∃ s : Nat, spec_l01Bits.f xs = some (s : Int) ∧ s < 256 ∧ ∀ b : Nat, s.testBit b = true ↔ (b : Int) ∈ xs := by
  have main : ∀ (n j s : Nat), j + n = xs.length → s < 256 → (∀ b : Nat, s.testBit b = true ↔ (b : Int) ∈ xs.take j) → ∃ t : Nat, spec_l01Bits.l0 xs (s : Int) (j : Int) = some (t : Int) ∧ t < 256 ∧ ∀ b : Nat, t.testBit b = true ↔ (b : Int) ∈ xs := by
    intro n
    induction n with
    | zero =>
      intro j s hj hs hb
      refine ⟨s, ?_, hs, fun b => by rw [hb b, List.take_of_length_le (by omega)]⟩
      rw [spec_l01Bits.l0_eq, if_neg (by omega)]
    | succ n ih =>
      intro j s hj hs hb
      obtain ⟨a0, a1⟩ := hx (j : Int) (by omega) (by omega)
      obtain ⟨p, hp⟩ := Int.eq_ofNat_of_zero_le a0
      have p8 : p < 8 := by omega
      have hnn := wr_nn p8
      obtain ⟨o1, o2, o3, _⟩ := or_bit hs p8
      rw [← hp] at hnn o1
      obtain ⟨t, e, f⟩ := ih (j + 1) (s ||| 2 ^ p) (by omega) o2 (fun b => by
        rw [o3 b, hb b, take_rd (by omega), List.mem_append, List.mem_singleton, hp]
        constructor
        · rintro (h | h)
          · exact .inl h
          · exact .inr (by rw [h])
        · rintro (h | h)
          · exact .inl h
          · exact .inr (by omega))
      refine ⟨t, ?_, f⟩
      rw [spec_l01Bits.l0_eq, wn (j := j) (by omega), o1]
      (with_reducible repeat (first | refine go_pos (by first | assumption | omega | rfl | exact B_pos (by omega)) ?_ | refine go_neg (by first | assumption | omega | decide | exact B_not (by omega)) ?_ | refine go_bind (by first | assumption) ?_ | dsimp only))
      exact e
  obtain ⟨t, e, f⟩ := main xs.length 0 0 (by omega) (by omega) (fun b => by simp)
  exact ⟨t, by rw [spec_l01Bits.f_eq]; exact e, f⟩
noncomputable def cj (g : List (List Int)) (x y : Int) : Int := (impl_Group_conjugate.f g x y).getD 0
theorem cj_ {g : List (List Int)} (hg : Grp g) {x y : Int} (x0 : 0 ≤ x) (x1 : x < g.length) (y0 : 0 ≤ y) (y1 : y < g.length) :
    (0 ≤ cj g x y ∧ cj g x y < g.length) ∧ impl_Group_conjugate.f g x y = some (cj g x y) ∧ spec_l01Conjugate.f g y x = some (cj g x y) := by
  obtain ⟨C, hC⟩ := conj_is hg x0 x1
  obtain ⟨h1, h2, h3⟩ := hC y y0 y1
  have : cj g x y = C y := by unfold cj; rw [h2]; rfl
  rw [this]
  exact ⟨h1, h2, h3⟩
def Norm (g : List (List Int)) (h : List Int) : Prop := ∀ x : Int, 0 ≤ x → x < g.length → ∀ y ∈ h, cj g x y ∈ h
theorem isNormal_ {g : List (List Int)} (hg : Grp g) {h : List Int} (ha : AllIn g.length h) (hl : h.length ≤ 8) : impl_Group_isNormal.f g h = some (B (Norm g h)) := by
  have n8 := hg.n8
  rw [impl_Group_isNormal.f_eq]
  rw [B_congr (show Norm g h ↔ ∀ i : Int, 0 ≤ i → i < h.length → ∀ x : Int, 0 ≤ x → x < g.length → cj g x (rd h i) ∈ h from ⟨fun k i i0 i1 x x0 x1 => k x x0 x1 _ (rd_mem i0 i1), fun k x x0 x1 y hy => by
    obtain ⟨i, hi, rfl⟩ := List.mem_iff_getElem.1 hy
    have := k (i : Int) (by omega) (by omega) x x0 x1
    rwa [rd_get hi] at this⟩)]
  refine scanT h.length (fun i => impl_Group_isNormal.l0 h h (h.length : Int) i g) (fun i => ∀ x : Int, 0 ≤ x → x < g.length → cj g x (rd h i) ∈ h) (fun i i0 i1 _ => ?_) (fun _ => by rw [impl_Group_isNormal.l0_eq]; ((with_reducible repeat (first | refine go_pos (by first | assumption | omega | rfl | exact B_pos (by omega)) ?_ | refine go_neg (by first | assumption | omega | decide | exact B_not (by omega)) ?_ | refine go_bind (by first | assumption) ?_ | dsimp only)); first | done | (with_reducible rfl) | simp (disch := omega) only [w64] | (show False; done)))
  obtain ⟨a0, a1⟩ := ha i i0 i1
  have inner := scanI g.length (fun x => impl_Group_isNormal.l1 h (rd h i) h (h.length : Int) i (g.length : Int) x g) (fun x => cj g x (rd h i) ∈ h) (some false) (impl_Group_isNormal.l0 h h (h.length : Int) (i + 1) g) (fun x x0 x1 _ => by
    obtain ⟨_, e1, _⟩ := cj_ hg x0 x1 a0 a1
    have hc := has_ h (cj g x (rd h i)) (by omega)
    rw [impl_Group_isNormal.l1_eq, if_pos x1, e1, Option.bind_some, hc, Option.bind_some, w64 (x := x + 1) (by omega) (by omega)]
    exact ⟨fun k => if_pos (B_pos k), fun k => if_neg (by rw [B_neg k]; decide)⟩) (fun _ => by rw [impl_Group_isNormal.l1_eq, if_neg (by omega), w64 (x := i + 1) (by omega) (by omega)])
  refine ⟨fun k => ?_, fun k => ?_⟩ <;> rw [impl_Group_isNormal.l0_eq, impl_order.f_eq, if_pos i1, if_pos i0, if_pos i1, Option.bind_some]
  · exact inner.1 k
  · exact inner.2 k
theorem Normal_ {g : List (List Int)} (hg : Grp g) {h : List Int} (ha : AllIn g.length h) (hl : h.length ≤ 8) : spec_l01Normal.f g h = some (B (Norm g h)) := by
  have n8 := hg.n8
  obtain ⟨s, s1, s2, s3⟩ := Bits_ (xs := h) (fun i i0 i1 => by obtain ⟨a, b⟩ := ha i i0 i1; exact ⟨a, by omega⟩) (by omega)
  rw [spec_l01Normal.f_eq, s1, Option.bind_some]
  rw [B_congr (show Norm g h ↔ ∀ x : Int, 0 ≤ x → x < g.length → ∀ i : Int, 0 ≤ i → i < h.length → cj g x (rd h i) ∈ h from ⟨fun k x x0 x1 i i0 i1 => k x x0 x1 _ (rd_mem i0 i1), fun k x x0 x1 y hy => by
    obtain ⟨i, hi, rfl⟩ := List.mem_iff_getElem.1 hy
    have := k x x0 x1 (i : Int) (by omega) (by omega)
    rwa [rd_get hi] at this⟩)]
  refine scanT g.length (fun x => spec_l01Normal.l0 h (s : Int) x g) (fun x => ∀ i : Int, 0 ≤ i → i < h.length → cj g x (rd h i) ∈ h) (fun x x0 x1 _ => ?_) (fun _ => by rw [spec_l01Normal.l0_eq, spec_l01N.f_eq, Option.bind_some, if_neg (by omega)])
  have inner := scanI h.length (fun i => spec_l01Normal.l1 h (s : Int) x i g) (fun i => cj g x (rd h i) ∈ h) (some false) (spec_l01Normal.l0 h (s : Int) (x + 1) g) (fun i i0 i1 _ => by
    obtain ⟨a0, a1⟩ := ha i i0 i1
    obtain ⟨⟨c0, c1⟩, _, e2⟩ := cj_ hg x0 x1 a0 a1
    obtain ⟨p, hp⟩ := Int.eq_ofNat_of_zero_le c0
    have p8 : p < 8 := by omega
    have hnn := wr_nn p8
    have hbv := bit_val s2 p8
    have hmem := s3 p
    rw [← hp] at hnn hbv hmem
    rw [spec_l01Normal.l1_eq, if_pos i1, if_pos i0, if_pos i1, e2, Option.bind_some, if_neg hnn, w64 (x := i + 1) (by omega) (by omega)]
    exact ⟨fun k => if_neg fun q => hbv.1 q (hmem.2 k), fun k => if_pos (hbv.2 fun q => k (hmem.1 q))⟩) (fun _ => by rw [spec_l01Normal.l1_eq, if_neg (by omega), w64 (x := x + 1) (by omega) (by omega)])
  refine ⟨fun k => ?_, fun k => ?_⟩ <;> rw [spec_l01Normal.l0_eq, spec_l01N.f_eq, Option.bind_some, if_pos x1]
  · exact inner.1 k
  · exact inner.2 k
end Go.Proofs.Ytlkdhmijgpadaaa.V
set_option linter.unusedVariables false
set_option linter.unusedSimpArgs false
set_option maxHeartbeats 2000000
set_option maxRecDepth 20000
namespace Go.Proofs.Ytlkdhmijgpadaaa.V
open Go.RowKit Go.Proofs.Ytlkdhmijgpadaaa.D Go.Proofs.Ytlkdhmijgpadaaa.P
theorem mul64_ {n : Nat} (hn : n ≤ 8) : bits_Mul64.f 1 (n : Int) = some (0, (n : Int)) := by
  rw [bits_Mul64.f_eq]
  have h : n = 0 ∨ n = 1 ∨ n = 2 ∨ n = 3 ∨ n = 4 ∨ n = 5 ∨ n = 6 ∨ n = 7 ∨ n = 8 := by omega
  rcases h with rfl | rfl | rfl | rfl | rfl | rfl | rfl | rfl | rfl <;> (simp only [shrI, andI, wr, hid_eq]; decide)
theorem wr_u8 {n : Nat} (hn : n ≤ 8) : wr .u64 (n : Int) = (n : Int) := by
  have h : n = 0 ∨ n = 1 ∨ n = 2 ∨ n = 3 ∨ n = 4 ∨ n = 5 ∨ n = 6 ∨ n = 7 ∨ n = 8 := by omega
  rcases h with rfl | rfl | rfl | rfl | rfl | rfl | rfl | rfl | rfl <;> (simp only [wr, hid_eq]; decide)
theorem repeat_go {a : Int} {n : Nat} (hn : n ≤ 8) (n0 : 0 < n) : ∀ (d c : Nat), c + d = n → 0 < c → slices_Repeat_int64.l0 (c : Int) (List.replicate c a ++ List.replicate (n - c) 0) = some (List.replicate n a) := by
  intro d
  induction d using Nat.strongRecOn with
  | _ d ih =>
    intro c hc c0
    have hl : (List.replicate c a ++ List.replicate (n - c) (0 : Int)).length = n := by rw [List.length_append, List.length_replicate, List.length_replicate]; omega
    rw [slices_Repeat_int64.l0_eq, hl]
    by_cases h : c < n
    · have e1 : (List.replicate c a ++ List.replicate (n - c) (0 : Int)).take ((c : Int).toNat) = List.replicate c a := by
        rw [Int.toNat_natCast, List.take_append_of_le_length (by rw [List.length_replicate]; omega), List.take_of_length_le (by rw [List.length_replicate]; omega)]
      have e2 : List.take (n - (c : Int).toNat) (List.replicate c a) = List.replicate (min (n - c) c) a := by rw [Int.toNat_natCast, List.take_replicate]
      have e3 : List.drop ((c : Int).toNat + min (n - c) c) (List.replicate c a ++ List.replicate (n - c) (0 : Int)) = List.replicate (n - (c + min (n - c) c)) 0 := by
        rw [Int.toNat_natCast, List.drop_append, List.length_replicate, List.drop_of_length_le (by rw [List.length_replicate]; omega), List.nil_append, List.drop_replicate]
        congr 1
        omega
      have i1 := ih (d - min (n - c) c) (by omega) (c + min (n - c) c) (by omega) (by omega)
      have e4 : List.replicate c a ++ List.replicate (min (n - c) c) a = List.replicate (c + min (n - c) c) a := List.replicate_append_replicate
      rw [if_pos (by omega), if_pos (by omega), if_pos (by omega), if_pos (by omega), if_pos (by omega), if_pos (by omega), if_pos (by omega), if_pos (by omega), e1, e2, List.length_replicate, e3, e4, w64 (by omega) (by omega), show (c : Int) + ((min (n - c) c : Nat) : Int) = ((c + min (n - c) c : Nat) : Int) by omega]
      exact i1
    · obtain rfl : c = n := by omega
      rw [if_neg (by omega), Nat.sub_self, List.replicate_zero, List.append_nil]
theorem Repeat_ {a : Int} {n : Nat} (hn : n ≤ 8) (n0 : 0 < n) : slices_Repeat_int64.f [a] (n : Int) = some (List.replicate n a) := by
  have hz1 : (([a] : List Int).length : Int) = ((1 : Nat) : Int) := rfl
  have hm := mul64_ hn
  have wn' : wrapI (n : Int) = (n : Int) := w64 (by omega) (by omega)
  have g0 := repeat_go (a := a) hn n0 (n - 1) 1 (by omega) (by omega)
  obtain ⟨k, rfl⟩ : ∃ k, n = k + 1 := ⟨n - 1, by omega⟩
  have e1 : List.take 0 (List.replicate (k + 1) (0 : Int)) ++ List.take ((List.replicate (k + 1) (0 : Int)).length - 0) [a] ++ List.drop (0 + (List.take ((List.replicate (k + 1) (0 : Int)).length - 0) [a]).length) (List.replicate (k + 1) (0 : Int)) = List.replicate 1 a ++ List.replicate (k + 1 - 1) 0 := by
    rw [List.length_replicate]
    simp [List.replicate_succ]
  have e2 : (List.take ((List.replicate (k + 1) (0 : Int)).length - 0) [a]).length = 1 := by
    rw [List.length_replicate]
    simp
  have hl : (List.replicate (k + 1) (0 : Int)).length = k + 1 := List.length_replicate
  rw [slices_Repeat_int64.f_eq, if_neg (by omega), hz1, wr_u8 (n := 1) (by omega), wr_u8 hn, bits_Mul.f_eq, show (((1 : Nat) : Int)) = 1 from rfl, hm, Option.bind_some, Option.bind_some]
  dsimp only
  rw [if_neg (by omega), if_neg (by omega), wn', if_pos rfl, if_pos (by omega), Int.toNat_natCast, if_pos (by omega), if_pos (by rw [hl]; omega), e1, e2]
  exact g0
end Go.Proofs.Ytlkdhmijgpadaaa.V
set_option linter.unusedVariables false
set_option linter.unusedSimpArgs false
set_option maxHeartbeats 4000000
set_option maxRecDepth 20000
namespace Go.Proofs.Ytlkdhmijgpadaaa.V
open Go.RowKit Go.Proofs.Ytlkdhmijgpadaaa.D Go.Proofs.Ytlkdhmijgpadaaa.P
structure SubG (g : List (List Int)) (h : List Int) : Prop where
  inr : AllIn g.length h
  len : h.length ≤ 8
  zero : (0 : Int) ∈ h
  mul : ∀ x ∈ h, ∀ y ∈ h, T g x y ∈ h
  inv : ∀ x ∈ h, ∃ y ∈ h, T g x y = 0
theorem SubG.rng {g : List (List Int)} {h : List Int} (hs : SubG g h) {x : Int} (hx : x ∈ h) : 0 ≤ x ∧ x < g.length := hs.inr.mem hx
def Cos (g : List (List Int)) (h : List Int) (a : Int) (k : Nat) (x : Int) : Prop := ∃ j : Nat, j < k ∧ x = T g a (rd h (j : Int))
theorem rd_set_same' {t : List Int} {j : Nat} {x : Int} (h : j < t.length) : rd (t.set j x) (j : Int) = x := by simp [rd, List.getD_eq_getElem?_getD, h]
theorem rd_set_ne' {t : List Int} {i j : Nat} {x : Int} (h : i ≠ j) : rd (t.set j x) (i : Int) = rd t (i : Int) := by simp [rd, List.getD_eq_getElem?_getD, List.getElem?_set, Ne.symm h]
theorem cosI {g : List (List Int)} (hg : Grp g) {h : List Int} (hs : SubG g h) {a : Int} (a0 : 0 ≤ a) (a1 : a < g.length) {F N0 : List Int} (hF : F.length ≤ 8) (hN0 : N0.length = g.length) :
    ∀ (m j : Nat) (N : List Int), j + m = h.length → N.length = g.length → (∀ x : Int, 0 ≤ x → x < g.length → (Cos g h a j x → rd N x = F.length) ∧ (¬ Cos g h a j x → rd N x = rd N0 x)) →
    ∃ N', impl_Group_cosets.l1 h a (g.length : Int) a h (h.length : Int) (j : Int) g F N = impl_Group_cosets.l0 h (g.length : Int) (a + 1) g (F ++ [a]) N' ∧ N'.length = g.length ∧ ∀ x : Int, 0 ≤ x → x < g.length → (Cos g h a h.length x → rd N' x = F.length) ∧ (¬ Cos g h a h.length x → rd N' x = rd N0 x) := by
  have n8 := hg.n8; have hl := hs.len
  intro m
  induction m with
  | zero =>
    intro j N hj hN hx
    have l2 : ∀ x : Int, ([x] : List Int).length = 1 := fun _ => rfl
    obtain rfl : j = h.length := by omega
    refine ⟨N, ?_, hN, hx⟩
    rw [impl_Group_cosets.l1_eq, if_neg (by omega), l2, if_pos (by omega), w64 (x := a + 1) (by omega) (by omega)]
  | succ m ih =>
    intro j N hj hN hx
    obtain ⟨b0, b1⟩ := hs.inr (j : Int) (by omega) (by omega)
    have ht := times2 hg a0 a1 b0 b1
    obtain ⟨c0, c1⟩ := hg.ent _ _ a0 a1 b0 b1
    obtain ⟨p, hp⟩ := Int.eq_ofNat_of_zero_le c0
    obtain ⟨N', e, f⟩ := ih (j + 1) (N.set p F.length) (by omega) (by rw [List.length_set]; exact hN) (fun x x0 x1 => by
      obtain ⟨q, rfl⟩ := Int.eq_ofNat_of_zero_le x0
      by_cases hq : q = p
      · subst hq
        rw [rd_set_same' (by omega)]
        exact ⟨fun _ => rfl, fun k => absurd ⟨j, by omega, hp.symm⟩ k⟩
      · rw [rd_set_ne' hq]
        obtain ⟨k1, k2⟩ := hx (q : Int) x0 x1
        refine ⟨fun ⟨j', hj', e⟩ => ?_, fun k => k2 fun ⟨j', hj', e⟩ => k ⟨j', by omega, e⟩⟩
        by_cases e2 : j' = j
        · subst e2; rw [hp] at e; exact absurd (by omega) hq
        · exact k1 ⟨j', by omega, e⟩)
    refine ⟨N', ?_, f⟩
    have hp0 : (0 : Int) ≤ (p : Int) := by omega
    have hp1 : (p : Int) < (N.length : Int) := by omega
    rw [impl_Group_cosets.l1_eq, if_pos (by omega), if_pos (by omega), if_pos (by omega), ht, Option.bind_some, hp, if_pos hp0, if_pos hp1, if_pos hp0, if_pos hp1, Int.toNat_natCast, wn (j := j) (by omega)]
    exact e
theorem cosS {g : List (List Int)} (hg : Grp g) {h : List Int} (hs : SubG g h) {a : Int} (a0 : 0 ≤ a) (a1 : a < g.length) {F O0 : List Int} {s0 : Nat} (hF : F.length ≤ 8) (hO0 : O0.length = g.length) :
    ∀ (m j : Nat) (O : List Int) (s : Nat), j + m = h.length → O.length = g.length → s < 256 → (∀ x : Nat, (x : Int) < g.length → (Cos g h a j (x : Int) → rd O (x : Int) = F.length ∧ s.testBit x = true) ∧ (¬ Cos g h a j (x : Int) → rd O (x : Int) = rd O0 (x : Int) ∧ (s.testBit x = true ↔ s0.testBit x = true))) →
    ∃ (O' : List Int) (s' : Nat), spec_l01Cosets.l1 h (s : Int) a (j : Int) g O F = spec_l01Cosets.l0 h (s' : Int) (a + 1) g O' (F ++ [a]) ∧ O'.length = g.length ∧ s' < 256 ∧ ∀ x : Nat, (x : Int) < g.length → (Cos g h a h.length (x : Int) → rd O' (x : Int) = F.length ∧ s'.testBit x = true) ∧ (¬ Cos g h a h.length (x : Int) → rd O' (x : Int) = rd O0 (x : Int) ∧ (s'.testBit x = true ↔ s0.testBit x = true)) := by
  have n8 := hg.n8; have hl := hs.len
  intro m
  induction m with
  | zero =>
    intro j O s hj hO h8 hx
    have l2 : ∀ x : Int, ([x] : List Int).length = 1 := fun _ => rfl
    obtain rfl : j = h.length := by omega
    refine ⟨O, s, ?_, hO, h8, hx⟩
    rw [spec_l01Cosets.l1_eq, if_neg (by omega), l2, if_pos (by omega), w64 (x := a + 1) (by omega) (by omega)]
  | succ m ih =>
    intro j O s hj hO h8 hx
    obtain ⟨b0, b1⟩ := hs.inr (j : Int) (by omega) (by omega)
    have hrow := hg.row a a0 a1
    obtain ⟨c0, c1⟩ := hg.ent _ _ a0 a1 b0 b1
    obtain ⟨p, hp⟩ := Int.eq_ofNat_of_zero_le c0
    have p8 : p < 8 := by omega
    have hnn := wr_nn p8
    obtain ⟨o1, o2, o3, _⟩ := or_bit h8 p8
    obtain ⟨O', s', e, f⟩ := ih (j + 1) (O.set p F.length) (s ||| 2 ^ p) (by omega) (by rw [List.length_set]; exact hO) o2 (fun q q1 => by
      by_cases hq : q = p
      · subst hq
        rw [rd_set_same' (by omega)]
        exact ⟨fun _ => ⟨rfl, (o3 q).2 (.inr rfl)⟩, fun k => absurd ⟨j, by omega, hp.symm⟩ k⟩
      · rw [rd_set_ne' hq]
        obtain ⟨k1, k2⟩ := hx q q1
        refine ⟨fun ⟨j', hj', e⟩ => ?_, fun k => ?_⟩
        · by_cases e2 : j' = j
          · subst e2; rw [hp] at e; exact absurd (by omega) hq
          · obtain ⟨r1, r2⟩ := k1 ⟨j', by omega, e⟩
            exact ⟨r1, (o3 q).2 (.inl r2)⟩
        · obtain ⟨r1, r2⟩ := k2 fun ⟨j', hj', e⟩ => k ⟨j', by omega, e⟩
          refine ⟨r1, (o3 q).trans ⟨fun h => ?_, fun h => .inl (r2.2 h)⟩⟩
          rcases h with h | h
          · exact r2.1 h
          · exact absurd h hq)
    refine ⟨O', s', ?_, f⟩
    have hp0 : (0 : Int) ≤ (p : Int) := by omega
    have hp1 : (p : Int) < (O.length : Int) := by omega
    rw [spec_l01Cosets.l1_eq, if_pos (by omega), if_pos a0, if_pos a1, if_pos (by omega), if_pos (by omega), if_pos b0, if_pos (by omega), hp, if_neg hnn, if_pos hp0, if_pos hp1, if_pos hp0, if_pos hp1, Int.toNat_natCast, o1, wn (j := j) (by omega)]
    exact e
structure Cst (g : List (List Int)) (h F N : List Int) (a : Nat) : Prop where
  len : N.length = g.length
  lenF : F.length ≤ a
  inF : AllIn g.length F
  own : ∀ i : Nat, i < F.length → ∀ b ∈ h, rd N (T g (rd F (i : Int)) b) = i
  has : ∀ x : Int, 0 ≤ x → x < g.length → 0 ≤ rd N x → ∃ i : Nat, i < F.length ∧ rd N x = i ∧ ∃ b ∈ h, x = T g (rd F (i : Int)) b
  met : ∀ x : Int, 0 ≤ x → x < a → 0 ≤ rd N x
  first : 0 < a → 0 < F.length ∧ rd F 0 = 0
theorem Cos_all {g : List (List Int)} {h : List Int} {a x : Int} : Cos g h a h.length x ↔ ∃ b ∈ h, x = T g a b := by
  constructor
  · rintro ⟨j, hj, rfl⟩; exact ⟨_, rd_mem (by omega) (by omega), rfl⟩
  · rintro ⟨b, hb, rfl⟩
    obtain ⟨i, hi, rfl⟩ := List.mem_iff_getElem.1 hb
    exact ⟨i, hi, by rw [rd_get hi]⟩
theorem rd_app {F : List Int} {a : Int} {i : Nat} (h : i < F.length + 1) : rd (F ++ [a]) (i : Int) = if i = F.length then a else rd F (i : Int) := by
  rw [rd_get (by rw [List.length_append]; exact h)]
  by_cases e : i = F.length
  · subst e; simp
  · rw [if_neg e, List.getElem_append_left (by omega), rd_get (by omega)]
theorem Cst.next {g : List (List Int)} (hg : Grp g) {h : List Int} (hs : SubG g h) {F N N' : List Int} {a : Nat} (hc : Cst g h F N a) (a1 : (a : Int) < g.length) (hn : rd N (a : Int) < 0) (hl : N'.length = g.length)
    (hx : ∀ x : Int, 0 ≤ x → x < g.length → (Cos g h a h.length x → rd N' x = F.length) ∧ (¬ Cos g h a h.length x → rd N' x = rd N x)) : Cst g h (F ++ [(a : Int)]) N' (a + 1) := by
  have a0 : (0 : Int) ≤ a := by omega
  have hlen : (F ++ [(a : Int)]).length = F.length + 1 := by simp
  have fresh : ∀ x : Int, 0 ≤ x → x < g.length → Cos g h a h.length x → ¬ 0 ≤ rd N x := fun x x0 x1 hcx hnx => by
    obtain ⟨b, hb, e⟩ := Cos_all.1 hcx
    obtain ⟨i, hi, _, d, hd, e2⟩ := hc.has x x0 x1 hnx
    obtain ⟨b', hb', eb⟩ := hs.inv b hb
    obtain ⟨f0, f1⟩ := hc.inF (i : Int) (by omega) (by omega)
    obtain ⟨b0, b1⟩ := hs.rng hb
    obtain ⟨c0, c1⟩ := hs.rng hb'
    obtain ⟨d0, d1⟩ := hs.rng hd
    have key : (a : Int) = T g (rd F (i : Int)) (T g d b') := by
      rw [← hg.assoc _ _ _ f0 f1 d0 d1 c0 c1, ← e2, e, hg.assoc _ _ _ a0 a1 b0 b1 c0 c1, eb, hg.one' _ a0 a1]
    have := hc.own i hi _ (hs.mul d hd b' hb')
    rw [← key] at this
    omega
  refine ⟨hl, by rw [hlen]; have := hc.lenF; omega, fun i i0 i1 => ?_, fun i hi b hb => ?_, fun x x0 x1 hnx => ?_, fun x x0 x1 => ?_, fun _ => ?_⟩
  · rw [hlen] at i1
    obtain ⟨q, rfl⟩ := Int.eq_ofNat_of_zero_le i0
    rw [rd_app (by omega)]
    by_cases e : q = F.length
    · rw [if_pos e]; exact ⟨a0, a1⟩
    · rw [if_neg e]; exact hc.inF (q : Int) i0 (by omega)
  · rw [hlen] at hi
    rw [rd_app hi]
    obtain ⟨b0, b1⟩ := hs.rng hb
    by_cases e : i = F.length
    · rw [if_pos e]
      obtain ⟨c0, c1⟩ := hg.ent _ _ a0 a1 b0 b1
      rw [(hx _ c0 c1).1 (Cos_all.2 ⟨b, hb, rfl⟩), e]
    · rw [if_neg e]
      obtain ⟨f0, f1⟩ := hc.inF (i : Int) (by omega) (by omega)
      obtain ⟨c0, c1⟩ := hg.ent _ _ f0 f1 b0 b1
      have ho := hc.own i (by omega) b hb
      rw [(hx _ c0 c1).2 fun k => fresh _ c0 c1 k (by omega), ho]
  · by_cases k : Cos g h a h.length x
    · have := (hx x x0 x1).1 k
      obtain ⟨b, hb, e⟩ := Cos_all.1 k
      exact ⟨F.length, by omega, this, b, hb, by rw [rd_app (by omega), if_pos rfl]; exact e⟩
    · have hk := (hx x x0 x1).2 k
      rw [hk] at hnx
      obtain ⟨i, hi, e1, b, hb, e2⟩ := hc.has x x0 x1 hnx
      exact ⟨i, by omega, by rw [hk]; exact e1, b, hb, by rw [rd_app (by omega), if_neg (by omega)]; exact e2⟩
  · by_cases k : Cos g h a h.length x
    · rw [(hx x x0 (by omega)).1 k]; omega
    · rw [(hx x x0 (by omega)).2 k]
      by_cases e : x = a
      · exact absurd (Cos_all.2 ⟨0, hs.zero, by rw [e, hg.one' _ a0 a1]⟩) k
      · exact hc.met x x0 (by omega)
  · refine ⟨by omega, ?_⟩
    have := rd_app (F := F) (a := (a : Int)) (i := 0) (by omega)
    rw [Int.natCast_zero] at this
    rw [this]
    have hlF := hc.lenF
    by_cases e : 0 = F.length
    · rw [if_pos e]
      by_cases ha : 0 < a
      · have := (hc.first ha).1; omega
      · omega
    · rw [if_neg e]
      exact (hc.first (by omega)).2
theorem cosets_ {g : List (List Int)} (hg : Grp g) {h : List Int} (hs : SubG g h) : ∃ F N : List Int, impl_Group_cosets.f g h = some (F, N) ∧ spec_l01Cosets.f g h = some (N, F) ∧ Cst g h F N g.length := by
  have n8 := hg.n8; have n1 := hg.n1
  have main : ∀ (m a : Nat) (F N O : List Int) (s : Nat), a + m = g.length → Cst g h F N a → O.length = g.length → s < 256 → (∀ x : Nat, (x : Int) < g.length → (s.testBit x = true ↔ 0 ≤ rd N (x : Int)) ∧ (0 ≤ rd N (x : Int) → rd O (x : Int) = rd N (x : Int))) →
      ∃ F' N' : List Int, impl_Group_cosets.l0 h (g.length : Int) (a : Int) g F N = some (F', N') ∧ spec_l01Cosets.l0 h (s : Int) (a : Int) g O F = some (N', F') ∧ Cst g h F' N' g.length := by
    intro m
    induction m with
    | zero =>
      intro a F N O s ha hc hO h8 hx
      obtain rfl : a = g.length := by omega
      have e : O = N := ext_rd (by rw [hO, hc.len]) fun i i0 i1 => by
        obtain ⟨q, rfl⟩ := Int.eq_ofNat_of_zero_le i0
        exact (hx q (by omega)).2 (hc.met (q : Int) i0 (by omega))
      refine ⟨F, N, ?_, ?_, hc⟩
      · rw [impl_Group_cosets.l0_eq, if_neg (by omega)]
      · rw [spec_l01Cosets.l0_eq, spec_l01N.f_eq, Option.bind_some, if_neg (by omega), e]
    | succ m ih =>
      intro a F N O s ha hc hO h8 hx
      have a1 : (a : Int) < g.length := by omega
      have a8 : a < 8 := by omega
      have hlN := hc.len
      have hnn := wr_nn a8
      have hbt := bit_test h8 a8
      obtain ⟨x1, x2⟩ := hx a a1
      by_cases k : 0 ≤ rd N (a : Int)
      · have hb := hbt.2 (x1.2 k)
        obtain ⟨F', N', e1, e2, e3⟩ := ih (a + 1) F N O s (by omega) ⟨hc.len, by have := hc.lenF; omega, hc.inF, hc.own, hc.has, fun x x0 x1' => by
          by_cases e : x = a
          · rw [e]; exact k
          · exact hc.met x x0 (by omega), fun _ => by
          refine hc.first ?_
          rcases Nat.eq_zero_or_pos a with e | e
          · exfalso
            subst e
            obtain ⟨i, hi, _⟩ := hc.has _ (by omega) a1 k
            have := hc.lenF
            omega
          · exact e⟩ hO h8 hx
        refine ⟨F', N', ?_, ?_, e3⟩
        · rw [impl_Group_cosets.l0_eq, if_pos a1, if_pos (by omega), if_pos (by omega), if_pos (by omega), if_pos (by omega), if_pos k, wn (j := a) (by omega)]
          exact e1
        · rw [spec_l01Cosets.l0_eq, spec_l01N.f_eq, Option.bind_some, if_pos a1, if_neg hnn, if_pos hb, wn (j := a) (by omega)]
          exact e2
      · have hb := fun q => k (x1.1 (hbt.1 q))
        have hF8 : F.length ≤ 8 := by have := hc.lenF; omega
        obtain ⟨N', i1, i2, i3⟩ := cosI hg hs (a := (a : Int)) (by omega) a1 (F := F) (N0 := N) hF8 hlN h.length 0 N (by omega) hlN (fun x _ _ => ⟨fun ⟨j, hj, _⟩ => by omega, fun _ => rfl⟩)
        obtain ⟨O', s', j1, j2, j3, j4⟩ := cosS hg hs (a := (a : Int)) (by omega) a1 (F := F) (O0 := O) (s0 := s) hF8 hO h.length 0 O s (by omega) hO h8 (fun x _ => ⟨fun ⟨j, hj, _⟩ => by omega, fun _ => ⟨rfl, Iff.rfl⟩⟩)
        have hc' := hc.next hg hs a1 (by omega) i2 i3
        obtain ⟨F', N2, e1, e2, e3⟩ := ih (a + 1) (F ++ [(a : Int)]) N' O' s' (by omega) hc' j2 j3 (fun x hx1 => by
          by_cases q : Cos g h a h.length (x : Int)
          · obtain ⟨r1, r2⟩ := (j4 x hx1).1 q
            have r3 := (i3 (x : Int) (by omega) hx1).1 q
            rw [r1, r3]
            exact ⟨⟨fun _ => by omega, fun _ => r2⟩, fun _ => rfl⟩
          · obtain ⟨r1, r2⟩ := (j4 x hx1).2 q
            have r3 := (i3 (x : Int) (by omega) hx1).2 q
            obtain ⟨y1, y2⟩ := hx x hx1
            rw [r1, r3]
            exact ⟨r2.trans y1, y2⟩)
        have w : (a : Int) + 1 = ((a + 1 : Nat) : Int) := by omega
        rw [w] at i1 j1
        refine ⟨F', N2, ?_, ?_, e3⟩
        · rw [impl_Group_cosets.l0_eq, if_pos a1, if_pos (by omega), if_pos (by omega), if_pos (by omega), if_pos (by omega), if_neg (by omega)]
          exact i1.trans e1
        · rw [spec_l01Cosets.l0_eq, spec_l01N.f_eq, Option.bind_some, if_pos a1, if_neg hnn, if_neg hb]
          exact j1.trans e2
  have hlr : (List.replicate g.length (-1 : Int)).length = g.length := List.length_replicate
  have hrm : ∀ x : Int, 0 ≤ x → x < g.length → rd (List.replicate g.length (-1 : Int)) x = -1 := fun x x0 x1 => by
    obtain ⟨q, rfl⟩ := Int.eq_ofNat_of_zero_le x0
    rw [rd_get (by rw [hlr]; omega)]; simp
  obtain ⟨F, N, e1, e2, e3⟩ := main g.length 0 [] (List.replicate g.length (-1)) (List.replicate g.length 0) 0 (by omega) ⟨hlr, by simp, fun i i0 i1 => by simp at i1; omega, fun i hi => by simp at hi, fun x x0 x1 hx => by rw [hrm x x0 x1] at hx; omega, fun x x0 x1 => by omega, fun h => absurd h (Nat.lt_irrefl 0)⟩ List.length_replicate (by omega) (fun x hx => by
    rw [hrm (x : Int) (by omega) hx]
    exact ⟨⟨fun h => by simp at h, fun h => by omega⟩, fun h => by omega⟩)
  refine ⟨F, N, ?_, ?_, e3⟩
  · rw [impl_Group_cosets.f_eq, Repeat_ (n := g.length) (by omega) (by omega), Option.bind_some, impl_order.f_eq, Option.bind_some]
    exact e1
  · rw [spec_l01Cosets.f_eq, spec_l01N.f_eq, Option.bind_some, if_pos rfl, if_pos (by omega), Int.toNat_natCast, if_pos (by omega)]
    exact e2
end Go.Proofs.Ytlkdhmijgpadaaa.V
set_option linter.unusedVariables false
set_option linter.unusedSimpArgs false
set_option maxHeartbeats 4000000
set_option maxRecDepth 20000
namespace Go.Proofs.Ytlkdhmijgpadaaa.V
open Go.RowKit Go.Proofs.Ytlkdhmijgpadaaa.D Go.Proofs.Ytlkdhmijgpadaaa.P
theorem Gen.sub {g : List (List Int)} (hg : Grp g) {z : Int} (z0 : 0 ≤ z) (z1 : z < g.length) {h : List Int} (hh : Gen g z h) (hl : h.length ≤ 8) : SubG g h where
  inr := allIn_of fun x hx => by obtain ⟨k, rfl⟩ := (hh.mem x).1 hx; exact pw_in hg z0 z1 k
  len := hl
  zero := (hh.mem 0).2 ⟨0, rfl⟩
  mul := fun x hx y hy => by
    obtain ⟨i, rfl⟩ := (hh.mem x).1 hx
    obtain ⟨j, rfl⟩ := (hh.mem y).1 hy
    exact (hh.mem _).2 ⟨i + j, pw_add hg z0 z1 i j⟩
  inv := fun x hx => by
    obtain ⟨i, rfl⟩ := (hh.mem x).1 hx
    obtain ⟨K, hK⟩ := ord_ hg z0 z1
    obtain ⟨j, hj, e⟩ := hK.small i
    refine ⟨pw g z (K - j), (hh.mem _).2 ⟨_, rfl⟩, ?_⟩
    rw [e, pw_add hg z0 z1, show j + (K - j) = K by omega, hK.zero]
theorem Grp.cancel_left {g : List (List Int)} (hg : Grp g) {a b c : Int} (a0 : 0 ≤ a) (a1 : a < g.length) (b0 : 0 ≤ b) (b1 : b < g.length) (c0 : 0 ≤ c) (c1 : c < g.length) (h : T g c a = T g c b) : a = b := by
  obtain ⟨d, d0, d1, _, hd⟩ := hg.inv2 c0 c1
  have e1 := hg.assoc d c a d0 d1 c0 c1 a0 a1
  have e2 := hg.assoc d c b d0 d1 c0 c1 b0 b1
  rw [hd, hg.one a a0 a1] at e1
  rw [hd, hg.one b b0 b1] at e2
  rw [e1, e2, h]
theorem cj_eq {g : List (List Int)} (hg : Grp g) {x y v : Int} (x0 : 0 ≤ x) (x1 : x < g.length) (y0 : 0 ≤ y) (y1 : y < g.length) (v0 : 0 ≤ v) (v1 : v < g.length) (hv : T g x v = 0) : cj g x y = T g (T g x y) v := by
  obtain ⟨b, b0, b1, hb, eI, _⟩ := inv_is hg x0 x1
  obtain rfl : b = v := hg.cancel_left b0 b1 v0 v1 x0 x1 (by rw [hb, hv])
  have ht := times hg [x, y, b] (allIn_three x0 x1 y0 y1 b0 b1) (le_maxLen (by simp))
  have e : [x, y, b].foldl (T g) 0 = T g (T g x y) b := by
    show T g (T g (T g 0 x) y) b = _
    rw [hg.one x x0 x1]
  unfold cj
  rw [impl_Group_conjugate.f_eq, eI, Option.bind_some, ht, e]
  rfl
def quo (g : List (List Int)) (F N : List Int) : List (List Int) := (List.range F.length).map fun i : Nat => (List.range F.length).map fun j : Nat => rd N (T g (rd F (i : Int)) (rd F (j : Int)))
theorem quo_len (g : List (List Int)) (F N : List Int) : (quo g F N).length = F.length ∧ ∀ r ∈ quo g F N, r.length = F.length := by
  refine ⟨by simp [quo], fun r hr => ?_⟩
  obtain ⟨p, _, rfl⟩ := List.mem_map.1 hr
  simp
theorem quo_T {g : List (List Int)} {F N : List Int} {i j : Nat} (hi : i < F.length) (hj : j < F.length) : (row (quo g F N) (i : Int)).length = F.length ∧ T (quo g F N) (i : Int) (j : Int) = rd N (T g (rd F (i : Int)) (rd F (j : Int))) := by
  have h1 : row (quo g F N) (i : Int) = (List.range F.length).map fun j : Nat => rd N (T g (rd F (i : Int)) (rd F (j : Int))) := by
    rw [row_get (by rw [(quo_len g F N).1]; exact hi)]
    simp [quo]
  refine ⟨by rw [h1]; simp, ?_⟩
  show rd (row (quo g F N) (i : Int)) (j : Int) = _
  rw [h1, rd_get (by rw [List.length_map, List.length_range]; exact hj)]
  simp
theorem Cst.num {g : List (List Int)} {h F N : List Int} (hc : Cst g h F N g.length) {x : Int} (x0 : 0 ≤ x) (x1 : x < g.length) : ∃ i : Nat, i < F.length ∧ rd N x = i ∧ ∃ b ∈ h, x = T g (rd F (i : Int)) b := hc.has x x0 x1 (hc.met x x0 x1)
theorem Cst.rep {g : List (List Int)} (hg : Grp g) {h F N : List Int} (hs : SubG g h) (hc : Cst g h F N g.length) {i : Nat} (hi : i < F.length) : (0 ≤ rd F (i : Int) ∧ rd F (i : Int) < g.length) ∧ rd N (rd F (i : Int)) = i := by
  obtain ⟨f0, f1⟩ := hc.inF (i : Int) (by omega) (by omega)
  have := hc.own i hi 0 hs.zero
  rw [hg.one' _ f0 f1] at this
  exact ⟨⟨f0, f1⟩, this⟩
theorem quo_key {g : List (List Int)} (hg : Grp g) {h F N : List Int} (hs : SubG g h) (hn : Norm g h) (hc : Cst g h F N g.length) {x y : Int} (x0 : 0 ≤ x) (x1 : x < g.length) (y0 : 0 ≤ y) (y1 : y < g.length) :
    rd N (T g x y) = rd N (T g (rd F (rd N x)) (rd F (rd N y))) := by
  obtain ⟨i, hi, ei, b, hb, rfl⟩ := hc.num x0 x1
  obtain ⟨j, hj, ej, d, hd, rfl⟩ := hc.num y0 y1
  obtain ⟨⟨p0, p1⟩, _⟩ := hc.rep hg hs hi
  obtain ⟨⟨q0, q1⟩, _⟩ := hc.rep hg hs hj
  obtain ⟨b0, b1⟩ := hs.rng hb
  obtain ⟨d0, d1⟩ := hs.rng hd
  rw [ei, ej]
  generalize rd F (i : Int) = P at *
  generalize rd F (j : Int) = Q at *
  obtain ⟨u, u0, u1, hu1, hu2⟩ := hg.inv2 q0 q1
  have he := hn u u0 u1 b hb
  rw [cj_eq hg u0 u1 b0 b1 q0 q1 hu2] at he
  obtain ⟨e0, e1⟩ := hs.rng he
  obtain ⟨s0, s1⟩ := hg.ent u b u0 u1 b0 b1
  have key : T g Q (T g (T g u b) Q) = T g b Q := by
    rw [← hg.assoc _ _ _ q0 q1 s0 s1 q0 q1, ← hg.assoc _ _ _ q0 q1 u0 u1 b0 b1, hu1, hg.one b b0 b1]
  generalize T g (T g u b) Q = e at *
  obtain ⟨c0, c1⟩ := hg.ent P Q p0 p1 q0 q1
  obtain ⟨r0, r1⟩ := hg.ent Q d q0 q1 d0 d1
  have hmove : T g (T g P b) (T g Q d) = T g (T g P Q) (T g e d) := by
    obtain ⟨t0, t1⟩ := hg.ent e d e0 e1 d0 d1
    obtain ⟨v0, v1⟩ := hg.ent Q e q0 q1 e0 e1
    rw [hg.assoc _ _ _ p0 p1 b0 b1 r0 r1, ← hg.assoc _ _ _ b0 b1 q0 q1 d0 d1, ← key, hg.assoc _ _ _ q0 q1 e0 e1 d0 d1, hg.assoc _ _ _ p0 p1 q0 q1 t0 t1]
  obtain ⟨k, hk, ek, f, hf, ef⟩ := hc.num c0 c1
  rw [hmove, ek]
  have hm := hs.mul e he d hd
  obtain ⟨f0, f1⟩ := hs.rng hf
  obtain ⟨m0, m1⟩ := hs.rng hm
  obtain ⟨⟨k0, k1⟩, _⟩ := hc.rep hg hs hk
  rw [ef, hg.assoc _ _ _ k0 k1 f0 f1 m0 m1]
  exact hc.own k hk _ (hs.mul f hf _ hm)
theorem quo_grp {g : List (List Int)} (hg : Grp g) {h F N : List Int} (hs : SubG g h) (hn : Norm g h) (hc : Cst g h F N g.length) : Grp (quo g F N) := by
  have n1 := hg.n1; have n8 := hg.n8
  have hq := (quo_len g F N).1
  obtain ⟨r0, f0⟩ := hc.first (by omega)
  have hlF := hc.lenF
  have hT : ∀ i j : Nat, i < F.length → j < F.length → ∃ k : Nat, k < F.length ∧ T (quo g F N) (i : Int) (j : Int) = k := fun i j hi hj => by
    obtain ⟨⟨p0, p1⟩, _⟩ := hc.rep hg hs hi
    obtain ⟨⟨q0, q1⟩, _⟩ := hc.rep hg hs hj
    obtain ⟨c0, c1⟩ := hg.ent _ _ p0 p1 q0 q1
    obtain ⟨k, hk, ek, _⟩ := hc.num c0 c1
    exact ⟨k, hk, by rw [(quo_T hi hj).2, ek]⟩
  refine ⟨by omega, by omega, fun a a0 a1 => ?_, fun a b a0 a1 b0 b1 => ?_, fun a a0 a1 => ?_, fun a a0 a1 => ?_, fun a b c a0 a1 b0 b1 c0 c1 => ?_, fun a a0 a1 => ?_⟩
  · obtain ⟨i, rfl⟩ := Int.eq_ofNat_of_zero_le a0
    rw [hq, (quo_T (i := i) (j := i) (by omega) (by omega)).1]
  · obtain ⟨i, rfl⟩ := Int.eq_ofNat_of_zero_le a0
    obtain ⟨j, rfl⟩ := Int.eq_ofNat_of_zero_le b0
    obtain ⟨k, hk, e⟩ := hT i j (by omega) (by omega)
    rw [e]; omega
  · obtain ⟨i, rfl⟩ := Int.eq_ofNat_of_zero_le a0
    obtain ⟨⟨p0, p1⟩, e⟩ := hc.rep hg hs (i := i) (by omega)
    have := (quo_T (g := g) (F := F) (N := N) (i := 0) (j := i) r0 (by omega)).2
    rw [Int.natCast_zero, f0, hg.one _ p0 p1, e] at this
    exact this
  · obtain ⟨i, rfl⟩ := Int.eq_ofNat_of_zero_le a0
    obtain ⟨⟨p0, p1⟩, e⟩ := hc.rep hg hs (i := i) (by omega)
    have := (quo_T (g := g) (F := F) (N := N) (i := i) (j := 0) (by omega) r0).2
    rw [Int.natCast_zero, f0, hg.one' _ p0 p1, e] at this
    exact this
  · obtain ⟨i, rfl⟩ := Int.eq_ofNat_of_zero_le a0
    obtain ⟨j, rfl⟩ := Int.eq_ofNat_of_zero_le b0
    obtain ⟨k, rfl⟩ := Int.eq_ofNat_of_zero_le c0
    have hi : i < F.length := by omega
    have hj : j < F.length := by omega
    have hk : k < F.length := by omega
    obtain ⟨⟨p0, p1⟩, ep⟩ := hc.rep hg hs hi
    obtain ⟨⟨q0, q1⟩, eq⟩ := hc.rep hg hs hj
    obtain ⟨⟨s0, s1⟩, es⟩ := hc.rep hg hs hk
    obtain ⟨c0, c1⟩ := hg.ent _ _ p0 p1 q0 q1
    obtain ⟨d0, d1⟩ := hg.ent _ _ q0 q1 s0 s1
    obtain ⟨x, hx, ex⟩ := hT i j hi hj
    obtain ⟨y, hy, ey⟩ := hT j k hj hk
    rw [ex, ey, (quo_T hx hk).2, (quo_T hi hy).2]
    have e1 := quo_key hg hs hn hc c0 c1 s0 s1
    have e2 := quo_key hg hs hn hc p0 p1 d0 d1
    rw [← (quo_T hi hj).2, ex, es] at e1
    rw [← (quo_T hj hk).2, ey, ep] at e2
    rw [← e1, ← e2, hg.assoc _ _ _ p0 p1 q0 q1 s0 s1]
  · obtain ⟨i, rfl⟩ := Int.eq_ofNat_of_zero_le a0
    have hi : i < F.length := by omega
    obtain ⟨⟨p0, p1⟩, ep⟩ := hc.rep hg hs hi
    obtain ⟨v, v0, v1, hv⟩ := hg.inv _ p0 p1
    obtain ⟨k, hk, ek, _⟩ := hc.num v0 v1
    refine ⟨(k : Int), by omega, by omega, ?_⟩
    have e1 := quo_key hg hs hn hc p0 p1 v0 v1
    rw [ep, ek, hv] at e1
    rw [(quo_T hi hk).2, ← e1]
    have := (hc.rep hg hs (i := 0) r0).2
    rw [Int.natCast_zero, f0] at this
    exact this
theorem quotient_ {g : List (List Int)} (hg : Grp g) {h F N : List Int} (hs : SubG g h) (hc : Cst g h F N g.length) (hI : impl_Group_cosets.f g h = some (F, N)) : impl_Group_quotient.f g h = some (quo g F N, N) := by
  have n8 := hg.n8; have hlF := hc.lenF; have hlN := hc.len
  have hM := made (N := F.length) (by omega) (F := fun z0 z1 => (impl_Group_quotient_1.f z0 z1 N g F).map fun z => z) (G := fun i j : Nat => rd N (T g (rd F (i : Int)) (rd F (j : Int)))) (fun i j hi hj => by
    obtain ⟨⟨p0, p1⟩, _⟩ := hc.rep hg hs hi
    obtain ⟨⟨q0, q1⟩, _⟩ := hc.rep hg hs hj
    obtain ⟨c0, c1⟩ := hg.ent _ _ p0 p1 q0 q1
    have ht := times2 hg p0 p1 q0 q1
    show Option.map _ (impl_Group_quotient_1.f (i : Int) (j : Int) N g F) = _
    rw [impl_Group_quotient_1.f_eq, if_pos (by omega), if_pos (by omega), if_pos (by omega), if_pos (by omega), ht, Option.bind_some, if_pos c0, if_pos (by omega)]
    rfl)
  rw [impl_Group_quotient.f_eq, hI, Option.bind_some, hM, Option.bind_some]
  rfl
theorem Quotient_ {g : List (List Int)} (hg : Grp g) {h F N : List Int} (hs : SubG g h) (hc : Cst g h F N g.length) (hS : spec_l01Cosets.f g h = some (N, F)) : spec_l01Quotient.f g h = some (quo g F N, N) := by
  have n8 := hg.n8; have hlF := hc.lenF; have hlN := hc.len
  have l2 : ∀ x : Int, ([x] : List Int).length = 1 := fun _ => rfl
  have l3 : ∀ x : List Int, ([x] : List (List Int)).length = 1 := fun _ => rfl
  rw [spec_l01Quotient.f_eq, hS, Option.bind_some]
  dsimp only
  have := up F.length (fun i => spec_l01Quotient.l0 (i : Int) g N F ((List.range i).map fun i : Nat => (List.range F.length).map fun j : Nat => rd N (T g (rd F (i : Int)) (rd F (j : Int))))) (fun i hi => by
    obtain ⟨⟨p0, p1⟩, _⟩ := hc.rep hg hs hi
    have hrow := hg.row _ p0 p1
    have inner := up F.length (fun j => spec_l01Quotient.l1 (i : Int) (j : Int) g N F ((List.range j).map fun j : Nat => rd N (T g (rd F (i : Int)) (rd F (j : Int)))) ((List.range i).map fun i : Nat => (List.range F.length).map fun j : Nat => rd N (T g (rd F (i : Int)) (rd F (j : Int))))) (fun j hj => by
      obtain ⟨⟨q0, q1⟩, _⟩ := hc.rep hg hs hj
      obtain ⟨c0, c1⟩ := hg.ent _ _ p0 p1 q0 q1
      have l1 : ((List.range j).map fun j : Nat => rd N (T g (rd F (i : Int)) (rd F (j : Int)))).length = j := by rw [List.length_map, List.length_range]
      rw [List.range_succ (n := j), List.map_append (l₁ := List.range j), List.map_singleton, spec_l01Quotient.l1_eq, l1, l2, wn (j := j) (by omega)]
      ((with_reducible repeat (first | refine go_pos (by first | assumption | omega | rfl | exact B_pos (by omega)) ?_ | refine go_neg (by first | assumption | omega | decide | exact B_not (by omega)) ?_ | refine go_bind (by first | assumption) ?_ | dsimp only)); first | done | (with_reducible rfl) | simp (disch := omega) only [w64] | (show False; done)))
    simp only [Int.natCast_zero, List.range_zero, List.map_nil] at inner
    have l1 : ((List.range i).map fun i : Nat => (List.range F.length).map fun j : Nat => rd N (T g (rd F (i : Int)) (rd F (j : Int)))).length = i := by rw [List.length_map, List.length_range]
    rw [List.range_succ (n := i), List.map_append, List.map_singleton, spec_l01Quotient.l0_eq]
    (with_reducible repeat (first | refine go_pos (by first | assumption | omega | rfl | exact B_pos (by omega)) ?_ | refine go_neg (by first | assumption | omega | decide | exact B_not (by omega)) ?_ | refine go_bind (by first | assumption) ?_ | dsimp only))
    rw [inner, spec_l01Quotient.l1_eq, l1, l3, wn (j := i) (by omega)]
    ((with_reducible repeat (first | refine go_pos (by first | assumption | omega | rfl | exact B_pos (by omega)) ?_ | refine go_neg (by first | assumption | omega | decide | exact B_not (by omega)) ?_ | refine go_bind (by first | assumption) ?_ | dsimp only)); first | done | (with_reducible rfl) | simp (disch := omega) only [w64] | (show False; done)))
  simp only [Int.natCast_zero, List.range_zero, List.map_nil] at this
  rw [this, spec_l01Quotient.l0_eq]
  (with_reducible repeat (first | refine go_pos (by first | assumption | omega | rfl | exact B_pos (by omega)) ?_ | refine go_neg (by first | assumption | omega | decide | exact B_not (by omega)) ?_ | refine go_bind (by first | assumption) ?_ | dsimp only))
  rfl
end Go.Proofs.Ytlkdhmijgpadaaa.V
set_option linter.unusedVariables false
set_option linter.unusedSimpArgs false
set_option maxHeartbeats 4000000
set_option maxRecDepth 20000
namespace Go.Proofs.Ytlkdhmijgpadaaa.V
open Go.RowKit Go.Proofs.Ytlkdhmijgpadaaa.D Go.Proofs.Ytlkdhmijgpadaaa.P
structure Chc (g : List (List Int)) (z : Int) (h F N : List Int) (K : Nat) : Prop where
  grp : Grp g
  z1 : 1 ≤ z
  zn : z < g.length
  ord : Ord g z K
  gen : Gen g z h
  sub : SubG g h
  norm : Norm g h
  cst : Cst g h F N g.length
theorem choice_ (g : List (List Int)) (z : Int) (hl : g.length ≤ maxLen) (hr : ∀ r ∈ g, r.length ≤ maxLen) :
    (∃ h F N K, Chc g z h F N K ∧ impl_choice.f g z = some (quo g F N, F, N, 0) ∧ spec_l06Choice.f g z = some 0 ∧ spec_l06Made.f g z = some h ∧ spec_l01Cosets.f g h = some (N, F) ∧ spec_l01Quotient.f g h = some (quo g F N, N)) ∨
    ∃ c : Int, ¬ c = 0 ∧ impl_choice.f g z = some ([], [], [], c) ∧ spec_l06Choice.f g z = some c := by
  have hI := isGroup g hl hr
  have hS := Is_ g
  rw [impl_choice.f_eq, spec_l06Choice.f_eq, hI, hS]
  by_cases h1 : Grp g
  rotate_left
  · rw [B_neg h1]
    exact .inr ⟨1, by omega, rfl, rfl⟩
  have n8 := h1.n8; have n1 := h1.n1
  have hin := In_ z 1 (wrapI ((g.length : Int) - 1))
  have w : wrapI ((g.length : Int) - 1) = (g.length : Int) - 1 := w64 (by omega) (by omega)
  rw [w] at hin
  rw [B_pos h1, Option.bind_some, if_pos rfl, Option.bind_some, if_pos rfl, spec_l01N.f_eq, Option.bind_some, impl_order.f_eq, Option.bind_some, w, hin, Option.bind_some]
  by_cases h2 : 1 ≤ z ∧ z ≤ (g.length : Int) - 1
  rotate_left
  · refine .inr ⟨2, by omega, ?_, ?_⟩
    · by_cases h3 : z < 1
      · rw [if_pos h3]
      · rw [if_neg h3, if_pos (by omega)]
    · rw [B_neg h2]; rfl
  obtain ⟨z1, zn⟩ := h2
  have z0 : 0 ≤ z := by omega
  have zn' : z < g.length := by omega
  obtain ⟨h, s1, s2, s3⟩ := subgroup_ h1 z0 zn'
  obtain ⟨h', m1, m2⟩ := Made_ h1 z0 zn'
  obtain rfl := s2.uniq m2
  have hs := s2.sub h1 z0 zn' s3
  have nI := isNormal_ h1 hs.inr s3
  have nS := Normal_ h1 hs.inr s3
  rw [if_neg (by omega), if_neg (by omega), B_pos ⟨z1, zn⟩, if_pos rfl, s1, Option.bind_some, m1, Option.bind_some, nI, nS, Option.bind_some, Option.bind_some]
  by_cases h4 : Norm g h
  rotate_left
  · rw [B_neg h4]
    exact .inr ⟨5, by omega, rfl, rfl⟩
  obtain ⟨F, N, c1, c2, c3⟩ := cosets_ h1 hs
  obtain ⟨K, hK⟩ := ord_ h1 z0 zn'
  refine .inl ⟨h, F, N, K, ⟨h1, z1, zn', hK, s2, hs, h4, c3⟩, ?_, ?_, ?_, c2, Quotient_ h1 hs c3 c2⟩
  · rw [B_pos h4, if_pos rfl, quotient_ h1 hs c3 c1, c1]; rfl
  · rw [B_pos h4, if_pos rfl]
  · first | rfl | exact m1
theorem Chc.two {g : List (List Int)} {z : Int} {h F N : List Int} {K : Nat} (c : Chc g z h F N K) : 2 ≤ K ∧ K ≤ 8 := by
  have hg := c.grp; have n8 := hg.n8; have := c.ord.pos; have := c.ord.le; have z1 := c.z1; have zn := c.zn
  refine ⟨?_, by omega⟩
  rcases Nat.lt_or_ge K 2 with q | q
  · exfalso
    have e : K = 1 := by omega
    have := c.ord.zero
    rw [e, pw_one hg (by omega) zn] at this
    omega
  · exact q
theorem Chc.pow {g : List (List Int)} {z : Int} {h F N : List Int} {K : Nat} (c : Chc g z h F N K) {x : Int} (hx : x ∈ h) : ∃ k : Nat, k < K ∧ x = pw g z k := by
  obtain ⟨i, rfl⟩ := (c.gen.mem x).1 hx
  obtain ⟨j, hj, e⟩ := c.ord.small i
  exact ⟨j, hj, e⟩
theorem Chc.zmem {g : List (List Int)} {z : Int} {h F N : List Int} {K : Nat} (c : Chc g z h F N K) : z ∈ h :=
  (c.gen.mem z).2 ⟨1, (pw_one c.grp (by have := c.z1; omega) c.zn).symm⟩
theorem Chc.unit {g : List (List Int)} {z : Int} {h F N : List Int} {K : Nat} (c : Chc g z h F N K) : ∃ U : Nat → Nat, ∀ i : Nat, i < F.length → U i < K ∧ cj g (rd F (i : Int)) z = pw g z (U i) := by
  have : ∀ i : Nat, ∃ k : Nat, i < F.length → k < K ∧ cj g (rd F (i : Int)) z = pw g z k := fun i => by
    by_cases hi : i < F.length
    · obtain ⟨⟨f0, f1⟩, _⟩ := c.cst.rep c.grp c.sub hi
      obtain ⟨k, hk, e⟩ := c.pow (c.norm _ f0 f1 z c.zmem)
      exact ⟨k, fun _ => ⟨hk, e⟩⟩
    · exact ⟨0, fun h => absurd h hi⟩
  exact Classical.axiomOfChoice this
theorem Chc.val {g : List (List Int)} {z : Int} {h F N : List Int} {K : Nat} (c : Chc g z h F N K) : ∃ V : Nat → Nat → Nat, ∀ i j : Nat, i < F.length → j < F.length → V i j < K ∧ ∃ k : Nat, k < F.length ∧ rd N (T g (rd F (i : Int)) (rd F (j : Int))) = k ∧ ∃ b : Int, (0 ≤ b ∧ b < g.length) ∧ impl_Group_inverse.f g (rd F (k : Int)) = some b ∧ spec_l01Inverse.f g (rd F (k : Int)) = some b ∧ T g (T g (rd F (i : Int)) (rd F (j : Int))) b = pw g z (V i j) := by
  have hg := c.grp
  have : ∀ p : Nat × Nat, ∃ v : Nat, p.1 < F.length → p.2 < F.length → v < K ∧ ∃ k : Nat, k < F.length ∧ rd N (T g (rd F (p.1 : Int)) (rd F (p.2 : Int))) = k ∧ ∃ b : Int, (0 ≤ b ∧ b < g.length) ∧ impl_Group_inverse.f g (rd F (k : Int)) = some b ∧ spec_l01Inverse.f g (rd F (k : Int)) = some b ∧ T g (T g (rd F (p.1 : Int)) (rd F (p.2 : Int))) b = pw g z v := fun ⟨i, j⟩ => by
    by_cases hi : i < F.length
    rotate_left
    · exact ⟨0, fun h => absurd h hi⟩
    by_cases hj : j < F.length
    rotate_left
    · exact ⟨0, fun _ h => absurd h hj⟩
    obtain ⟨⟨p0, p1⟩, _⟩ := c.cst.rep hg c.sub hi
    obtain ⟨⟨q0, q1⟩, _⟩ := c.cst.rep hg c.sub hj
    obtain ⟨c0, c1⟩ := hg.ent _ _ p0 p1 q0 q1
    obtain ⟨k, hk, ek, f, hf, ef⟩ := c.cst.num c0 c1
    obtain ⟨⟨k0, k1⟩, _⟩ := c.cst.rep hg c.sub hk
    obtain ⟨b, b0, b1, hb, eI, eS⟩ := inv_is hg k0 k1
    obtain ⟨f0, f1⟩ := c.sub.rng hf
    have hm := c.norm _ k0 k1 f hf
    rw [cj_eq hg k0 k1 f0 f1 b0 b1 hb, ← ef] at hm
    obtain ⟨v, hv, e⟩ := c.pow hm
    exact ⟨v, fun _ _ => ⟨hv, k, hk, ek, b, ⟨b0, b1⟩, eI, eS, e⟩⟩
  obtain ⟨V, hV⟩ := Classical.axiomOfChoice this
  exact ⟨fun i j => V (i, j), fun i j hi hj => hV (i, j) hi hj⟩
def fval (F : List Int) (V : Nat → Nat → Nat) (i : Nat) : Int := ((V (i / (F.length - 1) + 1) (i % (F.length - 1) + 1) : Nat) : Int)
theorem Module_ {g : List (List Int)} {z : Int} {h F N : List Int} {K : Nat} (c : Chc g z h F N K) {U : Nat → Nat} {V : Nat → Nat → Nat} (hU : ∀ i : Nat, i < F.length → U i < K ∧ cj g (rd F (i : Int)) z = pw g z (U i))
    (hV : ∀ i j : Nat, i < F.length → j < F.length → V i j < K ∧ ∃ k : Nat, k < F.length ∧ rd N (T g (rd F (i : Int)) (rd F (j : Int))) = k ∧ ∃ b : Int, (0 ≤ b ∧ b < g.length) ∧ impl_Group_inverse.f g (rd F (k : Int)) = some b ∧ spec_l01Inverse.f g (rd F (k : Int)) = some b ∧ T g (T g (rd F (i : Int)) (rd F (j : Int))) b = pw g z (V i j))
    (hM : spec_l06Made.f g z = some h) (hC : spec_l01Cosets.f g h = some (N, F)) (hQ : spec_l01Quotient.f g h = some (quo g F N, N)) :
    spec_l06Module.f g z = some (quo g F N, (K : Int), (List.range F.length).map (fun i : Nat => ((U i : Nat) : Int)), 2, (List.range ((F.length - 1) * (F.length - 1))).map (fval F V)) := by
  have hg := c.grp; have n8 := hg.n8; have hlF := c.cst.lenF; have z1 := c.z1; have zn := c.zn; have hlN := c.cst.len
  obtain ⟨r0, _⟩ := c.cst.first (by have := hg.n1; omega)
  have l2 : ∀ x : Int, ([x] : List Int).length = 1 := fun _ => rfl
  have hO := Order_ hg (show 0 ≤ z by omega) zn c.ord
  rw [spec_l06Module.f_eq, hM, Option.bind_some, hC, Option.bind_some, hQ, Option.bind_some, hO, Option.bind_some]
  dsimp only
  have a1 := up F.length (fun i => spec_l06Module.l0 z (i : Int) g 0 0 N F (K : Int) (quo g F N) ((List.range i).map fun i : Nat => ((U i : Nat) : Int))) (fun i hi => by
    have l1 : ((List.range i).map fun i : Nat => ((U i : Nat) : Int)).length = i := by rw [List.length_map, List.length_range]
    obtain ⟨⟨f0, f1⟩, _⟩ := c.cst.rep hg c.sub hi
    obtain ⟨hu, eu⟩ := hU i hi
    obtain ⟨_, _, ec⟩ := cj_ hg f0 f1 (show 0 ≤ z by omega) zn
    have he := Power_ hg (by omega) zn c.ord hu
    rw [← eu] at he
    rw [List.range_succ, List.map_append, List.map_singleton, spec_l06Module.l0_eq, if_pos (by omega), if_pos (by omega), if_pos (by omega), if_pos (by omega), if_pos (by omega), ec, Option.bind_some, he, Option.bind_some, l1, l2, if_pos (by omega), wn (j := i) (by omega)])
  simp only [Int.natCast_zero, List.range_zero, List.map_nil] at a1
  rw [a1, spec_l06Module.l0_eq, if_neg (by omega)]
  obtain ⟨R, hR⟩ : ∃ R, F.length = R + 1 := ⟨F.length - 1, by omega⟩
  have hfv : ∀ x y : Nat, y < R → fval F V (x * R + y) = ((V (x + 1) (y + 1) : Nat) : Int) := fun x y hy => by
    unfold fval
    rw [hR, Nat.add_sub_cancel, Nat.mul_comm x R, Nat.mul_add_div (by omega), Nat.div_eq_of_lt hy, Nat.add_zero, Nat.mul_add_mod, Nat.mod_eq_of_lt hy]
  have hRR : ∀ x y : Nat, x ≤ R → y ≤ R → x * R + y ≤ 1000 := fun x y hx hy => by
    have : x * R ≤ 8 * 8 := Nat.mul_le_mul (by omega) (by omega)
    omega
  have a2 := up R (fun x => spec_l06Module.l1 z ((x + 1 : Nat) : Int) g 0 0 N F (K : Int) 2 (quo g F N) ((List.range F.length).map fun i : Nat => ((U i : Nat) : Int)) ((List.range (x * R)).map (fval F V))) (fun x hx => by
    have inner := up R (fun y => spec_l06Module.l2 z ((x + 1 : Nat) : Int) ((y + 1 : Nat) : Int) g 0 0 N F (K : Int) 2 (quo g F N) ((List.range F.length).map fun i : Nat => ((U i : Nat) : Int)) ((List.range (x * R + y)).map (fval F V))) (fun y hy => by
      have l1 : ((List.range (x * R + y)).map (fval F V)).length = x * R + y := by rw [List.length_map, List.length_range]
      have hb := hRR x y (by omega) (by omega)
      obtain ⟨hv, k, hk, ek, b, ⟨b0, b1⟩, _, eS, ev⟩ := hV (x + 1) (y + 1) (by omega) (by omega)
      obtain ⟨⟨p0, p1⟩, _⟩ := c.cst.rep hg c.sub (i := x + 1) (by omega)
      obtain ⟨⟨q0, q1⟩, _⟩ := c.cst.rep hg c.sub (i := y + 1) (by omega)
      obtain ⟨c0, c1⟩ := hg.ent _ _ p0 p1 q0 q1
      have r1 := hg.row _ p0 p1
      have r2 := hg.row _ c0 c1
      have he := Power_ hg (show 0 ≤ z by omega) zn c.ord hv
      rw [← ev] at he
      rw [← Nat.add_assoc (x * R) y 1, List.range_succ (n := x * R + y), List.map_append, List.map_singleton, hfv x y hy, spec_l06Module.l2_eq, wn (j := y + 1) (by omega), ek, l1]
      have hl2 := l2 ((V (x + 1) (y + 1) : Nat) : Int)
      have hl3 : x * R + y + ([((V (x + 1) (y + 1) : Nat) : Int)] : List Int).length ≤ 17592186044416 := by omega
      ((with_reducible repeat (first | refine go_pos (by first | assumption | omega | rfl | exact B_pos (by omega)) ?_ | refine go_neg (by first | assumption | omega | decide | exact B_not (by omega)) ?_ | refine go_bind (by first | assumption) ?_ | dsimp only)); first | done | (with_reducible rfl) | simp (disch := omega) only [w64] | (show False; done)))
    rw [spec_l06Module.l1_eq, if_pos (by omega)]
    simp only [Nat.zero_add, Nat.add_zero] at inner
    rw [show ((1 : Nat) : Int) = 1 from rfl] at inner
    rw [inner, spec_l06Module.l2_eq, if_neg (by omega), wn (j := x + 1) (by omega), show x * R + R = (x + 1) * R by rw [Nat.succ_mul]])
  simp only [Nat.zero_add, Nat.zero_mul, List.range_zero, List.map_nil] at a2
  rw [show ((1 : Nat) : Int) = 1 from rfl] at a2
  rw [a2, spec_l06Module.l1_eq, if_neg (by omega), hR, Nat.add_sub_cancel]
end Go.Proofs.Ytlkdhmijgpadaaa.V
set_option linter.unusedVariables false
set_option linter.unusedSimpArgs false
set_option maxHeartbeats 4000000
set_option maxRecDepth 20000
namespace Go.Proofs.Ytlkdhmijgpadaaa.V
open Go.RowKit Go.Proofs.Ytlkdhmijgpadaaa.D Go.Proofs.Ytlkdhmijgpadaaa.P
theorem same_FactorSetOfChoice (g : List (List Int)) (z : Int) (hl : g.length ≤ maxLen) (hr : ∀ r ∈ g, r.length ≤ maxLen) :
    ∃ (d : Int) (R : List Int) (e : Int), spec_FactorSetOfChoice.f g z = some (d, R, e) ∧ impl_FactorSetOfChoice.f g z = some (d, R, e) ∧ R.length ≤ 1048576 := by
  rw [spec_FactorSetOfChoice.f_eq, impl_FactorSetOfChoice.f_eq]
  rcases choice_ g z hl hr with ⟨h, F, N, K, c, cI, cS, hM, hC, hQ⟩ | ⟨e, e0, cI, cS⟩
  rotate_left
  · exact ⟨0, [], e, by rw [cS, Option.bind_some, if_neg e0], by rw [cI, Option.bind_some]; exact if_neg e0, by simp⟩
  obtain ⟨U, hU⟩ := c.unit
  obtain ⟨V, hV⟩ := c.val
  have hg := c.grp; have n8 := hg.n8; have hlF := c.cst.lenF; have z1 := c.z1; have zn := c.zn; have hlN := c.cst.len
  obtain ⟨K2, K8⟩ := c.two
  obtain ⟨r0, _⟩ := c.cst.first (by have := hg.n1; omega)
  have h1 := Module_ c hU hV hM hC hQ
  have h3 := orderOf_ hg (show 0 ≤ z by omega) zn c.ord
  obtain ⟨q1, q2⟩ := quo_len g F N
  have hq := quo_grp hg c.sub c.norm c.cst
  obtain ⟨R, hR⟩ : ∃ R, F.length = R + 1 := ⟨F.length - 1, by omega⟩
  have hb : ((quo g F N).length : Int) - 1 = (R : Int) := by omega
  have hcell : cells (quo g F N) 2 = ((R * R : Nat) : Int) := by
    unfold cells
    rw [hb, show (2 : Int).toNat = 2 from rfl, Int.pow_succ, Int.pow_succ, Int.pow_zero, Int.one_mul]
    omega
  have hval : ∀ i : Nat, i < R * R → i / R < R ∧ i % R < R ∧ lst (R : Int) 2 (i : Int) = [((i / R + 1 : Nat) : Int), ((i % R + 1 : Nat) : Int)] := fun i hi => by
    have R0 : 0 < R := by
      rcases Nat.eq_zero_or_pos R with e | e
      · subst e; omega
      · exact e
    have d1 : i / R < R := (Nat.div_lt_iff_lt_mul R0).2 hi
    refine ⟨d1, Nat.mod_lt _ R0, ?_⟩
    show (([] : List Int) ++ [((i : Int) / (R : Int)) % (R : Int) + 1]) ++ [(i : Int) % (R : Int) + 1] = _
    rw [show (i : Int) / (R : Int) = ((i / R : Nat) : Int) from rfl, show (i : Int) % (R : Int) = ((i % R : Nat) : Int) from rfl]
    generalize i / R = A at *
    generalize i % R = Q at *
    rw [show (A : Int) % (R : Int) = (A : Int) from Int.emod_eq_of_lt (by omega) (by omega)]
    simp
  have hfv : ∀ i : Nat, fval F V i = ((V (i / R + 1) (i % R + 1) : Nat) : Int) := fun i => by unfold fval; rw [hR, Nat.add_sub_cancel]
  have hT := told hq (m := (K : Int)) (by omega) (by omega) (n := 2) (by omega) (F := fun z0 => (impl_FactorSetOfChoice_1.f z0 g F z N).map fun z => z) (G := fval F V) (fun i hi => by
    rw [show ((2 : Nat) : Int) = 2 from rfl, hcell] at hi
    have hi : i < R * R := by omega
    obtain ⟨d1, d2, el⟩ := hval i hi
    obtain ⟨hv, k, hk, ek, b, ⟨b0, b1⟩, eI, _, ev⟩ := hV (i / R + 1) (i % R + 1) (by omega) (by omega)
    obtain ⟨⟨p0, p1⟩, _⟩ := c.cst.rep hg c.sub (i := i / R + 1) (by omega)
    obtain ⟨⟨s0, s1⟩, _⟩ := c.cst.rep hg c.sub (i := i % R + 1) (by omega)
    obtain ⟨c0, c1⟩ := hg.ent _ _ p0 p1 s0 s1
    have ht := times2 hg p0 p1 s0 s1
    have ht2 := times2 hg c0 c1 b0 b1
    have he := exponent_ hg (show 0 ≤ z by omega) zn c.ord hv
    rw [← ev] at he
    rw [hb, el]
    have hf := hfv i
    rw [hf]
    clear hf
    generalize i / R = A at *
    generalize i % R = Q at *
    have x0 : rd [((A + 1 : Nat) : Int), ((Q + 1 : Nat) : Int)] 0 = ((A + 1 : Nat) : Int) := rfl
    have x1 : rd [((A + 1 : Nat) : Int), ((Q + 1 : Nat) : Int)] 1 = ((Q + 1 : Nat) : Int) := rfl
    have xl : (([((A + 1 : Nat) : Int), ((Q + 1 : Nat) : Int)] : List Int).length : Int) = 2 := rfl
    show Option.map _ (impl_FactorSetOfChoice_1.f _ g F z N) = _
    rw [impl_FactorSetOfChoice_1.f_eq, xl, x0, x1, if_pos (by omega), if_pos (by omega), if_pos (by omega), if_pos (by omega), if_pos (by omega), if_pos (by omega), ht, Option.bind_some, if_pos c0, if_pos (by omega), ek, if_pos (by omega), if_pos (by omega), eI, Option.bind_some, ht2, Option.bind_some, he]
    rfl)
  have hmod : (List.range (cells (quo g F N) ((2 : Nat) : Int)).toNat).map (fun i => fval F V i % (K : Int)) = (List.range ((F.length - 1) * (F.length - 1))).map (fval F V) := by
    rw [show ((2 : Nat) : Int) = 2 from rfl, hcell, Int.toNat_natCast, hR, Nat.add_sub_cancel]
    apply List.map_congr_left
    intro i hi
    have hi := List.mem_range.1 hi
    obtain ⟨d1, d2, _⟩ := hval i hi
    obtain ⟨hv, _⟩ := hV (i / R + 1) (i % R + 1) (by omega) (by omega)
    rw [hfv i]
    exact Int.emod_eq_of_lt (by omega) (by omega)
  rw [hmod] at hT
  have hRR : (F.length - 1) * (F.length - 1) ≤ 8 * 8 := Nat.mul_le_mul (by omega) (by omega)
  refine ⟨2, (List.range ((F.length - 1) * (F.length - 1))).map (fval F V), 0, ?_, ?_, by rw [List.length_map, List.length_range]; omega⟩
  · rw [cS, Option.bind_some, if_pos rfl, h1]; rfl
  · rw [cI, Option.bind_some]
    dsimp only
    rw [if_pos rfl, h3, Option.bind_some, show (2 : Int) = ((2 : Nat) : Int) from rfl, hT]; rfl
end Go.Proofs.Ytlkdhmijgpadaaa.V
set_option linter.unusedVariables false
set_option linter.unusedSimpArgs false
set_option maxHeartbeats 4000000
set_option maxRecDepth 20000
namespace Go.Proofs.Ytlkdhmijgpadaaa.Pure
open Go.RowKit Go.Proofs.Ytlkdhmijgpadaaa.D Go.Proofs.Ytlkdhmijgpadaaa.P Go.Proofs.Ytlkdhmijgpadaaa.V
theorem FnExactFactorSetOfChoice_pure : ∀ (g0 : List (List Int)) (a1 : Int), g0.length ≤ maxLen → (∀ r ∈ g0, r.length ≤ maxLen ∧ ∀ x ∈ r, (Lit.int .i64 x).wf = true) → (Lit.int .i64 a1).wf = true → laws_FnExactFactorSetOfChoice.f g0 a1 = some true := by
  intro g0 a1 hl0 hq0 hw1
  have hr0 : ∀ r ∈ g0, r.length ≤ maxLen := fun r h => (hq0 r h).1
  rw [laws_FnExactFactorSetOfChoice.f_eq]
  obtain ⟨t0, e0, z0⟩ := szGroup g0 1048576 hl0 hr0 (by omega) (by omega)
  rcases z0 with z0 | ⟨ta0, tb0, kl0, kr0⟩
  · ((with_reducible repeat (first | refine go_pos (by first | assumption | omega | rfl | exact B_pos (by omega)) ?_ | refine go_neg (by first | assumption | omega | decide | exact B_not (by omega)) ?_ | refine go_bind (by first | assumption) ?_ | dsimp only)); first | done | (with_reducible rfl) | simp (disch := omega) only [w64] | (show False; done))
  obtain ⟨c0, R0, c1, hS, hI, rb0⟩ := same_FactorSetOfChoice g0 a1 hl0 hr0
  have eT0 := toGroup g0 kl0 kr0
  have eS0 := same_Group g0 hl0 hr0
  have eN0 := tot_small kl0 kr0
  have eK0 := markGroup g0 (1) (by omega) (by omega) (by omega)
  have rS0 := same_Cochain c0 R0 (le_maxLen (by omega))
  have rK0 := markCochain c0 R0 (1) (by omega) (by omega)
  have rH0 := heldCochain c0 (1) R0.length (by omega) (by omega)
  ((with_reducible repeat (first | refine go_pos (by first | assumption | omega | rfl | exact B_pos (by omega)) ?_ | refine go_neg (by first | assumption | omega | decide | exact B_not (by omega)) ?_ | refine go_bind (by first | assumption) ?_ | dsimp only)); first | done | (with_reducible rfl) | simp (disch := omega) only [w64] | (show False; done))
end Go.Proofs.Ytlkdhmijgpadaaa.Pure
namespace Go.Proofs.Ytlkdhmijgpadaaa.shut
theorem mayEnter : Try.pinned.checked.prog.mayEnter = true := by kernel_rfl
theorem lifted : (Rows.fnExactOrdersOfExtensionRow.lifted == Try.pinned.checked.prog.liftsFinal) = true := by kernel_rfl
theorem make : (Try.pinned.checked.prog.make == some Rows.fnExactOrdersOfExtensionRow.make) = true := by kernel_rfl
end Go.Proofs.Ytlkdhmijgpadaaa.shut
