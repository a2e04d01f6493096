/- What the proof of the law MoveCochain stands on, part 5: words, each Go function's Lean function, and that the Go code comes to its answers; no condition. (Packed by wip/myprint/pack.py out of what the kit's printer wrote, its words among it, partly by our patches of it, and out of texts of this session.) -/
import Derived.ChangeSlices
import Derived.ChangeSame
import Derived.Deep.Matrix
import Derived.Lib.SmallJoins
import Derived.Test.YtdiadcmkddkjpaaKMoveCochain3
import Derived.Test.YtdiadcmkddkjpaaKMoveCochain4
set_option linter.unusedVariables false
set_option linter.unusedSimpArgs false
set_option maxHeartbeats 2000000
set_option maxRecDepth 20000
namespace Go.Proofs.Ytdiadcmkddkjpaa.V
open Go.RowKit Go.Proofs.Ytdiadcmkddkjpaa.D Go.Proofs.Ytdiadcmkddkjpaa.P
theorem inv_is {g : List (List Int)} (hg : Grp g) {a : Int} (a0 : 0 ≤ a) (a1 : a < g.length) :
    ∃ b : Int, 0 ≤ b ∧ b < g.length ∧ T g a b = 0 ∧ impl_Group_inverse.f g a = some b ∧ spec_l01Inverse.f g a = some b := by
  have hm := maxLen_le
  have n8 := hg.n8
  have lr := hg.row a a0 a1
  have hlr : (row g a).length ≤ maxLen := le_maxLen (by omega)
  rcases index_ (row g a) 0 hlr with ⟨h, _⟩ | ⟨b, b0, b1, hf, hb, e⟩
  · obtain ⟨b, b0, b1, hb⟩ := hg.inv a a0 a1
    exact absurd hb (h b b0 (by omega))
  refine ⟨b, b0, by omega, hb, ?_, ?_⟩
  · rw [impl_Group_inverse.f_eq]
    ((with_reducible repeat (first | refine go_pos (by first | assumption | omega | rfl | exact B_pos (by omega)) ?_ | refine go_neg (by first | assumption | omega | decide | exact B_not (by omega)) ?_ | refine go_bind (by first | assumption) ?_ | dsimp only)); first | done | (with_reducible rfl) | simp (disch := omega) only [w64] | (show False; done))
  · rw [spec_l01Inverse.f_eq]
    obtain ⟨n, rfl⟩ := Int.eq_ofNat_of_zero_le b0
    have := up n (fun i => spec_l01Inverse.l0 a (i : Int) g) (fun i hi => by
      have h2 : T g a i ≠ 0 := hf i (by omega) (by omega)
      have hw : wrap64 ((i : Int) + 1) = ((i + 1 : Nat) : Int) := by rw [w64 (by omega) (by omega)]; omega
      (rw [spec_l01Inverse.l0_eq, spec_l01N.f_eq, Option.bind_some, hw])
      ((with_reducible repeat (first | refine go_pos (by first | assumption | omega | rfl | exact B_pos (by omega)) ?_ | refine go_neg (by first | assumption | omega | decide | exact B_not (by omega)) ?_ | refine go_bind (by first | assumption) ?_ | dsimp only)); first | done | (with_reducible rfl) | simp (disch := omega) only [w64] | (show False; done)))
    simp only [Int.natCast_zero] at this
    have hb : T g a n = 0 := hb
    rw [this, spec_l01Inverse.l0_eq, spec_l01N.f_eq, Option.bind_some]
    ((with_reducible repeat (first | refine go_pos (by first | assumption | omega | rfl | exact B_pos (by omega)) ?_ | refine go_neg (by first | assumption | omega | decide | exact B_not (by omega)) ?_ | refine go_bind (by first | assumption) ?_ | dsimp only)); first | done | (with_reducible rfl) | simp (disch := omega) only [w64] | (show False; done))
theorem conj_is {g : List (List Int)} (hg : Grp g) {x : Int} (x0 : 0 ≤ x) (x1 : x < g.length) :
    ∃ C : Int → Int, ∀ y : Int, 0 ≤ y → y < g.length → (0 ≤ C y ∧ C y < g.length) ∧ impl_Group_conjugate.f g x y = some (C y) ∧ spec_l01Conjugate.f g y x = some (C y) := by
  obtain ⟨b, b0, b1, hb, eI, eS⟩ := inv_is hg x0 x1
  refine ⟨fun y => T g (T g x y) b, fun y y0 y1 => ?_⟩
  obtain ⟨c0, c1⟩ := hg.ent x y x0 x1 y0 y1
  obtain ⟨d0, d1⟩ := hg.ent _ b c0 c1 b0 b1
  have lx := hg.row x x0 x1
  have lc := hg.row _ c0 c1
  refine ⟨⟨d0, d1⟩, ?_, ?_⟩
  · rw [impl_Group_conjugate.f_eq]
    have ht := times hg [x, y, b] (allIn_three x0 x1 y0 y1 b0 b1) (le_maxLen (by simp))
    have e : [x, y, b].foldl (T g) 0 = T g (T g x y) b := by
      show T g (T g (T g 0 x) y) b = _
      rw [hg.one x x0 x1]
    rw [e] at ht
    ((with_reducible repeat (first | refine go_pos (by first | assumption | omega | rfl | exact B_pos (by omega)) ?_ | refine go_neg (by first | assumption | omega | decide | exact B_not (by omega)) ?_ | refine go_bind (by first | assumption) ?_ | dsimp only)); first | done | (with_reducible rfl) | simp (disch := omega) only [w64] | (show False; done))
  · rw [spec_l01Conjugate.f_eq]
    ((with_reducible repeat (first | refine go_pos (by first | assumption | omega | rfl | exact B_pos (by omega)) ?_ | refine go_neg (by first | assumption | omega | decide | exact B_not (by omega)) ?_ | refine go_bind (by first | assumption) ?_ | dsimp only)); first | done | (with_reducible rfl) | simp (disch := omega) only [w64] | (show False; done))
def lst (b : Int) : Nat → Int → List Int
  | 0, _ => []
  | n + 1, i => lst b n (i / b) ++ [i % b + 1]
theorem lst_length (b : Int) : ∀ n i, (lst b n i).length = n := by
  intro n
  induction n with
  | zero => intro i; rfl
  | succ n ih => intro i; simp [lst, ih]
theorem lst_in {b : Int} (hb : 0 < b) : ∀ n i, ∀ x ∈ lst b n i, 1 ≤ x ∧ x < b + 1 := by
  intro n
  induction n with
  | zero => intro i x hx; simp [lst] at hx
  | succ n ih =>
    intro i x hx
    have m0 := Int.emod_nonneg i (show b ≠ 0 by omega)
    have m1 := Int.emod_lt_of_pos i hb
    rcases List.mem_append.1 hx with h | h
    · exact ih _ x h
    · rw [List.mem_singleton] at h; omega
theorem set_last (n : Nat) (t : List Int) (x : Int) : (List.replicate (n + 1) 0 ++ t).set n x = List.replicate n 0 ++ (x :: t) := by
  rw [List.replicate_succ', List.append_assoc, List.set_append, if_neg (by simp)]
  simp
theorem listOf {g : List (List Int)} (hg : Grp g) (n : Nat) (h2 : n = 0 ∨ 2 ≤ g.length) (hn : n ≤ 4) {i : Int} (i0 : 0 ≤ i) (i1 : i ≤ 16807) :
    impl_listOf.f g (n : Int) i = some (lst ((g.length : Int) - 1) n i) ∧ spec_l03List.f g (n : Int) i = some (lst ((g.length : Int) - 1) n i) := by
  have n8 := hg.n8; have n1 := hg.n1
  obtain ⟨b, hb⟩ : ∃ b : Int, b = (g.length : Int) - 1 := ⟨_, rfl⟩
  have hw0 : wrap64 ((g.length : Int) - 1) = b := by rw [hb]; exact w64 (by omega) (by omega)
  rw [← hb]
  have b1 : n = 0 ∨ 1 ≤ b := by omega
  have b7 : b ≤ 7 := by omega
  have fact : ∀ (n : Nat) (i : Int), n ≤ 4 → 1 ≤ b → 0 ≤ i → i ≤ 16807 → wrap64 (Int.tdiv i b) = i / b ∧ wrap64 (1 + Int.tmod i b) = i % b + 1 ∧ wrap64 (Int.tmod i b + 1) = i % b + 1 ∧ wrap64 ((n : Int) - 1) = (n : Int) - 1 ∧ 0 ≤ i / b ∧ i / b ≤ 16807 := by
    intro n i hn b1 i0 i1
    have m0 := Int.emod_nonneg i (show b ≠ 0 by omega)
    have m1 := Int.emod_lt_of_pos i (show 0 < b by omega)
    have d0 : 0 ≤ i / b := Int.ediv_nonneg i0 (by omega)
    have d1 : i / b ≤ i := Int.ediv_le_self _ i0
    rw [tdiv_nn i0, tmod_nn i0]
    exact ⟨w64 (by omega) (by omega), by rw [w64 (by omega) (by omega)]; omega, w64 (by omega) (by omega), w64 (by omega) (by omega), d0, by omega⟩
  have hwn : wrap64 ((n : Int) - 1) = (n : Int) - 1 := w64 (by omega) (by omega)
  constructor
  · rw [impl_listOf.f_eq, impl_order.f_eq, Option.bind_some, hw0, hwn, Int.toNat_natCast]
    (with_reducible repeat (first | refine go_pos (by first | assumption | omega | rfl | exact B_pos (by omega)) ?_ | refine go_neg (by first | assumption | omega | decide | exact B_not (by omega)) ?_ | refine go_bind (by first | assumption) ?_ | dsimp only))
    suffices H : ∀ (n : Nat) (i : Int) (t : List Int), n ≤ 4 → (n = 0 ∨ 1 ≤ b) → 0 ≤ i → i ≤ 16807 → impl_listOf.l0 i b ((n : Int) - 1) (List.replicate n 0 ++ t) = some (lst b n i ++ t) by
      simpa using H n i [] hn b1 i0 i1
    intro n
    induction n with
    | zero => intro i t _ _ _ _; rw [impl_listOf.l0_eq]; (with_reducible repeat (first | refine go_pos (by first | assumption | omega | rfl | exact B_pos (by omega)) ?_ | refine go_neg (by first | assumption | omega | decide | exact B_not (by omega)) ?_ | refine go_bind (by first | assumption) ?_ | dsimp only)); rfl
    | succ n ih =>
      intro i t hn b1 i0 i1
      obtain ⟨f1, f2, f3, f5, f6, f7⟩ := fact n i (by omega) (by omega) i0 i1
      have h := ih (i / b) ((i % b + 1) :: t) (by omega) (by omega) f6 f7
      have e : ((n + 1 : Nat) : Int) - 1 = (n : Int) := by omega
      have l1 : (List.replicate (n + 1) (0 : Int) ++ t).length = n + 1 + t.length := by rw [List.length_append, List.length_replicate]
      rw [e, impl_listOf.l0_eq, f1, f2, f5, Int.toNat_natCast, set_last]
      (with_reducible repeat (first | refine go_pos (by first | assumption | omega | rfl | exact B_pos (by omega)) ?_ | refine go_neg (by first | assumption | omega | decide | exact B_not (by omega)) ?_ | refine go_bind (by first | assumption) ?_ | dsimp only))
      rw [h, lst, List.append_assoc, List.singleton_append]
  · rw [spec_l03List.f_eq, spec_l01N.f_eq, Option.bind_some, hw0, hwn, Int.toNat_natCast]
    (with_reducible repeat (first | refine go_pos (by first | assumption | omega | rfl | exact B_pos (by omega)) ?_ | refine go_neg (by first | assumption | omega | decide | exact B_not (by omega)) ?_ | refine go_bind (by first | assumption) ?_ | dsimp only))
    suffices H : ∀ (n : Nat) (i : Int) (t : List Int), n ≤ 4 → (n = 0 ∨ 1 ≤ b) → 0 ≤ i → i ≤ 16807 → spec_l03List.l0 i b ((n : Int) - 1) (List.replicate n 0 ++ t) = some (lst b n i ++ t) by
      simpa using H n i [] hn b1 i0 i1
    intro n
    induction n with
    | zero => intro i t _ _ _ _; rw [spec_l03List.l0_eq]; (with_reducible repeat (first | refine go_pos (by first | assumption | omega | rfl | exact B_pos (by omega)) ?_ | refine go_neg (by first | assumption | omega | decide | exact B_not (by omega)) ?_ | refine go_bind (by first | assumption) ?_ | dsimp only)); rfl
    | succ n ih =>
      intro i t hn b1 i0 i1
      obtain ⟨f1, f2, f3, f5, f6, f7⟩ := fact n i (by omega) (by omega) i0 i1
      have h := ih (i / b) ((i % b + 1) :: t) (by omega) (by omega) f6 f7
      have e : ((n + 1 : Nat) : Int) - 1 = (n : Int) := by omega
      have l1 : (List.replicate (n + 1) (0 : Int) ++ t).length = n + 1 + t.length := by rw [List.length_append, List.length_replicate]
      rw [e, spec_l03List.l0_eq, f1, f3, f5, Int.toNat_natCast, set_last]
      (with_reducible repeat (first | refine go_pos (by first | assumption | omega | rfl | exact B_pos (by omega)) ?_ | refine go_neg (by first | assumption | omega | decide | exact B_not (by omega)) ?_ | refine go_bind (by first | assumption) ?_ | dsimp only))
      rw [h, lst, List.append_assoc, List.singleton_append]
theorem cells_two {g : List (List Int)} (hg : Grp g) {n : Nat} (hc : 0 < cells g n) : n = 0 ∨ 2 ≤ g.length := by
  have n1 := hg.n1
  by_cases h : n = 0
  · exact .inl h
  by_cases h2 : 2 ≤ g.length
  · exact .inr h2
  · have : (g.length : Int) - 1 = 0 := by omega
    have e : cells g (n : Int) = 0 := by unfold cells; rw [this, Int.toNat_natCast]; exact Int.zero_pow h
    omega
theorem cell_list {g : List (List Int)} (hg : Grp g) {n i : Nat} (hn : n ≤ 4) (hi : (i : Int) < cells g n) : impl_listOf.f g (n : Int) i = some (lst ((g.length : Int) - 1) n i) ∧ spec_l03List.f g (n : Int) i = some (lst ((g.length : Int) - 1) n i) := by
  have hb := cells_bd hg (d := (n : Int)) (by omega)
  exact listOf hg n (cells_two hg (by omega)) hn (by omega) (by omega)
theorem lst_grp {g : List (List Int)} (hg : Grp g) {n i : Nat} (hi : (i : Int) < cells g n) : AllIn g.length (lst ((g.length : Int) - 1) n i) ∧ NoUnit (lst ((g.length : Int) - 1) n i) := by
  have n1 := hg.n1
  have H : ∀ x ∈ lst ((g.length : Int) - 1) n i, 1 ≤ x ∧ x < g.length := by
    rcases cells_two hg (show 0 < cells g n by omega) with h | g2
    · subst h; intro x hx; simp [lst] at hx
    · intro x hx
      have := lst_in (b := (g.length : Int) - 1) (by omega) n i x hx
      omega
  exact ⟨allIn_of fun x hx => by have := H x hx; omega, fun j j0 j1 h => by have := H _ (rd_mem j0 j1); omega⟩
theorem mapped {F : Int → Option Int} {G : Int → Int} (xs : List Int) (hl : xs.length ≤ 1048576) (hF : ∀ x ∈ xs, F x = some (G x)) : impl_mapped.f xs F = some (xs.map G) := by
  rw [impl_mapped.f_eq]
  have := up xs.length (fun j => impl_mapped.l0 F xs (xs.length : Int) (j : Int) ((xs.take j).map G)) (fun j h => by
    have hw : wrap64 ((j : Int) + 1) = ((j + 1 : Nat) : Int) := by rw [w64 (by omega) (by omega)]; omega
    have l1 : ((xs.take j).map G).length = j := by rw [List.length_map, List.length_take]; omega
    have l2 : ∀ x : Int, ([x] : List Int).length = 1 := fun _ => rfl
    have hf := hF _ (rd_mem (show (0 : Int) ≤ j by omega) (show (j : Int) < xs.length by omega))
    rw [take_rd h, List.map_append, List.map_singleton, impl_mapped.l0_eq, hw, hf, Option.bind_some, l1, l2]
    ((with_reducible repeat (first | refine go_pos (by first | assumption | omega | rfl | exact B_pos (by omega)) ?_ | refine go_neg (by first | assumption | omega | decide | exact B_not (by omega)) ?_ | refine go_bind (by first | assumption) ?_ | dsimp only)); first | done | (with_reducible rfl) | simp (disch := omega) only [w64] | (show False; done)))
  simp only [Int.natCast_zero, List.take_zero, List.map_nil, List.take_length] at this
  rw [this, impl_mapped.l0_eq]
  ((with_reducible repeat (first | refine go_pos (by first | assumption | omega | rfl | exact B_pos (by omega)) ?_ | refine go_neg (by first | assumption | omega | decide | exact B_not (by omega)) ?_ | refine go_bind (by first | assumption) ?_ | dsimp only)); first | done | (with_reducible rfl) | simp (disch := omega) only [w64] | (show False; done))
theorem build_step (G : Nat → Int) (n i : Nat) (h : i < n) : ((List.range i).map G ++ List.replicate (n - i) 0).set i (G i) = (List.range (i + 1)).map G ++ List.replicate (n - (i + 1)) 0 := by
  rw [List.set_append, if_neg (by simp), List.length_map, List.length_range, Nat.sub_self, show n - i = (n - (i + 1)) + 1 by omega, List.replicate_succ, List.set_cons_zero, List.range_succ, List.map_append]
  simp
theorem build_len (G : Nat → Int) (n i : Nat) (h : i ≤ n) : ((List.range i).map G ++ List.replicate (n - i) 0).length = n := by rw [List.length_append, List.length_map, List.length_range, List.length_replicate]; omega
theorem mod_mod {a m : Int} (m0 : 0 < m) (m1 : m ≤ 1000000) : Int.tmod (wrap64 (Int.tmod a m + m)) m = a % m := by
  have t0 := Int.tmod_lt_of_pos a m0
  have t1 : -m < Int.tmod a m := Int.lt_tmod_of_pos a m0
  have hq := Int.mul_tdiv_add_tmod a m
  have h5 : (m * a.tdiv m + a.tmod m) % m = a.tmod m % m := by rw [Int.add_comm, Int.add_mul_emod_self_left]
  rw [hq] at h5
  rw [w64 (by omega) (by omega), Int.tmod_eq_emod_of_nonneg (show 0 ≤ Int.tmod a m + m by omega), Int.add_emod_right, ← h5]
theorem zero_ {g : List (List Int)} (hg : Grp g) {n : Nat} (hn : n ≤ 4) : impl_zero.f g (n : Int) = some ((n : Int), List.replicate (cells g n).toNat 0) := by
  have hb := cells_bd hg (d := (n : Int)) (by omega)
  have hc := cells_ hg (d := (n : Int)) (by omega) (by omega)
  rw [impl_zero.f_eq]
  ((with_reducible repeat (first | refine go_pos (by first | assumption | omega | rfl | exact B_pos (by omega)) ?_ | refine go_neg (by first | assumption | omega | decide | exact B_not (by omega)) ?_ | refine go_bind (by first | assumption) ?_ | dsimp only)); first | done | (with_reducible rfl) | simp (disch := omega) only [w64] | (show False; done))
theorem told {g : List (List Int)} (hg : Grp g) {m : Int} (m2 : 2 ≤ m) (m12 : m ≤ 12) {n : Nat} (hn : n ≤ 4) {F : List Int → Option Int} {G : Nat → Int} (hF : ∀ i : Nat, (i : Int) < cells g n → F (lst ((g.length : Int) - 1) n i) = some (G i)) :
    impl_told.f g m (n : Int) F = some ((n : Int), (List.range (cells g n).toNat).map fun i => G i % m) := by
  have hb := cells_bd hg (d := (n : Int)) (by omega)
  have hz := zero_ hg hn
  obtain ⟨N, hN⟩ : ∃ N, N = (cells g n).toNat := ⟨_, rfl⟩
  rw [impl_told.f_eq, hz, Option.bind_some, ← hN]
  have := up N (fun j => impl_told.l0 m (n : Int) F (N : Int) (j : Int) g 0 (n : Int) ((List.range j).map (fun i => G i % m) ++ List.replicate (N - j) 0)) (fun j h => by
    have hw : wrap64 ((j : Int) + 1) = ((j + 1 : Nat) : Int) := by rw [w64 (by omega) (by omega)]; omega
    have f := hF j (by omega)
    have hl := (cell_list hg hn (i := j) (by omega)).1
    have l1 := build_len (fun i => G i % m) N j (by omega)
    have e := mod_mod (a := G j) (m := m) (by omega) (by omega)
    rw [← build_step (fun i => G i % m) N j h, impl_told.l0_eq, hw, hl, Option.bind_some, f, Option.bind_some, e, Int.toNat_natCast]
    ((with_reducible repeat (first | refine go_pos (by first | assumption | omega | rfl | exact B_pos (by omega)) ?_ | refine go_neg (by first | assumption | omega | decide | exact B_not (by omega)) ?_ | refine go_bind (by first | assumption) ?_ | dsimp only)); first | done | (with_reducible rfl) | simp (disch := omega) only [w64] | (show False; done)))
  simp only [Int.natCast_zero, List.range_zero, List.map_nil, List.nil_append, Nat.sub_zero, Nat.sub_self, List.replicate_zero, List.append_nil] at this
  simp only [List.length_replicate]
  rw [this, impl_told.l0_eq]
  ((with_reducible repeat (first | refine go_pos (by first | assumption | omega | rfl | exact B_pos (by omega)) ?_ | refine go_neg (by first | assumption | omega | decide | exact B_not (by omega)) ?_ | refine go_bind (by first | assumption) ?_ | dsimp only)); first | done | (with_reducible rfl) | simp (disch := omega) only [w64] | (show False; done))
end Go.Proofs.Ytdiadcmkddkjpaa.V
set_option linter.unusedVariables false
set_option linter.unusedSimpArgs false
set_option maxHeartbeats 2000000
set_option maxRecDepth 20000
namespace Go.Proofs.Ytdiadcmkddkjpaa.V
open Go.RowKit Go.Proofs.Ytdiadcmkddkjpaa.D Go.Proofs.Ytdiadcmkddkjpaa.P
theorem elements {g : List (List Int)} (hg : Grp g) {xs : List Int} (hl : xs.length ≤ maxLen) : spec_l01Elements.f g xs = some (ite_ (AllIn g.length xs) 0 2) := by
  have hm := maxLen_le
  have n8 := hg.n8
  have hG : spec_l01Is.f g = some true := by rw [Is_ g, B_pos hg]
  rw [spec_l01Elements.f_eq]
  (with_reducible repeat (first | refine go_pos (by first | assumption | omega | rfl | exact B_pos (by omega)) ?_ | refine go_neg (by first | assumption | omega | decide | exact B_not (by omega)) ?_ | refine go_bind (by first | assumption) ?_ | dsimp only))
  have hw : wrap64 ((g.length : Int) - 1) = g.length - 1 := w64 (by omega) (by omega)
  rcases scan xs.length (fun i => spec_l01Elements.l0 xs i g) (fun i => 0 ≤ rd xs i ∧ rd xs i < g.length) (some 2) (fun i i0 i1 _ => by
    refine ⟨fun h => ?_, fun h => ?_⟩ <;> (rw [spec_l01Elements.l0_eq, spec_l01N.f_eq, Option.bind_some, hw]) <;> ((with_reducible repeat (first | refine go_pos (by first | assumption | omega | rfl | exact B_pos (by omega)) ?_ | refine go_neg (by first | assumption | omega | decide | exact B_not (by omega)) ?_ | refine go_bind (by first | assumption | exact In_ _ _ _) ?_ | dsimp only)); first | done | (with_reducible rfl) | simp (disch := omega) only [w64] | (show False; done))) with ⟨h, e⟩ | ⟨j, j0, j1, _, h, _, e⟩
  · have h : AllIn g.length xs := h
    rw [ite_pos h, e]
    (rw [spec_l01Elements.l0_eq])
    ((with_reducible repeat (first | refine go_pos (by first | assumption | omega | rfl | exact B_pos (by omega)) ?_ | refine go_neg (by first | assumption | omega | decide | exact B_not (by omega)) ?_ | refine go_bind (by first | assumption) ?_ | dsimp only)); first | done | (with_reducible rfl) | simp (disch := omega) only [w64] | (show False; done))
  · rw [ite_neg fun k => h (k j j0 j1)]
    exact e
theorem allIn_one_iff {n x : Int} : AllIn n [x] ↔ 0 ≤ x ∧ x < n := ⟨fun h => h.mem (List.mem_singleton.2 rfl), fun h => allIn_one h.1 h.2⟩
theorem map_in {n : Int} {xs : List Int} {C : Int → Int} (hx : AllIn n xs) (hC : ∀ y : Int, 0 ≤ y → y < n → 0 ≤ C y ∧ C y < n) : AllIn n (xs.map C) := allIn_of fun x h => by
  obtain ⟨y, hy, rfl⟩ := List.mem_map.1 h
  obtain ⟨a, b⟩ := hx.mem hy
  exact hC y a b
end Go.Proofs.Ytdiadcmkddkjpaa.V
set_option linter.unusedVariables false
set_option linter.unusedSimpArgs false
set_option maxHeartbeats 2000000
set_option maxRecDepth 20000
namespace Go.Proofs.Ytdiadcmkddkjpaa.V
open Go.RowKit Go.Proofs.Ytdiadcmkddkjpaa.D Go.Proofs.Ytdiadcmkddkjpaa.P
theorem conj_step {xs : List Int} (C : Int → Int) {j : Nat} (h : j < xs.length) : ((xs.take j).map C ++ xs.drop j).set j (C (rd xs (j : Int))) = (xs.take (j + 1)).map C ++ xs.drop (j + 1) := by
  have hl : ((xs.take j).map C).length = j := by rw [List.length_map, List.length_take]; omega
  rw [List.set_append, if_neg (by omega), hl, Nat.sub_self, drop_rd h, List.set_cons_zero, take_rd h, List.map_append]
  simp
theorem conj_rd {xs : List Int} (C : Int → Int) {j : Nat} (h : j < xs.length) : rd ((xs.take j).map C ++ xs.drop j) (j : Int) = rd xs (j : Int) := by
  have hl : ((xs.take j).map C).length = j := by rw [List.length_map, List.length_take]; omega
  simp [rd, List.getD_eq_getElem?_getD, List.getElem?_append, hl, Nat.min_eq_left (Nat.le_of_lt h)]
noncomputable def mvV (g : List (List Int)) (u v : List Int) (x : Int) (C : Int → Int) (n i : Nat) : Int := rd u x * At g v ((lst ((g.length : Int) - 1) n (i : Int)).map C)
theorem Move_ {g : List (List Int)} (hg : Grp g) {m x b : Int} {u v : List Int} {n : Nat} (hm : Mdl g m u) (hc : Co g m n v) (x0 : 0 ≤ x) (x1 : x < g.length) (hi : spec_l01Inverse.f g x = some b) {C : Int → Int}
    (hC : ∀ y : Int, 0 ≤ y → y < g.length → (0 ≤ C y ∧ C y < g.length) ∧ impl_Group_conjugate.f g b y = some (C y) ∧ spec_l01Conjugate.f g y b = some (C y)) :
    spec_l03Move.f g m u n v x = some ((n : Int), (List.range (cells g n).toNat).map fun i => mvV g u v x C n i % m) := by
  have hlu := hm.len; have m2 := hm.m2; have m12 := hm.m12; have n8 := hg.n8
  obtain ⟨d0, d1⟩ := hc.1
  have hb := cells_bd hg (d := (n : Int)) (by omega)
  have hCl := Cells_ hg (d := (n : Int)) (by omega) (by omega)
  rw [spec_l03Move.f_eq, hi, Option.bind_some]
  have := up (cells g n).toNat (fun i => spec_l03Move.l0 x b (i : Int) g m u n v 0 n ((List.range i).map fun i => mvV g u v x C n i % m)) (fun i hi => by
    obtain ⟨hx, _⟩ := lst_grp hg (n := n) (i := i) (by omega)
    have hll := lst_length ((g.length : Int) - 1) n i
    have hL := (cell_list hg (n := n) (i := i) (by omega) (by omega)).2
    obtain ⟨xs, hxs⟩ : ∃ xs, xs = lst ((g.length : Int) - 1) n i := ⟨_, rfl⟩
    rw [← hxs] at hx hll hL
    have hy := map_in hx fun y y0 y1 => (hC y y0 y1).1
    have ha := At_bd hg (by omega) hc hy (by rw [List.length_map]; omega)
    obtain ⟨c0, c1⟩ := small_prod hm x0 x1 ha.1 ha.2
    have hat := At_ (u := u) hg hc hy (by rw [List.length_map]; omega)
    have hmod := Mod_ (a := rd u x * At g v (xs.map C)) (m := m) (by omega) (by omega) (by omega) (by omega)
    have inner := up xs.length (fun j => spec_l03Move.l1 x b i (j : Int) g m u n v 0 n ((xs.take j).map C ++ xs.drop j) ((List.range i).map fun i => mvV g u v x C n i % m)) (fun j hj => by
      obtain ⟨a0, a1⟩ := hx j (by omega) (by omega)
      have hcj := (hC _ a0 a1).2.2
      have l1 : ((xs.take j).map C ++ xs.drop j).length = xs.length := by rw [List.length_append, List.length_map, List.length_take, List.length_drop]; omega
      rw [← conj_step C hj, spec_l03Move.l1_eq, conj_rd C hj, wn (j := j) (by omega), Int.toNat_natCast]
      ((with_reducible repeat (first | refine go_pos (by first | assumption | omega | rfl | exact B_pos (by omega)) ?_ | refine go_neg (by first | assumption | omega | decide | exact B_not (by omega)) ?_ | refine go_bind (by first | assumption) ?_ | dsimp only)); first | done | (with_reducible rfl) | simp (disch := omega) only [w64] | (show False; done)))
    simp only [Int.natCast_zero, List.take_zero, List.map_nil, List.drop_zero, List.nil_append, List.take_length, List.drop_length, List.append_nil] at inner
    have l2 : ((List.range i).map fun i => mvV g u v x C n i % m).length = i := by rw [List.length_map, List.length_range]
    have l3 : ∀ y : Int, ([y] : List Int).length = 1 := fun _ => rfl
    have l4 : (xs.map C).length = xs.length := List.length_map ..
    have e : (List.range (i + 1)).map (fun i => mvV g u v x C n i % m) = ((List.range i).map fun i => mvV g u v x C n i % m) ++ [(rd u x * At g v (xs.map C)) % m] := by rw [List.range_succ, List.map_append, List.map_singleton, show mvV g u v x C n i = rd u x * At g v (xs.map C) by rw [hxs]; rfl]
    rw [e, spec_l03Move.l0_eq, hCl, Option.bind_some]
    (with_reducible repeat (first | refine go_pos (by first | assumption | omega | rfl | exact B_pos (by omega)) ?_ | refine go_neg (by first | assumption | omega | decide | exact B_not (by omega)) ?_ | refine go_bind (by first | assumption) ?_ | dsimp only))
    rw [inner, spec_l03Move.l1_eq, hat, Option.bind_some, w64 (x := rd u x * At g v (xs.map C)) (by omega) (by omega), hmod, Option.bind_some, l2, l3, wn (j := i) (by omega)]
    ((with_reducible repeat (first | refine go_pos (by first | assumption | omega | rfl | exact B_pos (by omega)) ?_ | refine go_neg (by first | assumption | omega | decide | exact B_not (by omega)) ?_ | refine go_bind (by first | assumption) ?_ | dsimp only)); first | done | (with_reducible rfl) | simp (disch := omega) only [w64] | (show False; done)))
  simp only [Int.natCast_zero, List.range_zero, List.map_nil] at this
  rw [this, spec_l03Move.l0_eq, hCl, Option.bind_some]
  ((with_reducible repeat (first | refine go_pos (by first | assumption | omega | rfl | exact B_pos (by omega)) ?_ | refine go_neg (by first | assumption | omega | decide | exact B_not (by omega)) ?_ | refine go_bind (by first | assumption) ?_ | dsimp only)); first | done | (with_reducible rfl) | simp (disch := omega) only [w64] | (show False; done))
theorem same_MoveCochain (g : List (List Int)) (m : Int) (u : List Int) (d : Int) (v : List Int) (x : Int) (hl : g.length ≤ maxLen) (hr : ∀ r ∈ g, r.length ≤ maxLen) (hu : u.length ≤ maxLen) (hv : v.length ≤ maxLen) :
    ∃ (a : Int) (R : List Int) (c : Int), spec_MoveCochain.f g m u d v x = some (a, R, c) ∧ impl_MoveCochain.f g m u d v x = some (a, R, c) ∧ R.length ≤ 1048576 := by
  rcases co_codes g hl hr m u hu d v hv with ⟨hg, hm, hc, cI, cS⟩ | ⟨_, cI, cS⟩
  rotate_left
  · refine ⟨0, [], 1, ?_, ?_, by simp⟩
    · rw [spec_MoveCochain.f_eq]
      (with_reducible repeat (first | refine go_pos (by first | assumption | omega | rfl | exact B_pos (by omega)) ?_ | refine go_neg (by first | assumption | omega | decide | exact B_not (by omega)) ?_ | refine go_bind (by first | assumption) ?_ | dsimp only))
      rw [spec_MoveCochain.j0_eq]
      ((with_reducible repeat (first | refine go_pos (by first | assumption | omega | rfl | exact B_pos (by omega)) ?_ | refine go_neg (by first | assumption | omega | decide | exact B_not (by omega)) ?_ | refine go_bind (by first | assumption) ?_ | dsimp only)); first | done | (with_reducible rfl) | simp (disch := omega) only [w64] | (show False; done))
    · rw [impl_MoveCochain.f_eq]
      ((with_reducible repeat (first | refine go_pos (by first | assumption | omega | rfl | exact B_pos (by omega)) ?_ | refine go_neg (by first | assumption | omega | decide | exact B_not (by omega)) ?_ | refine go_bind (by first | assumption) ?_ | dsimp only)); first | done | (with_reducible rfl) | simp (disch := omega) only [w64] | (show False; done))
  have m2 := hm.m2; have m12 := hm.m12; have n8 := hg.n8; have hlu := hm.len
  have hE := elements hg (xs := [x]) (le_maxLen (by simp))
  have hA := areIn (g.length : Int) [x] (le_maxLen (by simp))
  by_cases h : AllIn g.length [x]
  rotate_left
  · rw [ite_neg h] at hE
    refine ⟨0, [], 2, ?_, ?_, by simp⟩
    · rw [spec_MoveCochain.f_eq]
      (with_reducible repeat (first | refine go_pos (by first | assumption | omega | rfl | exact B_pos (by omega)) ?_ | refine go_neg (by first | assumption | omega | decide | exact B_not (by omega)) ?_ | refine go_bind (by first | assumption) ?_ | dsimp only))
      rw [spec_MoveCochain.j0_eq]
      ((with_reducible repeat (first | refine go_pos (by first | assumption | omega | rfl | exact B_pos (by omega)) ?_ | refine go_neg (by first | assumption | omega | decide | exact B_not (by omega)) ?_ | refine go_bind (by first | assumption) ?_ | dsimp only)); first | done | (with_reducible rfl) | simp (disch := omega) only [w64] | (show False; done))
    · rw [impl_MoveCochain.f_eq, impl_order.f_eq, Option.bind_some]
      rw [B_neg h] at hA
      ((with_reducible repeat (first | refine go_pos (by first | assumption | omega | rfl | exact B_pos (by omega)) ?_ | refine go_neg (by first | assumption | omega | decide | exact B_not (by omega)) ?_ | refine go_bind (by first | assumption) ?_ | dsimp only)); first | done | (with_reducible rfl) | simp (disch := omega) only [w64] | (show False; done))
  obtain ⟨x0, x1⟩ := allIn_one_iff.1 h
  rw [ite_pos h] at hE
  rw [B_pos h] at hA
  obtain ⟨b, b0, b1, _, eI, eS⟩ := inv_is hg x0 x1
  obtain ⟨C, hC⟩ := conj_is hg b0 b1
  obtain ⟨n, rfl⟩ := Int.eq_ofNat_of_zero_le hc.1.1
  have n3 : n ≤ 3 := by have := hc.1.2; omega
  have hb := cells_bd hg (d := (n : Int)) (by omega)
  have hM := Move_ hg hm hc x0 x1 eS hC
  have hT := told hg m2 m12 (n := n) (by omega) (F := fun z0 => (impl_MoveCochain_1.f z0 m u x n v g b).map fun z => z) (G := mvV g u v x C n) (fun i hi => by
    obtain ⟨hx, _⟩ := lst_grp hg (n := n) (i := i) (by omega)
    have hll := lst_length ((g.length : Int) - 1) n i
    have hy := map_in hx fun y y0 y1 => (hC y y0 y1).1
    have ha := At_bd hg (by omega) hc hy (by rw [List.length_map]; omega)
    obtain ⟨c0, c1⟩ := small_prod hm x0 x1 ha.1 ha.2
    have hat := at_ hg hc hy (by rw [List.length_map]; omega)
    have hmp := mapped (F := fun z0 => (impl_MoveCochain_1_1.f z0 g b).map fun z => z) (G := C) (lst ((g.length : Int) - 1) n i) (by omega) (fun y hy => by
      obtain ⟨y0, y1⟩ := hx.mem hy
      show Option.map _ (impl_MoveCochain_1_1.f y g b) = _
      rw [impl_MoveCochain_1_1.f_eq, (hC y y0 y1).2.1]
      rfl)
    have e : impl_MoveCochain_1.f (lst ((g.length : Int) - 1) n i) m u x n v g b = some (mvV g u v x C n i) := by
      rw [impl_MoveCochain_1.f_eq, show mvV g u v x C n i = rd u x * At g v ((lst ((g.length : Int) - 1) n i).map C) from rfl]
      ((with_reducible repeat (first | refine go_pos (by first | assumption | omega | rfl | exact B_pos (by omega)) ?_ | refine go_neg (by first | assumption | omega | decide | exact B_not (by omega)) ?_ | refine go_bind (by first | assumption) ?_ | dsimp only)); first | done | (with_reducible rfl) | simp (disch := omega) only [w64] | (show False; done))
    show Option.map _ (impl_MoveCochain_1.f _ m u x n v g b) = _
    rw [e]
    rfl)
  refine ⟨(n : Int), (List.range (cells g n).toNat).map fun i => mvV g u v x C n i % m, 0, ?_, ?_, by rw [List.length_map, List.length_range]; omega⟩
  · rw [spec_MoveCochain.f_eq]
    (with_reducible repeat (first | refine go_pos (by first | assumption | omega | rfl | exact B_pos (by omega)) ?_ | refine go_neg (by first | assumption | omega | decide | exact B_not (by omega)) ?_ | refine go_bind (by first | assumption) ?_ | dsimp only))
    rw [spec_MoveCochain.j0_eq]
    ((with_reducible repeat (first | refine go_pos (by first | assumption | omega | rfl | exact B_pos (by omega)) ?_ | refine go_neg (by first | assumption | omega | decide | exact B_not (by omega)) ?_ | refine go_bind (by first | assumption) ?_ | dsimp only)); first | done | (with_reducible rfl) | simp (disch := omega) only [w64] | (show False; done))
  · rw [impl_MoveCochain.f_eq, impl_order.f_eq, Option.bind_some]
    ((with_reducible repeat (first | refine go_pos (by first | assumption | omega | rfl | exact B_pos (by omega)) ?_ | refine go_neg (by first | assumption | omega | decide | exact B_not (by omega)) ?_ | refine go_bind (by first | assumption) ?_ | dsimp only)); first | done | (with_reducible rfl) | simp (disch := omega) only [w64] | (show False; done))
end Go.Proofs.Ytdiadcmkddkjpaa.V
set_option linter.unusedVariables false
set_option linter.unusedSimpArgs false
set_option maxHeartbeats 2000000
set_option maxRecDepth 20000
namespace Go.Proofs.Ytdiadcmkddkjpaa.Pure
open Go.RowKit Go.Proofs.Ytdiadcmkddkjpaa.D Go.Proofs.Ytdiadcmkddkjpaa.P Go.Proofs.Ytdiadcmkddkjpaa.V
theorem FnExactMoveCochain_pure : ∀ (g0 : List (List Int)) (m1 : Int) (u1 : List Int) (m2 : Int) (u2 : List Int) (a3 : Int), g0.length ≤ maxLen → (∀ r ∈ g0, r.length ≤ maxLen ∧ ∀ x ∈ r, (Lit.int .i64 x).wf = true) → (Lit.int .i64 m1).wf = true → u1.length ≤ maxLen → (∀ x ∈ u1, (Lit.int .i64 x).wf = true) → (Lit.int .i64 m2).wf = true → u2.length ≤ maxLen → (∀ x ∈ u2, (Lit.int .i64 x).wf = true) → (Lit.int .i64 a3).wf = true → laws_FnExactMoveCochain.f g0 m1 u1 m2 u2 a3 = some true := by
  intro g0 m1 u1 m2 u2 a3 hl0 hr0' hw1 hu1 hx1 hw2 hu2 hx2 hw3
  have hr0 : ∀ r ∈ g0, r.length ≤ maxLen := fun r h => (hr0' r h).1
  rw [laws_FnExactMoveCochain.f_eq]
  obtain ⟨t1, e1, h1⟩ := szGroup g0 1048576 hl0 hr0 (by omega) (by omega)
  rcases h1 with h1 | ⟨t1a, t1b, gl0, gr0⟩
  · ((with_reducible repeat (first | refine go_pos (by first | assumption | omega | rfl | exact B_pos (by omega)) ?_ | refine go_neg (by first | assumption | omega | decide | exact B_not (by omega)) ?_ | refine go_bind (by first | assumption) ?_ | dsimp only)); first | done | (with_reducible rfl) | simp (disch := omega) only [w64] | (show False; done))
  obtain ⟨t2, e2, h2⟩ := szModule m1 u1 t1 hu1 (by omega) (by omega)
  rcases h2 with h2 | ⟨t2a, t2b, hs1⟩
  · ((with_reducible repeat (first | refine go_pos (by first | assumption | omega | rfl | exact B_pos (by omega)) ?_ | refine go_neg (by first | assumption | omega | decide | exact B_not (by omega)) ?_ | refine go_bind (by first | assumption) ?_ | dsimp only)); first | done | (with_reducible rfl) | simp (disch := omega) only [w64] | (show False; done))
  obtain ⟨t3, e3, h3⟩ := szCochain m2 u2 t2 hu2 (by omega) (by omega)
  rcases h3 with h3 | ⟨t3a, t3b, hs2⟩
  · ((with_reducible repeat (first | refine go_pos (by first | assumption | omega | rfl | exact B_pos (by omega)) ?_ | refine go_neg (by first | assumption | omega | decide | exact B_not (by omega)) ?_ | refine go_bind (by first | assumption) ?_ | dsimp only)); first | done | (with_reducible rfl) | simp (disch := omega) only [w64] | (show False; done))
  obtain ⟨R0, R1, R2, hS, hI, hR1⟩ := same_MoveCochain g0 m1 u1 m2 u2 a3 hl0 hr0 hu1 hu2
  have eG := toGroup g0 gl0 gr0
  have eM1 := toModule m1 u1 hs1
  have eC2 := toCochain m2 u2 hs2
  have sG := same_Group g0 hl0 hr0
  have sM1 := same_Module m1 u1 hu1
  have sC2 := same_Cochain m2 u2 hu2
  have tG := tot_small gl0 gr0
  have kG := markGroup g0 1 (by omega) (by omega) (by omega)
  have kM1 := markModule m1 u1 (1 + tot g0) (by omega) (by omega)
  have kC2 := markCochain m2 u2 (1 + tot g0 + u1.length) (by omega) (by omega)
  have sR := same_Cochain R0 R1 (le_maxLen (by omega))
  have kR := markCochain R0 R1 1 (by omega) (by omega)
  have hR := heldCochain R0 1 R1.length (by omega) (by omega)
  ((with_reducible repeat (first | refine go_pos (by first | assumption | omega | rfl | exact B_pos (by omega)) ?_ | refine go_neg (by first | assumption | omega | decide | exact B_not (by omega)) ?_ | refine go_bind (by first | assumption) ?_ | dsimp only)); first | done | (with_reducible rfl) | simp (disch := omega) only [w64] | (show False; done))
end Go.Proofs.Ytdiadcmkddkjpaa.Pure
set_option linter.unusedVariables false
namespace Go.Proofs.Ytdiadcmkddkjpaa.D
open Go Go.RowKit
theorem valid_view {P : Program} {g : FuncId} {c : Con} (hv : Valid P g c) {x : lsd (flats c.ins)} {r : c.R} (hx : c.f x = some r) {w : World} {vs : List Value} (ha : ASRs P (fun _ => False) (fun k => k < w.heap.size) w c.ins x vs (fun _ => False)) :
    Calls P g vs.toArray w fun e w' => ∃ u, e = .returned u ∧ Below w.heap.size w w' ∧ ∃ Z' Fo us, u = outV us ∧ ASRs P (fun _ => False) Z' w' c.outs (c.dec r).1 us Fo := by
  refine (hv.2 x r hx (fun k => k < w.heap.size) (fun _ => False) (fun _ => False) w vs ha (fun _ h => h.elim) (fun _ h => h) (fun _ h => h.elim)).mono ?_
  rintro e w' ⟨u, rfl, Z', Fi, Fo, hp⟩
  obtain ⟨us, hu, ho⟩ := hp.out
  exact ⟨u, rfl, ⟨hp.os, hp.tape, hp.output, hp.size, fun k hk => hp.old k hk fun h => h⟩, Z', Fo, us, hu, ho⟩
theorem cell_lt {w : World} {a : Addr} {v : Value} (h : w.cell? a = some v) : a.block < w.heap.size := by
  unfold World.cell? at h
  cases hb : w.heap[a.block]? with
  | none => rw [hb] at h; cases h
  | some o => exact (Array.getElem?_eq_some_iff.1 hb).1
theorem view_raw {α : Type} {w : World} {sz : Nat} {R : α → List Value → Prop} {A : Option Addr} {c : Nat} {xs : List α} (hz : 0 < sz) (hc : xs.length ≤ c) (hm : xs.length ≤ 9223372036854775807)
    (h : 0 < xs.length → ∃ ad, A = some ad ∧ ∀ (j : Nat) (p : α), xs[j]? = some p → ∃ cs, cs.length = sz ∧ R p cs ∧ ∀ (i : Nat) (u : Value), cs[i]? = some u → w.cell? (ad.add (j * sz + i)) = some u) : ViewRep (fun k => k < w.heap.size) w sz R A c xs := by
  refine ⟨hc, hm, fun hl => ?_⟩
  obtain ⟨ad, rfl, hcell⟩ := h hl
  refine ⟨ad, rfl, ?_, hcell⟩
  obtain ⟨cs, h1, h2, h3⟩ := hcell 0 xs[0] (List.getElem?_eq_getElem hl)
  have := cell_lt (h3 0 cs[0] (List.getElem?_eq_getElem (by omega)))
  rwa [add_block] at this
theorem law_true {P : Program} {g : FuncId} {c : Con} (hv : Valid P g c) {x : lsd (flats c.ins)} {r : c.R} (hx : c.f x = some r) {w : World} {vs : List Value} (ha : ASRs P (fun _ => False) (fun k => k < w.heap.size) w c.ins x vs (fun _ => False)) (ho : c.outs = [.one (.v .bool)]) (hr : ∀ y : lsd (flats [.one (.v .bool)]), HEq y (c.dec r).1 → y.1 = true) :
    Calls P g vs.toArray w fun e w' => e = .returned (.bool true) ∧ Below w.heap.size w w' := by
  refine (valid_view hv hx ha).mono ?_
  rintro e w' ⟨u, rfl, hb, Z', Fo, us, rfl, hh⟩
  refine ⟨?_, hb⟩
  obtain ⟨ins, outs, R, f, dec⟩ := c
  have ho : outs = [.one (.v .bool)] := ho
  subst ho
  obtain ⟨v, vs', F0, F1, rfl, h1, h2, _⟩ := hh
  cases h2
  have h1 : [v] = [.bool (dec r).1.1] := h1
  have hb1 : (dec r).1.1 = true := hr _ HEq.rfl
  cases h1
  rw [hb1]
  rfl
end Go.Proofs.Ytdiadcmkddkjpaa.D
set_option linter.unusedVariables false
namespace Go.Proofs.Ytdiadcmkddkjpaa.D
open Go Go.RowKit Go.ChangeShapes Go.WideShapes Go.Joins Go.Deep
section
variable {H : Type} {enc : TypeId × Value → H} {P : Program} {w : World} {base : Nat} {held : Bool}
abbrev Zw (w : World) : Nat → Prop := fun k => k < w.heap.size
abbrev No : Nat → Prop := fun _ => False
theorem rep_ints {q : TypeId} {k : IntKind} {a : Addr} {len cap : Nat} {zs : List Int} (hl : len ≤ cap) (hm : cap ≤ maxLen) (hz : zs.length = cap) (hc : ∀ i, i < zs.length → w.cell? (a.add i) = some (.int k (zs.getD i 0))) (hw : ∀ n ∈ zs, (Lit.int k n).wf = true) :
    ∃ l : List Int, len = l.length ∧ l.length ≤ maxLen ∧ (∀ x ∈ l, (Lit.int k x).wf = true) ∧ Rep (Zw w) w false (.sl q (.int k)) l [.slice (some a) len cap] No := by
  have hlen : (zs.take len).length = len := by rw [List.length_take]; omega
  refine ⟨zs.take len, hlen.symm, by omega, fun x hx => hw x (List.mem_of_mem_take hx), some a, cap, by rw [hlen], ?_⟩
  refine view_raw Nat.one_pos (by show (zs.take len).length ≤ _; omega) (by show (zs.take len).length ≤ _; simp only [maxLen] at hm; omega) fun _ => ⟨a, rfl, fun j p hj => ?_⟩
  have hj : (zs.take len)[j]? = some p := hj
  have hjl : j < len := by
    have := (List.getElem?_eq_some_iff.1 hj).1
    omega
  refine ⟨[.int k p], rfl, rfl, fun i u hu => ?_⟩
  cases i with
  | zero =>
    simp only [List.getElem?_cons_zero, Option.some.injEq] at hu
    subst hu
    have h := hc j (by omega)
    have hp : zs.getD j 0 = p := by
      rw [List.getElem?_take] at hj
      simp only [hjl, if_true] at hj
      simp [List.getD, hj]
    rw [hp] at h
    simpa [Ty.size] using h
  | succ i => simp at hu
theorem rep_none {q : TypeId} {t : Ty} : Rep (Zw w) w false (.sl q t) ([] : List t.den) [.slice none 0 0] No :=
  ⟨none, 0, rfl, Nat.le_refl _, Nat.zero_le _, fun h => absurd h (by simp)⟩
theorem come_ints {t e : TypeId} {k : IntKind} {fuel : Nat} {v : Value} {x : DataW H × List MemPlace} (ht : P.underlying t = some (.slice e)) (he : P.underlying e = some (.int k)) (hc : P.cellsOf e = 1)
    (h : DataW.trod enc P w base (fun _ => true) held fuel t [v] = some x) :
    ∃ l : List Int, l.length ≤ maxLen ∧ (∀ x ∈ l, (Lit.int k x).wf = true) ∧ Rep (Zw w) w false (.sl e (.int k)) l [v] No := by
  rcases open_ints ht he hc h with ⟨hcs, _⟩ | ⟨a, len, cap, zs, hcs, _, hl, hm, hz, _, hcell, hw⟩
  · refine ⟨[], by simp, by simp, ?_⟩
    rw [hcs]
    exact rep_none
  · simp only [if_true] at hz
    obtain ⟨l, h1, h2, h3, h4⟩ := rep_ints (q := e) hl hm hz hcell hw
    exact ⟨l, h2, h3, by rw [hcs]; exact h4⟩
theorem come_rows {t e q : TypeId} {k : IntKind} {fuel : Nat} {v : Value} {x : DataW H × List MemPlace} (ht : P.underlying t = some (.slice e)) (he : P.underlying e = some (.slice q)) (hq : P.underlying q = some (.int k))
    (ce : P.cellsOf e = 1) (cq : P.cellsOf q = 1) (h : DataW.trod enc P w base (fun _ => true) held fuel t [v] = some x) :
    ∃ l : List (List Int), l.length ≤ maxLen ∧ (∀ r ∈ l, r.length ≤ maxLen ∧ ∀ x ∈ r, (Lit.int k x).wf = true) ∧ Rep (Zw w) w false (.sl e (.sl q (.int k))) l [v] No := by
  rcases open_int_rows ht he hq ce cq h with ⟨hcs, _⟩ | ⟨a, len, cap, A, L, C, Z, hcs, _, hl, hm, _, hr⟩
  · refine ⟨[], by simp, by simp, ?_⟩
    rw [hcs]
    exact rep_none
  · have each : ∀ r, r < cap → ∃ y : List Int, y.length ≤ maxLen ∧ (∀ x ∈ y, (Lit.int k x).wf = true) ∧ Rep (Zw w) w false (.sl q (.int k)) y [.slice (A r) (L r) (C r)] No := by
      intro r hrc
      obtain ⟨_, h1, h2, h3, h4, h5, h6⟩ := hr r hrc
      cases hA : A r with
      | none =>
        have hC := h5 hA
        refine ⟨[], by simp, by simp, ?_⟩
        have hL : L r = 0 := by omega
        rw [hL, hC]
        exact rep_none
      | some a' =>
        obtain ⟨l, _, h7, h8, h9⟩ := rep_ints (q := q) h1 h2 h3 (fun i hi => (h6 a' hA).2 i (by omega)) h4
        exact ⟨l, h7, h8, h9⟩
    obtain ⟨Y, hY⟩ := choose_lt each
    have hlen : ((List.range len).map Y).length = len := by simp
    refine ⟨(List.range len).map Y, by omega, fun r hr' => ?_, ?_⟩
    · obtain ⟨j, hj, rfl⟩ := List.mem_map.1 hr'
      obtain ⟨h1, h2, _⟩ := hY j (by have := List.mem_range.1 hj; omega)
      exact ⟨h1, h2⟩
    · rw [hcs]
      refine ⟨some a, cap, by rw [hlen], ?_⟩
      refine view_raw Nat.one_pos (by show ((List.range len).map Y).length ≤ _; omega) (by show ((List.range len).map Y).length ≤ _; simp only [maxLen] at hm; omega) fun _ => ⟨a, rfl, fun j p hj => ?_⟩
      have hj : ((List.range len).map Y)[j]? = some p := hj
      have hjl : j < len := by
        have := (List.getElem?_eq_some_iff.1 hj).1
        omega
      have hp : p = Y j := by simpa [hjl] using hj.symm
      subst hp
      obtain ⟨h1, h2, h3⟩ := hY j (by omega)
      refine ⟨[.slice (A j) (L j) (C j)], rfl, h3, fun i u hu => ?_⟩
      cases i with
      | zero =>
        simp only [List.getElem?_cons_zero, Option.some.injEq] at hu
        subst hu
        have := (hr j (by omega)).1
        simpa [Ty.size] using this
      | succ i => simp at hu
theorem come_int {t : TypeId} {k : IntKind} {fuel : Nat} {v : Value} {x : DataW H × List MemPlace} (ht : P.underlying t = some (.int k)) (h : DataW.trod enc P w base (fun _ => true) held fuel t [v] = some x) : ∃ n : Int, (Lit.int k n).wf = true ∧ Rep (Zw w) w false (.int k) n [v] No := by
  obtain ⟨n, h1, _, h2⟩ := DataW.trod_int ht h
  exact ⟨n, h2, h1⟩
theorem open_agg1 {r : Reach} {b0 : Nat} {t : TypeId} {f0 : Field} {v : Value} {d : DataW H} {p : List MemPlace} {spare : Nat → Bool} (hs : P.underlying t = some (.struct #[f0])) (hone : oneCellFields P #[f0] = true) (hC : P.cellsOf t = 1)
    (hv : Value.okWide P w r b0 t v) (h : DataW.Trod enc P w base spare held t v d p) :
    ∃ (v0 : Value) (y0 : DataW H × List MemPlace) (n : Nat), v = .agg #[v0] ∧ DataW.trod enc P w base spare held n f0.type [v0] = some y0 := by
  obtain ⟨cs, rfl, hsz⟩ := okWide_struct hs hv
  have hsz1 : cs.size = 1 := hsz.trans hC
  obtain ⟨c0, rfl⟩ : ∃ c0, cs = #[c0] := by
    obtain ⟨l⟩ := cs
    match l, hsz1 with
    | [c0], _ => exact ⟨c0, rfl⟩
  obtain ⟨fuel, hf⟩ := h
  obtain ⟨y0, n, hx, _, h0⟩ := trod_struct1 hs hf
  obtain ⟨o0, k0⟩ := hone_of hone 0 f0 rfl
  exact ⟨c0, y0, n, rfl, by simpa [Value.cells, o0, k0] using h0⟩
theorem args_nil : ASRs P No (Zw w) w [] () [] No := rfl
theorem args_one {t : Ty} {x : t.den} {v : Value} {ins : List ASh} {y : lsd (flats ins)} {vs : List Value} (h : Rep (Zw w) w false t x [v] No) (hr : ASRs P No (Zw w) w ins y vs No) : ASRs P No (Zw w) w (.one (.v t) :: ins) (x, y) (v :: vs) No :=
  ⟨v, vs, No, No, rfl, h, hr, fun _ h => h, fun _ h => h, fun _ h => h.elim⟩
theorem args_agg1 {t : Ty} {x : t.den} {v : Value} {ins : List ASh} {y : lsd (flats ins)} {vs : List Value} (h : Rep (Zw w) w false t x [v] No) (hr : ASRs P No (Zw w) w ins y vs No) : ASRs P No (Zw w) w (.agg [.v t] :: ins) (x, y) (.agg #[v] :: vs) No :=
  ⟨.agg #[v], vs, No, No, rfl, ⟨[v], rfl, v, [], No, No, rfl, h, rfl, fun _ h => h, fun _ h => h, fun _ h => h.elim⟩, hr, fun _ h => h, fun _ h => h, fun _ h => h.elim⟩
theorem args_agg2 {t t' : Ty} {x : t.den} {x' : t'.den} {v v' : Value} {ins : List ASh} {y : lsd (flats ins)} {vs : List Value} (h : Rep (Zw w) w false t x [v] No) (h' : Rep (Zw w) w false t' x' [v'] No) (hr : ASRs P No (Zw w) w ins y vs No) : ASRs P No (Zw w) w (.agg [.v t, .v t'] :: ins) (x, x', y) (.agg #[v, v'] :: vs) No :=
  ⟨.agg #[v, v'], vs, No, No, rfl, ⟨[v, v'], rfl, v, [v'], No, No, rfl, h, ⟨v', [], No, No, rfl, h', rfl, fun _ h => h, fun _ h => h, fun _ h => h.elim⟩, fun _ h => h, fun _ h => h, fun _ h => h.elim⟩, hr, fun _ h => h, fun _ h => h, fun _ h => h.elim⟩
end
end Go.Proofs.Ytdiadcmkddkjpaa.D
