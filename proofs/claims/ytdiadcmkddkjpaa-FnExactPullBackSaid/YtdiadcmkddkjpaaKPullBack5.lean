/- What the proof of the law PullBack stands on, part 5: words, each Go function's Lean function, and that the Go code comes to its answers; no condition. (Packed by wip/myprint/pack.py out of what the kit's printer wrote, its words among it, partly by our patches of it, and out of texts of this session.) -/
import Derived.ChangeSlices
import Derived.ChangeSame
import Derived.Deep.Matrix
import Derived.Lib.SmallJoins
import Derived.Test.YtdiadcmkddkjpaaKPullBack3
import Derived.Test.YtdiadcmkddkjpaaKPullBack4
set_option linter.unusedVariables false
set_option linter.unusedSimpArgs false
set_option maxHeartbeats 2000000
set_option maxRecDepth 20000
namespace Go.Proofs.Ytdiadcmkddkjpaa.V
open Go.RowKit Go.Proofs.Ytdiadcmkddkjpaa.D Go.Proofs.Ytdiadcmkddkjpaa.P
theorem pow_nat : ∀ n : Nat, n ≤ 7 → ∀ i : Nat, i ≤ 5 → n ^ i ≤ 16807 := by decide
theorem pow_bd {a : Int} (h0 : 0 ≤ a) (h1 : a ≤ 7) (i : Nat) (hi : i ≤ 5) : 0 ≤ a ^ i ∧ a ^ i ≤ 16807 := by
  obtain ⟨n, rfl⟩ := Int.eq_ofNat_of_zero_le h0
  have h := pow_nat n (by omega) i hi
  rw [← Int.natCast_pow]
  omega
def cells (g : List (List Int)) (d : Int) : Int := ((g.length : Int) - 1) ^ d.toNat
theorem cells_bd {g : List (List Int)} (hg : Grp g) {d : Int} (h1 : d ≤ 5) : 0 ≤ cells g d ∧ cells g d ≤ 16807 := by
  have n8 := hg.n8; have n0 := hg.n1
  exact pow_bd (by omega) (by omega) _ (by omega)
theorem power {a d : Int} (h0 : 0 ≤ a) (h1 : a ≤ 7) (d0 : 0 ≤ d) (d1 : d ≤ 4) : impl_power.f a d = some (a ^ d.toNat) := by
  obtain ⟨n, rfl⟩ := Int.eq_ofNat_of_zero_le d0
  have := up n (fun j => impl_power.l0 a (a ^ j) (n : Int) (j : Int)) (fun j hj => by
    have hw : wrap64 ((j : Int) + 1) = ((j + 1 : Nat) : Int) := by rw [w64 (by omega) (by omega)]; omega
    have b := pow_bd h0 h1 (j + 1) (by omega)
    have hp : wrap64 (a ^ j * a) = a ^ (j + 1) := by rw [show a ^ j * a = a ^ (j + 1) from (Int.pow_succ a j).symm]; exact w64 (by omega) (by omega)
    rw [impl_power.l0_eq, hw, hp]
    ((with_reducible repeat (first | refine go_pos (by first | assumption | omega | rfl | exact B_pos (by omega)) ?_ | refine go_neg (by first | assumption | omega | decide | exact B_not (by omega)) ?_ | refine go_bind (by first | assumption) ?_ | dsimp only)); first | done | (with_reducible rfl) | simp (disch := omega) only [w64] | (show False; done)))
  simp only [Int.pow_zero, Int.natCast_zero] at this
  rw [impl_power.f_eq, this, impl_power.l0_eq, Int.toNat_natCast]
  ((with_reducible repeat (first | refine go_pos (by first | assumption | omega | rfl | exact B_pos (by omega)) ?_ | refine go_neg (by first | assumption | omega | decide | exact B_not (by omega)) ?_ | refine go_bind (by first | assumption) ?_ | dsimp only)); first | done | (with_reducible rfl) | simp (disch := omega) only [w64] | (show False; done))
theorem cells_ {g : List (List Int)} (hg : Grp g) {d : Int} (d0 : 0 ≤ d) (d1 : d ≤ 4) : impl_cells.f g d = some (cells g d) := by
  have n8 := hg.n8; have n0 := hg.n1
  have hw : wrap64 ((g.length : Int) - 1) = g.length - 1 := w64 (by omega) (by omega)
  have hp := power (a := (g.length : Int) - 1) (by omega) (by omega) d0 d1
  show _ = some (((g.length : Int) - 1) ^ d.toNat)
  rw [impl_cells.f_eq, impl_order.f_eq, Option.bind_some, hw]
  ((with_reducible repeat (first | refine go_pos (by first | assumption | omega | rfl | exact B_pos (by omega)) ?_ | refine go_neg (by first | assumption | omega | decide | exact B_not (by omega)) ?_ | refine go_bind (by first | assumption) ?_ | dsimp only)); first | done | (with_reducible rfl) | simp (disch := omega) only [w64] | (show False; done))
theorem Cells_ {g : List (List Int)} (hg : Grp g) {d : Int} (d0 : 0 ≤ d) (d1 : d ≤ 4) : spec_l03Cells.f g d = some (cells g d) := by
  have n8 := hg.n8; have n0 := hg.n1
  unfold cells
  have hw : wrap64 ((g.length : Int) - 1) = g.length - 1 := w64 (by omega) (by omega)
  obtain ⟨n, rfl⟩ := Int.eq_ofNat_of_zero_le d0
  suffices H : ∀ n j : Nat, n + j ≤ 4 → spec_l03Cells.l0 (n : Int) (((g.length : Int) - 1) ^ j) g = some (((g.length : Int) - 1) ^ (j + n)) by
    have := H n 0 (by omega)
    rw [spec_l03Cells.f_eq]
    simpa using this
  intro n
  induction n with
  | zero => intro j hj; rw [spec_l03Cells.l0_eq, Nat.add_zero]; ((with_reducible repeat (first | refine go_pos (by first | assumption | omega | rfl | exact B_pos (by omega)) ?_ | refine go_neg (by first | assumption | omega | decide | exact B_not (by omega)) ?_ | refine go_bind (by first | assumption) ?_ | dsimp only)); first | done | (with_reducible rfl) | simp (disch := omega) only [w64] | (show False; done))
  | succ n ih =>
    intro j hj
    have b := pow_bd (a := (g.length : Int) - 1) (by omega) (by omega) (j + 1) (by omega)
    have hp : wrap64 (((g.length : Int) - 1) ^ j * ((g.length : Int) - 1)) = ((g.length : Int) - 1) ^ (j + 1) := by rw [show ((g.length : Int) - 1) ^ j * ((g.length : Int) - 1) = ((g.length : Int) - 1) ^ (j + 1) from (Int.pow_succ _ j).symm]; exact w64 (by omega) (by omega)
    have h1 : wrap64 (((n + 1 : Nat) : Int) - 1) = (n : Int) := by rw [w64 (by omega) (by omega)]; omega
    have := ih (j + 1) (by omega)
    rw [show j + 1 + n = j + (n + 1) by omega] at this
    rw [spec_l03Cells.l0_eq, spec_l01N.f_eq, Option.bind_some, hw, hp, h1]
    (with_reducible repeat (first | refine go_pos (by first | assumption | omega | rfl | exact B_pos (by omega)) ?_ | refine go_neg (by first | assumption | omega | decide | exact B_not (by omega)) ?_ | refine go_bind (by first | assumption) ?_ | dsimp only))
    exact this
def Co (g : List (List Int)) (m d : Int) (v : List Int) : Prop := (0 ≤ d ∧ d ≤ 3) ∧ (v.length : Int) = cells g d ∧ AllIn m v
theorem isDegree (d : Int) : impl_isDegree.f d = some (B (0 ≤ d ∧ d ≤ 3)) := by
  rw [impl_isDegree.f_eq]
  by_cases h : d ≥ 0
  · rw [if_pos h, B_decide, B_congr (show d ≤ 3 ↔ (0 ≤ d ∧ d ≤ 3) from ⟨fun h' => ⟨h, h'⟩, fun h' => h'.2⟩)]
  · rw [if_neg h, B_neg (fun h' => h h'.1)]
theorem isCochain {g : List (List Int)} (hg : Grp g) (m : Int) (u : List Int) (d : Int) (v : List Int) (hv : v.length ≤ maxLen) : impl_isCochain.f g m u d v = some (B (Co g m d v)) := by
  rw [impl_isCochain.f_eq]
  by_cases h1 : 0 ≤ d ∧ d ≤ 3
  rotate_left
  · rw [B_neg fun h => h1 h.1]
    ((with_reducible repeat (first | refine go_pos (by first | assumption | omega | rfl | exact B_pos (by omega)) ?_ | refine go_neg (by first | assumption | omega | decide | exact B_not (by omega)) ?_ | refine go_bind (by first | assumption | exact isDegree _) ?_ | dsimp only)); first | done | (with_reducible rfl) | simp (disch := omega) only [w64] | (show False; done))
  have hc := cells_ hg h1.1 (by omega)
  have ha := areIn m v hv
  by_cases h2 : (v.length : Int) = cells g d
  rotate_left
  · rw [B_neg fun h => h2 h.2.1]
    ((with_reducible repeat (first | refine go_pos (by first | assumption | omega | rfl | exact B_pos (by omega)) ?_ | refine go_neg (by first | assumption | omega | decide | exact B_not (by omega)) ?_ | refine go_bind (by first | assumption | exact isDegree _) ?_ | dsimp only)); first | done | (with_reducible rfl) | simp (disch := omega) only [w64] | (show False; done))
  (with_reducible repeat (first | refine go_pos (by first | assumption | omega | rfl | exact B_pos (by omega)) ?_ | refine go_neg (by first | assumption | omega | decide | exact B_not (by omega)) ?_ | refine go_bind (by first | assumption | exact isDegree _) ?_ | dsimp only))
  rw [B_congr (show AllIn m v ↔ Co g m d v from ⟨fun h => ⟨h1, h2, h⟩, fun h => h.2.2⟩)]
  simp
theorem Is03 {g : List (List Int)} (hg : Grp g) {m : Int} {u : List Int} (hm : Mdl g m u) (d : Int) (v : List Int) (hv : v.length ≤ maxLen) : spec_l03Is.f g m u d v = some (B (Co g m d v)) := by
  have hml := maxLen_le
  have m2 := hm.m2; have m12 := hm.m12
  rw [spec_l03Is.f_eq]
  by_cases h1 : 0 ≤ d ∧ d ≤ 3
  rotate_left
  · rw [B_neg fun h => h1 h.1]
    ((with_reducible repeat (first | refine go_pos (by first | assumption | omega | rfl | exact B_pos (by omega)) ?_ | refine go_neg (by first | assumption | omega | decide | exact B_not (by omega)) ?_ | refine go_bind (by first | assumption | exact In_ _ _ _) ?_ | dsimp only)); first | done | (with_reducible rfl) | simp (disch := omega) only [w64] | (show False; done))
  have hc := Cells_ hg h1.1 (by omega)
  by_cases h2 : (v.length : Int) = cells g d
  rotate_left
  · rw [B_neg fun h => h2 h.2.1]
    ((with_reducible repeat (first | refine go_pos (by first | assumption | omega | rfl | exact B_pos (by omega)) ?_ | refine go_neg (by first | assumption | omega | decide | exact B_not (by omega)) ?_ | refine go_bind (by first | assumption | exact In_ _ _ _) ?_ | dsimp only)); first | done | (with_reducible rfl) | simp (disch := omega) only [w64] | (show False; done))
  (with_reducible repeat (first | refine go_pos (by first | assumption | omega | rfl | exact B_pos (by omega)) ?_ | refine go_neg (by first | assumption | omega | decide | exact B_not (by omega)) ?_ | refine go_bind (by first | assumption | exact In_ _ _ _) ?_ | dsimp only))
  rw [B_congr (show Co g m d v ↔ AllIn m v from ⟨fun h => h.2.2, fun h => ⟨h1, h2, h⟩⟩)]
  have hw : wrap64 (m - 1) = m - 1 := w64 (by omega) (by omega)
  refine scanT v.length (fun i => spec_l03Is.l0 i m u d v) (fun i => 0 ≤ rd v i ∧ rd v i < m) (fun i i0 i1 _ => ?_) (fun _ => by (rw [spec_l03Is.l0_eq]); ((with_reducible repeat (first | refine go_pos (by first | assumption | omega | rfl | exact B_pos (by omega)) ?_ | refine go_neg (by first | assumption | omega | decide | exact B_not (by omega)) ?_ | refine go_bind (by first | assumption) ?_ | dsimp only)); first | done | (with_reducible rfl) | simp (disch := omega) only [w64] | (show False; done)))
  refine ⟨fun h => ?_, fun h => ?_⟩ <;> (rw [spec_l03Is.l0_eq, hw]) <;> ((with_reducible repeat (first | refine go_pos (by first | assumption | omega | rfl | exact B_pos (by omega)) ?_ | refine go_neg (by first | assumption | omega | decide | exact B_not (by omega)) ?_ | refine go_bind (by first | assumption | exact In_ _ _ _) ?_ | dsimp only)); first | done | (with_reducible rfl) | simp (disch := omega) only [w64] | (show False; done))
theorem co_codes (g : List (List Int)) (hl : g.length ≤ maxLen) (hr : ∀ r ∈ g, r.length ≤ maxLen) (m : Int) (u : List Int) (hu : u.length ≤ maxLen) (d : Int) (v : List Int) (hv : v.length ≤ maxLen) :
    (Grp g ∧ Mdl g m u ∧ Co g m d v ∧ impl_cochainCode.f g m u [(d, v)] = some 0 ∧ spec_l03Code.f g m u [(d, v)] = some 0) ∨
    (¬ (Grp g ∧ Mdl g m u ∧ Co g m d v) ∧ impl_cochainCode.f g m u [(d, v)] = some 1 ∧ spec_l03Code.f g m u [(d, v)] = some 1) := by
  have hA := areModules1 g hl hr m u hu
  have hS := Is_ g
  have w1 : wrap64 (0 + 1) = 1 := w64 (by omega) (by omega)
  have stI : impl_cochainCode.l0 [(d, v)] (([(d, v)] : List (Int × List Int)).length : Int) 1 g m u = some 0 := by rw [impl_cochainCode.l0_eq]; exact if_neg (by simp)
  have stS : spec_l03Code.l0 [(d, v)] 1 g m u = some 0 := by rw [spec_l03Code.l0_eq]; exact if_neg (by simp)
  have r0 : Ty.rd (.pr (.int .i64) (.sl 2 (.int .i64))) [(d, v)] 0 = (d, v) := rfl
  rw [impl_cochainCode.f_eq, spec_l03Code.f_eq]
  by_cases h : GM g m u
  rotate_left
  · refine .inr ⟨fun k => h ⟨k.1, k.2.1⟩, ?_, ?_⟩
    · ((with_reducible repeat (first | refine go_pos (by first | assumption | omega | rfl | exact B_pos (by omega)) ?_ | refine go_neg (by first | assumption | omega | decide | exact B_not (by omega)) ?_ | refine go_bind (by first | assumption) ?_ | dsimp only)); first | done | (with_reducible rfl) | simp (disch := omega) only [w64] | (show False; done))
    · by_cases h1 : Grp g
      · have hM := Is02 h1 m u hu
        rw [B_neg fun k => h ⟨h1, k⟩] at hM
        ((with_reducible repeat (first | refine go_pos (by first | assumption | omega | rfl | exact B_pos (by omega)) ?_ | refine go_neg (by first | assumption | omega | decide | exact B_not (by omega)) ?_ | refine go_bind (by first | assumption) ?_ | dsimp only)); first | done | (with_reducible rfl) | simp (disch := omega) only [w64] | (show False; done))
      · ((with_reducible repeat (first | refine go_pos (by first | assumption | omega | rfl | exact B_pos (by omega)) ?_ | refine go_neg (by first | assumption | omega | decide | exact B_not (by omega)) ?_ | refine go_bind (by first | assumption) ?_ | dsimp only)); first | done | (with_reducible rfl) | simp (disch := omega) only [w64] | (show False; done))
  have hM := Is02 h.1 m u hu
  have hI := isCochain h.1 m u d v hv
  have hC := Is03 h.1 h.2 d v hv
  rw [impl_cochainCode.l0_eq, spec_l03Code.l0_eq, r0, w1]
  have k1 : (0 : Int) < (([(d, v)] : List (Int × List Int)).length : Int) := by simp
  have hB : B (GM g m u) = true := B_pos h
  have hGr := h.1
  have hMd := h.2
  by_cases h2 : Co g m d v
  · exact .inl ⟨h.1, h.2, h2, by (with_reducible repeat (first | refine go_pos (by first | assumption | omega | rfl | exact B_pos (by omega)) ?_ | refine go_neg (by first | assumption | omega | decide | exact B_not (by omega)) ?_ | refine go_bind (by first | assumption) ?_ | dsimp only)); exact stI, by (with_reducible repeat (first | refine go_pos (by first | assumption | omega | rfl | exact B_pos (by omega)) ?_ | refine go_neg (by first | assumption | omega | decide | exact B_not (by omega)) ?_ | refine go_bind (by first | assumption) ?_ | dsimp only)); exact stS⟩
  · exact .inr ⟨fun k => h2 k.2.2, by ((with_reducible repeat (first | refine go_pos (by first | assumption | omega | rfl | exact B_pos (by omega)) ?_ | refine go_neg (by first | assumption | omega | decide | exact B_not (by omega)) ?_ | refine go_bind (by first | assumption) ?_ | dsimp only)); first | done | (with_reducible rfl) | simp (disch := omega) only [w64] | (show False; done)), by ((with_reducible repeat (first | refine go_pos (by first | assumption | omega | rfl | exact B_pos (by omega)) ?_ | refine go_neg (by first | assumption | omega | decide | exact B_not (by omega)) ?_ | refine go_bind (by first | assumption) ?_ | dsimp only)); first | done | (with_reducible rfl) | simp (disch := omega) only [w64] | (show False; done))⟩
def idx (g : List (List Int)) (xs : List Int) : Int := xs.foldl (fun a x => a * ((g.length : Int) - 1) + x - 1) 0
theorem idx_snoc (g : List (List Int)) (xs : List Int) (x : Int) : idx g (xs ++ [x]) = idx g xs * ((g.length : Int) - 1) + x - 1 := by simp [idx]
theorem idx_take {g : List (List Int)} {xs : List Int} {i : Nat} (h : i < xs.length) : idx g (xs.take (i + 1)) = idx g (xs.take i) * ((g.length : Int) - 1) + rd xs (i : Int) - 1 := by
  rw [take_rd h, idx_snoc]
theorem idx_bd {g : List (List Int)} (hg : Grp g) {xs : List Int} (hx : AllIn g.length xs) : ∀ i : Nat, i ≤ xs.length → (∀ j : Int, 0 ≤ j → j < i → ¬ rd xs j = 0) → 0 ≤ idx g (xs.take i) ∧ idx g (xs.take i) + 1 ≤ ((g.length : Int) - 1) ^ i := by
  have n8 := hg.n8; have n1 := hg.n1
  intro i
  induction i with
  | zero => intro _ _; simp [idx]
  | succ i ih =>
    intro hi hz
    obtain ⟨a0, a1⟩ := ih (by omega) (fun j h0 h1 => hz j h0 (by omega))
    obtain ⟨x0, x1⟩ := hx i (by omega) (by omega)
    have x2 := hz i (by omega) (by omega)
    rw [idx_take (by omega), Int.pow_succ]
    have b1 : 0 ≤ idx g (xs.take i) * ((g.length : Int) - 1) := Int.mul_nonneg a0 (by omega)
    have b2 : (idx g (xs.take i) + 1) * ((g.length : Int) - 1) ≤ ((g.length : Int) - 1) ^ i * ((g.length : Int) - 1) := Int.mul_le_mul_of_nonneg_right a1 (by omega)
    rw [Int.add_mul, Int.one_mul] at b2
    omega
def NoUnit (xs : List Int) : Prop := ∀ j : Int, 0 ≤ j → j < xs.length → ¬ rd xs j = 0
noncomputable def At (g : List (List Int)) (v xs : List Int) : Int := ite_ (NoUnit xs) (rd v (idx g xs)) 0
theorem idx_step {g : List (List Int)} (hg : Grp g) {xs : List Int} (hx : AllIn g.length xs) (hl : xs.length ≤ 4) {n : Nat} (hn : n < xs.length) (hz : ∀ j : Int, 0 ≤ j → j < (n : Int) → ¬ rd xs j = 0) :
    wrap64 (wrap64 (wrap64 (idx g (xs.take n) * wrap64 ((g.length : Int) - 1)) + rd xs n) - 1) = idx g (xs.take (n + 1)) ∧ wrap64 ((n : Int) + 1) = (n : Int) + 1 := by
  have n8 := hg.n8; have n1 := hg.n1
  obtain ⟨a0, a1⟩ := idx_bd hg hx n (by omega) hz
  obtain ⟨x0, x1⟩ := hx n (by omega) (by omega)
  have p := pow_bd (a := (g.length : Int) - 1) (by omega) (by omega) n (by omega)
  have b1 : 0 ≤ idx g (xs.take n) * ((g.length : Int) - 1) := Int.mul_nonneg a0 (by omega)
  have b2 : idx g (xs.take n) * ((g.length : Int) - 1) ≤ 16807 * 7 := Int.mul_le_mul (by omega) (by omega) (by omega) (by omega)
  rw [w64 (x := (g.length : Int) - 1) (by omega) (by omega), w64 (x := idx g (xs.take n) * ((g.length : Int) - 1)) (by omega) (by omega), w64 (x := idx g (xs.take n) * ((g.length : Int) - 1) + rd xs n) (by omega) (by omega), w64 (by omega) (by omega), w64 (by omega) (by omega), idx_take hn]
  exact ⟨rfl, rfl⟩
theorem cell_ {g : List (List Int)} (hg : Grp g) {xs : List Int} (hx : AllIn g.length xs) (hl : xs.length ≤ 4) :
    impl_cell.f g xs = some (ite_ (NoUnit xs) (idx g xs) (-1)) := by
  rw [impl_cell.f_eq]
  have := scan xs.length (fun i => impl_cell.l0 (idx g (xs.take i.toNat)) xs (xs.length : Int) i g) (fun j => ¬ rd xs j = 0) (some (-1)) (fun i i0 i1 hz => by
    obtain ⟨n, rfl⟩ := Int.eq_ofNat_of_zero_le i0
    obtain ⟨e1, e2⟩ := idx_step hg hx hl (n := n) (by omega) hz
    refine ⟨fun h => ?_, fun h => ?_⟩
    · rw [impl_cell.l0_eq, impl_order.f_eq, Option.bind_some, Int.toNat_natCast, e1, e2, show ((n : Int) + 1).toNat = n + 1 by omega]
      ((with_reducible repeat (first | refine go_pos (by first | assumption | omega | rfl | exact B_pos (by omega)) ?_ | refine go_neg (by first | assumption | omega | decide | exact B_not (by omega)) ?_ | refine go_bind (by first | assumption) ?_ | dsimp only)); first | done | (with_reducible rfl) | simp (disch := omega) only [w64] | (show False; done))
    · (rw [impl_cell.l0_eq])
      ((with_reducible repeat (first | refine go_pos (by first | assumption | omega | rfl | exact B_pos (by omega)) ?_ | refine go_neg (by first | assumption | omega | decide | exact B_not (by omega)) ?_ | refine go_bind (by first | assumption) ?_ | dsimp only)); first | done | (with_reducible rfl) | simp (disch := omega) only [w64] | (show False; done)))
  simp only [Int.toNat_zero, List.take_zero, Int.toNat_natCast, List.take_length] at this
  rcases this with ⟨h1, h2⟩ | ⟨j, j0, j1, _, h1, _, h2⟩
  · have h1 : NoUnit xs := h1
    rw [ite_pos h1, ← show impl_cell.l0 (idx g []) xs (xs.length : Int) 0 g = impl_cell.l0 0 xs (xs.length : Int) 0 g from rfl, h2]
    (rw [impl_cell.l0_eq])
    ((with_reducible repeat (first | refine go_pos (by first | assumption | omega | rfl | exact B_pos (by omega)) ?_ | refine go_neg (by first | assumption | omega | decide | exact B_not (by omega)) ?_ | refine go_bind (by first | assumption) ?_ | dsimp only)); first | done | (with_reducible rfl) | simp (disch := omega) only [w64] | (show False; done))
  · rw [ite_neg fun q => h1 (q j j0 j1)]
    exact h2
theorem idx_cells {g : List (List Int)} (hg : Grp g) {m d : Int} {v : List Int} (hc : Co g m d v) {xs : List Int} (hx : AllIn g.length xs) (hl : (xs.length : Int) = d) (h : NoUnit xs) : 0 ≤ idx g xs ∧ idx g xs < v.length := by
  obtain ⟨⟨d0, d1⟩, hv, ha⟩ := hc
  obtain ⟨a0, a1⟩ := idx_bd hg hx xs.length (by omega) h
  rw [List.take_length] at a0 a1
  have e : cells g d = ((g.length : Int) - 1) ^ xs.length := by unfold cells; rw [show d.toNat = xs.length by omega]
  omega
theorem at_ {g : List (List Int)} (hg : Grp g) {m d : Int} {v : List Int} (hc : Co g m d v) {xs : List Int} (hx : AllIn g.length xs) (hl : (xs.length : Int) = d) :
    impl_Cochain_at.f d v g xs = some (At g v xs) := by
  have hd := hc.1
  have h1 := cell_ hg hx (by omega)
  rw [impl_Cochain_at.f_eq]
  unfold At
  by_cases h : NoUnit xs
  · obtain ⟨a0, a1⟩ := idx_cells hg hc hx hl h
    rw [ite_pos h] at h1 ⊢
    ((with_reducible repeat (first | refine go_pos (by first | assumption | omega | rfl | exact B_pos (by omega)) ?_ | refine go_neg (by first | assumption | omega | decide | exact B_not (by omega)) ?_ | refine go_bind (by first | assumption) ?_ | dsimp only)); first | done | (with_reducible rfl) | simp (disch := omega) only [w64] | (show False; done))
  · rw [ite_neg h] at h1 ⊢
    ((with_reducible repeat (first | refine go_pos (by first | assumption | omega | rfl | exact B_pos (by omega)) ?_ | refine go_neg (by first | assumption | omega | decide | exact B_not (by omega)) ?_ | refine go_bind (by first | assumption) ?_ | dsimp only)); first | done | (with_reducible rfl) | simp (disch := omega) only [w64] | (show False; done))
theorem At_ {g : List (List Int)} (hg : Grp g) {m d : Int} {u v : List Int} (hc : Co g m d v) {xs : List Int} (hx : AllIn g.length xs) (hl : (xs.length : Int) = d) :
    spec_l03At.f g d v xs = some (At g v xs) := by
  have hd := hc.1
  rw [spec_l03At.f_eq]
  have := scan xs.length (fun i => spec_l03At.l0 xs (idx g (xs.take i.toNat)) i g d v) (fun j => ¬ rd xs j = 0) (some 0) (fun i i0 i1 hz => by
    obtain ⟨n, rfl⟩ := Int.eq_ofNat_of_zero_le i0
    obtain ⟨e1, e2⟩ := idx_step hg hx (by omega) (n := n) (by omega) hz
    refine ⟨fun h => ?_, fun h => ?_⟩
    · rw [spec_l03At.l0_eq, spec_l01N.f_eq, Option.bind_some, Int.toNat_natCast, e1, e2, show ((n : Int) + 1).toNat = n + 1 by omega]
      ((with_reducible repeat (first | refine go_pos (by first | assumption | omega | rfl | exact B_pos (by omega)) ?_ | refine go_neg (by first | assumption | omega | decide | exact B_not (by omega)) ?_ | refine go_bind (by first | assumption) ?_ | dsimp only)); first | done | (with_reducible rfl) | simp (disch := omega) only [w64] | (show False; done))
    · (rw [spec_l03At.l0_eq])
      ((with_reducible repeat (first | refine go_pos (by first | assumption | omega | rfl | exact B_pos (by omega)) ?_ | refine go_neg (by first | assumption | omega | decide | exact B_not (by omega)) ?_ | refine go_bind (by first | assumption) ?_ | dsimp only)); first | done | (with_reducible rfl) | simp (disch := omega) only [w64] | (show False; done)))
  simp only [Int.toNat_zero, List.take_zero, Int.toNat_natCast, List.take_length] at this
  unfold At
  rcases this with ⟨h1, h2⟩ | ⟨j, j0, j1, _, h1, _, h2⟩
  · have h1 : NoUnit xs := h1
    obtain ⟨a0, a1⟩ := idx_cells hg hc hx hl h1
    rw [ite_pos h1, ← show spec_l03At.l0 xs (idx g []) 0 g d v = spec_l03At.l0 xs 0 0 g d v from rfl, h2]
    (rw [spec_l03At.l0_eq])
    ((with_reducible repeat (first | refine go_pos (by first | assumption | omega | rfl | exact B_pos (by omega)) ?_ | refine go_neg (by first | assumption | omega | decide | exact B_not (by omega)) ?_ | refine go_bind (by first | assumption) ?_ | dsimp only)); first | done | (with_reducible rfl) | simp (disch := omega) only [w64] | (show False; done))
  · rw [ite_neg fun q => h1 (q j j0 j1)]
    exact h2
theorem At_bd {g : List (List Int)} (hg : Grp g) {m d : Int} {v : List Int} (m0 : 0 < m) (hc : Co g m d v) {xs : List Int} (hx : AllIn g.length xs) (hl : (xs.length : Int) = d) : 0 ≤ At g v xs ∧ At g v xs < m := by
  unfold At
  by_cases h : NoUnit xs
  · obtain ⟨a0, a1⟩ := idx_cells hg hc hx hl h
    rw [ite_pos h]
    exact hc.2.2 _ a0 a1
  · rw [ite_neg h]; omega
end Go.Proofs.Ytdiadcmkddkjpaa.V
set_option linter.unusedVariables false
set_option linter.unusedSimpArgs false
set_option maxHeartbeats 2000000
set_option maxRecDepth 20000
namespace Go.Proofs.Ytdiadcmkddkjpaa.V
open Go.RowKit Go.Proofs.Ytdiadcmkddkjpaa.D Go.Proofs.Ytdiadcmkddkjpaa.P
def lst (b : Int) : Nat → Int → List Int
  | 0, _ => []
  | n + 1, i => lst b n (i / b) ++ [i % b + 1]
theorem lst_length (b : Int) : ∀ n i, (lst b n i).length = n := by
  intro n
  induction n with
  | zero => intro i; rfl
  | succ n ih => intro i; simp [lst, ih]
theorem lst_in {b : Int} (hb : 0 < b) : ∀ n i, ∀ x ∈ lst b n i, 1 ≤ x ∧ x < b + 1 := by
  intro n
  induction n with
  | zero => intro i x hx; simp [lst] at hx
  | succ n ih =>
    intro i x hx
    have m0 := Int.emod_nonneg i (show b ≠ 0 by omega)
    have m1 := Int.emod_lt_of_pos i hb
    rcases List.mem_append.1 hx with h | h
    · exact ih _ x h
    · rw [List.mem_singleton] at h; omega
theorem set_last (n : Nat) (t : List Int) (x : Int) : (List.replicate (n + 1) 0 ++ t).set n x = List.replicate n 0 ++ (x :: t) := by
  rw [List.replicate_succ', List.append_assoc, List.set_append, if_neg (by simp)]
  simp
theorem listOf {g : List (List Int)} (hg : Grp g) (n : Nat) (h2 : n = 0 ∨ 2 ≤ g.length) (hn : n ≤ 4) {i : Int} (i0 : 0 ≤ i) (i1 : i ≤ 16807) :
    impl_listOf.f g (n : Int) i = some (lst ((g.length : Int) - 1) n i) ∧ spec_l03List.f g (n : Int) i = some (lst ((g.length : Int) - 1) n i) := by
  have n8 := hg.n8; have n1 := hg.n1
  obtain ⟨b, hb⟩ : ∃ b : Int, b = (g.length : Int) - 1 := ⟨_, rfl⟩
  have hw0 : wrap64 ((g.length : Int) - 1) = b := by rw [hb]; exact w64 (by omega) (by omega)
  rw [← hb]
  have b1 : n = 0 ∨ 1 ≤ b := by omega
  have b7 : b ≤ 7 := by omega
  have fact : ∀ (n : Nat) (i : Int), n ≤ 4 → 1 ≤ b → 0 ≤ i → i ≤ 16807 → wrap64 (Int.tdiv i b) = i / b ∧ wrap64 (1 + Int.tmod i b) = i % b + 1 ∧ wrap64 (Int.tmod i b + 1) = i % b + 1 ∧ wrap64 ((n : Int) - 1) = (n : Int) - 1 ∧ 0 ≤ i / b ∧ i / b ≤ 16807 := by
    intro n i hn b1 i0 i1
    have m0 := Int.emod_nonneg i (show b ≠ 0 by omega)
    have m1 := Int.emod_lt_of_pos i (show 0 < b by omega)
    have d0 : 0 ≤ i / b := Int.ediv_nonneg i0 (by omega)
    have d1 : i / b ≤ i := Int.ediv_le_self _ i0
    rw [tdiv_nn i0, tmod_nn i0]
    exact ⟨w64 (by omega) (by omega), by rw [w64 (by omega) (by omega)]; omega, w64 (by omega) (by omega), w64 (by omega) (by omega), d0, by omega⟩
  have hwn : wrap64 ((n : Int) - 1) = (n : Int) - 1 := w64 (by omega) (by omega)
  constructor
  · rw [impl_listOf.f_eq, impl_order.f_eq, Option.bind_some, hw0, hwn, Int.toNat_natCast]
    (with_reducible repeat (first | refine go_pos (by first | assumption | omega | rfl | exact B_pos (by omega)) ?_ | refine go_neg (by first | assumption | omega | decide | exact B_not (by omega)) ?_ | refine go_bind (by first | assumption) ?_ | dsimp only))
    suffices H : ∀ (n : Nat) (i : Int) (t : List Int), n ≤ 4 → (n = 0 ∨ 1 ≤ b) → 0 ≤ i → i ≤ 16807 → impl_listOf.l0 i b ((n : Int) - 1) (List.replicate n 0 ++ t) = some (lst b n i ++ t) by
      simpa using H n i [] hn b1 i0 i1
    intro n
    induction n with
    | zero => intro i t _ _ _ _; rw [impl_listOf.l0_eq]; (with_reducible repeat (first | refine go_pos (by first | assumption | omega | rfl | exact B_pos (by omega)) ?_ | refine go_neg (by first | assumption | omega | decide | exact B_not (by omega)) ?_ | refine go_bind (by first | assumption) ?_ | dsimp only)); rfl
    | succ n ih =>
      intro i t hn b1 i0 i1
      obtain ⟨f1, f2, f3, f5, f6, f7⟩ := fact n i (by omega) (by omega) i0 i1
      have h := ih (i / b) ((i % b + 1) :: t) (by omega) (by omega) f6 f7
      have e : ((n + 1 : Nat) : Int) - 1 = (n : Int) := by omega
      have l1 : (List.replicate (n + 1) (0 : Int) ++ t).length = n + 1 + t.length := by rw [List.length_append, List.length_replicate]
      rw [e, impl_listOf.l0_eq, f1, f2, f5, Int.toNat_natCast, set_last]
      (with_reducible repeat (first | refine go_pos (by first | assumption | omega | rfl | exact B_pos (by omega)) ?_ | refine go_neg (by first | assumption | omega | decide | exact B_not (by omega)) ?_ | refine go_bind (by first | assumption) ?_ | dsimp only))
      rw [h, lst, List.append_assoc, List.singleton_append]
  · rw [spec_l03List.f_eq, spec_l01N.f_eq, Option.bind_some, hw0, hwn, Int.toNat_natCast]
    (with_reducible repeat (first | refine go_pos (by first | assumption | omega | rfl | exact B_pos (by omega)) ?_ | refine go_neg (by first | assumption | omega | decide | exact B_not (by omega)) ?_ | refine go_bind (by first | assumption) ?_ | dsimp only))
    suffices H : ∀ (n : Nat) (i : Int) (t : List Int), n ≤ 4 → (n = 0 ∨ 1 ≤ b) → 0 ≤ i → i ≤ 16807 → spec_l03List.l0 i b ((n : Int) - 1) (List.replicate n 0 ++ t) = some (lst b n i ++ t) by
      simpa using H n i [] hn b1 i0 i1
    intro n
    induction n with
    | zero => intro i t _ _ _ _; rw [spec_l03List.l0_eq]; (with_reducible repeat (first | refine go_pos (by first | assumption | omega | rfl | exact B_pos (by omega)) ?_ | refine go_neg (by first | assumption | omega | decide | exact B_not (by omega)) ?_ | refine go_bind (by first | assumption) ?_ | dsimp only)); rfl
    | succ n ih =>
      intro i t hn b1 i0 i1
      obtain ⟨f1, f2, f3, f5, f6, f7⟩ := fact n i (by omega) (by omega) i0 i1
      have h := ih (i / b) ((i % b + 1) :: t) (by omega) (by omega) f6 f7
      have e : ((n + 1 : Nat) : Int) - 1 = (n : Int) := by omega
      have l1 : (List.replicate (n + 1) (0 : Int) ++ t).length = n + 1 + t.length := by rw [List.length_append, List.length_replicate]
      rw [e, spec_l03List.l0_eq, f1, f3, f5, Int.toNat_natCast, set_last]
      (with_reducible repeat (first | refine go_pos (by first | assumption | omega | rfl | exact B_pos (by omega)) ?_ | refine go_neg (by first | assumption | omega | decide | exact B_not (by omega)) ?_ | refine go_bind (by first | assumption) ?_ | dsimp only))
      rw [h, lst, List.append_assoc, List.singleton_append]
theorem cells_two {g : List (List Int)} (hg : Grp g) {n : Nat} (hc : 0 < cells g n) : n = 0 ∨ 2 ≤ g.length := by
  have n1 := hg.n1
  by_cases h : n = 0
  · exact .inl h
  by_cases h2 : 2 ≤ g.length
  · exact .inr h2
  · have : (g.length : Int) - 1 = 0 := by omega
    have e : cells g (n : Int) = 0 := by unfold cells; rw [this, Int.toNat_natCast]; exact Int.zero_pow h
    omega
theorem cell_list {g : List (List Int)} (hg : Grp g) {n i : Nat} (hn : n ≤ 4) (hi : (i : Int) < cells g n) : impl_listOf.f g (n : Int) i = some (lst ((g.length : Int) - 1) n i) ∧ spec_l03List.f g (n : Int) i = some (lst ((g.length : Int) - 1) n i) := by
  have hb := cells_bd hg (d := (n : Int)) (by omega)
  exact listOf hg n (cells_two hg (by omega)) hn (by omega) (by omega)
theorem lst_grp {g : List (List Int)} (hg : Grp g) {n i : Nat} (hi : (i : Int) < cells g n) : AllIn g.length (lst ((g.length : Int) - 1) n i) ∧ NoUnit (lst ((g.length : Int) - 1) n i) := by
  have n1 := hg.n1
  have H : ∀ x ∈ lst ((g.length : Int) - 1) n i, 1 ≤ x ∧ x < g.length := by
    rcases cells_two hg (show 0 < cells g n by omega) with h | g2
    · subst h; intro x hx; simp [lst] at hx
    · intro x hx
      have := lst_in (b := (g.length : Int) - 1) (by omega) n i x hx
      omega
  exact ⟨allIn_of fun x hx => by have := H x hx; omega, fun j j0 j1 h => by have := H _ (rd_mem j0 j1); omega⟩
theorem mapped {F : Int → Option Int} {G : Int → Int} (xs : List Int) (hl : xs.length ≤ 1048576) (hF : ∀ x ∈ xs, F x = some (G x)) : impl_mapped.f xs F = some (xs.map G) := by
  rw [impl_mapped.f_eq]
  have := up xs.length (fun j => impl_mapped.l0 F xs (xs.length : Int) (j : Int) ((xs.take j).map G)) (fun j h => by
    have hw : wrap64 ((j : Int) + 1) = ((j + 1 : Nat) : Int) := by rw [w64 (by omega) (by omega)]; omega
    have l1 : ((xs.take j).map G).length = j := by rw [List.length_map, List.length_take]; omega
    have l2 : ∀ x : Int, ([x] : List Int).length = 1 := fun _ => rfl
    have hf := hF _ (rd_mem (show (0 : Int) ≤ j by omega) (show (j : Int) < xs.length by omega))
    rw [take_rd h, List.map_append, List.map_singleton, impl_mapped.l0_eq, hw, hf, Option.bind_some, l1, l2]
    ((with_reducible repeat (first | refine go_pos (by first | assumption | omega | rfl | exact B_pos (by omega)) ?_ | refine go_neg (by first | assumption | omega | decide | exact B_not (by omega)) ?_ | refine go_bind (by first | assumption) ?_ | dsimp only)); first | done | (with_reducible rfl) | simp (disch := omega) only [w64] | (show False; done)))
  simp only [Int.natCast_zero, List.take_zero, List.map_nil, List.take_length] at this
  rw [this, impl_mapped.l0_eq]
  ((with_reducible repeat (first | refine go_pos (by first | assumption | omega | rfl | exact B_pos (by omega)) ?_ | refine go_neg (by first | assumption | omega | decide | exact B_not (by omega)) ?_ | refine go_bind (by first | assumption) ?_ | dsimp only)); first | done | (with_reducible rfl) | simp (disch := omega) only [w64] | (show False; done))
theorem build_step (G : Nat → Int) (n i : Nat) (h : i < n) : ((List.range i).map G ++ List.replicate (n - i) 0).set i (G i) = (List.range (i + 1)).map G ++ List.replicate (n - (i + 1)) 0 := by
  rw [List.set_append, if_neg (by simp), List.length_map, List.length_range, Nat.sub_self, show n - i = (n - (i + 1)) + 1 by omega, List.replicate_succ, List.set_cons_zero, List.range_succ, List.map_append]
  simp
theorem build_len (G : Nat → Int) (n i : Nat) (h : i ≤ n) : ((List.range i).map G ++ List.replicate (n - i) 0).length = n := by rw [List.length_append, List.length_map, List.length_range, List.length_replicate]; omega
theorem mod_mod {a m : Int} (m0 : 0 < m) (m1 : m ≤ 1000000) : Int.tmod (wrap64 (Int.tmod a m + m)) m = a % m := by
  have t0 := Int.tmod_lt_of_pos a m0
  have t1 : -m < Int.tmod a m := Int.lt_tmod_of_pos a m0
  have hq := Int.mul_tdiv_add_tmod a m
  have h5 : (m * a.tdiv m + a.tmod m) % m = a.tmod m % m := by rw [Int.add_comm, Int.add_mul_emod_self_left]
  rw [hq] at h5
  rw [w64 (by omega) (by omega), Int.tmod_eq_emod_of_nonneg (show 0 ≤ Int.tmod a m + m by omega), Int.add_emod_right, ← h5]
theorem zero_ {g : List (List Int)} (hg : Grp g) {n : Nat} (hn : n ≤ 4) : impl_zero.f g (n : Int) = some ((n : Int), List.replicate (cells g n).toNat 0) := by
  have hb := cells_bd hg (d := (n : Int)) (by omega)
  have hc := cells_ hg (d := (n : Int)) (by omega) (by omega)
  rw [impl_zero.f_eq]
  ((with_reducible repeat (first | refine go_pos (by first | assumption | omega | rfl | exact B_pos (by omega)) ?_ | refine go_neg (by first | assumption | omega | decide | exact B_not (by omega)) ?_ | refine go_bind (by first | assumption) ?_ | dsimp only)); first | done | (with_reducible rfl) | simp (disch := omega) only [w64] | (show False; done))
theorem told {g : List (List Int)} (hg : Grp g) {m : Int} (m2 : 2 ≤ m) (m12 : m ≤ 12) {n : Nat} (hn : n ≤ 4) {F : List Int → Option Int} {G : Nat → Int} (hF : ∀ i : Nat, (i : Int) < cells g n → F (lst ((g.length : Int) - 1) n i) = some (G i)) :
    impl_told.f g m (n : Int) F = some ((n : Int), (List.range (cells g n).toNat).map fun i => G i % m) := by
  have hb := cells_bd hg (d := (n : Int)) (by omega)
  have hz := zero_ hg hn
  obtain ⟨N, hN⟩ : ∃ N, N = (cells g n).toNat := ⟨_, rfl⟩
  rw [impl_told.f_eq, hz, Option.bind_some, ← hN]
  have := up N (fun j => impl_told.l0 m (n : Int) F (N : Int) (j : Int) g 0 (n : Int) ((List.range j).map (fun i => G i % m) ++ List.replicate (N - j) 0)) (fun j h => by
    have hw : wrap64 ((j : Int) + 1) = ((j + 1 : Nat) : Int) := by rw [w64 (by omega) (by omega)]; omega
    have f := hF j (by omega)
    have hl := (cell_list hg hn (i := j) (by omega)).1
    have l1 := build_len (fun i => G i % m) N j (by omega)
    have e := mod_mod (a := G j) (m := m) (by omega) (by omega)
    rw [← build_step (fun i => G i % m) N j h, impl_told.l0_eq, hw, hl, Option.bind_some, f, Option.bind_some, e, Int.toNat_natCast]
    ((with_reducible repeat (first | refine go_pos (by first | assumption | omega | rfl | exact B_pos (by omega)) ?_ | refine go_neg (by first | assumption | omega | decide | exact B_not (by omega)) ?_ | refine go_bind (by first | assumption) ?_ | dsimp only)); first | done | (with_reducible rfl) | simp (disch := omega) only [w64] | (show False; done)))
  simp only [Int.natCast_zero, List.range_zero, List.map_nil, List.nil_append, Nat.sub_zero, Nat.sub_self, List.replicate_zero, List.append_nil] at this
  simp only [List.length_replicate]
  rw [this, impl_told.l0_eq]
  ((with_reducible repeat (first | refine go_pos (by first | assumption | omega | rfl | exact B_pos (by omega)) ?_ | refine go_neg (by first | assumption | omega | decide | exact B_not (by omega)) ?_ | refine go_bind (by first | assumption) ?_ | dsimp only)); first | done | (with_reducible rfl) | simp (disch := omega) only [w64] | (show False; done))
end Go.Proofs.Ytdiadcmkddkjpaa.V
set_option linter.unusedVariables false
set_option linter.unusedSimpArgs false
set_option maxHeartbeats 2000000
set_option maxRecDepth 20000
namespace Go.Proofs.Ytdiadcmkddkjpaa.V
open Go.RowKit Go.Proofs.Ytdiadcmkddkjpaa.D Go.Proofs.Ytdiadcmkddkjpaa.P
theorem elements {g : List (List Int)} (hg : Grp g) {xs : List Int} (hl : xs.length ≤ maxLen) : spec_l01Elements.f g xs = some (ite_ (AllIn g.length xs) 0 2) := by
  have hm := maxLen_le
  have n8 := hg.n8
  have hG : spec_l01Is.f g = some true := by rw [Is_ g, B_pos hg]
  rw [spec_l01Elements.f_eq]
  (with_reducible repeat (first | refine go_pos (by first | assumption | omega | rfl | exact B_pos (by omega)) ?_ | refine go_neg (by first | assumption | omega | decide | exact B_not (by omega)) ?_ | refine go_bind (by first | assumption) ?_ | dsimp only))
  have hw : wrap64 ((g.length : Int) - 1) = g.length - 1 := w64 (by omega) (by omega)
  rcases scan xs.length (fun i => spec_l01Elements.l0 xs i g) (fun i => 0 ≤ rd xs i ∧ rd xs i < g.length) (some 2) (fun i i0 i1 _ => by
    refine ⟨fun h => ?_, fun h => ?_⟩ <;> (rw [spec_l01Elements.l0_eq, spec_l01N.f_eq, Option.bind_some, hw]) <;> ((with_reducible repeat (first | refine go_pos (by first | assumption | omega | rfl | exact B_pos (by omega)) ?_ | refine go_neg (by first | assumption | omega | decide | exact B_not (by omega)) ?_ | refine go_bind (by first | assumption | exact In_ _ _ _) ?_ | dsimp only)); first | done | (with_reducible rfl) | simp (disch := omega) only [w64] | (show False; done))) with ⟨h, e⟩ | ⟨j, j0, j1, _, h, _, e⟩
  · have h : AllIn g.length xs := h
    rw [ite_pos h, e]
    (rw [spec_l01Elements.l0_eq])
    ((with_reducible repeat (first | refine go_pos (by first | assumption | omega | rfl | exact B_pos (by omega)) ?_ | refine go_neg (by first | assumption | omega | decide | exact B_not (by omega)) ?_ | refine go_bind (by first | assumption) ?_ | dsimp only)); first | done | (with_reducible rfl) | simp (disch := omega) only [w64] | (show False; done))
  · rw [ite_neg fun k => h (k j j0 j1)]
    exact e
end Go.Proofs.Ytdiadcmkddkjpaa.V
set_option linter.unusedVariables false
set_option linter.unusedSimpArgs false
set_option maxHeartbeats 2000000
set_option maxRecDepth 20000
namespace Go.Proofs.Ytdiadcmkddkjpaa.V
open Go.RowKit Go.Proofs.Ytdiadcmkddkjpaa.D Go.Proofs.Ytdiadcmkddkjpaa.P
theorem areGroups2 (g h : List (List Int)) (hl : g.length ≤ maxLen) (hr : ∀ r ∈ g, r.length ≤ maxLen) (kl : h.length ≤ maxLen) (kr : ∀ r ∈ h, r.length ≤ maxLen) : impl_areGroups.f [g, h] = some (B (Grp g ∧ Grp h)) := by
  have h1 := isGroup g hl hr
  have h2 := isGroup h kl kr
  have r0 : Ty.rd (.sl 25 (.sl 2 (.int .i64))) [g, h] 0 = g := rfl
  have r1 : Ty.rd (.sl 25 (.sl 2 (.int .i64))) [g, h] 1 = h := rfl
  have w0 : wrap64 (0 + 1) = 1 := w64 (by omega) (by omega)
  have w1 : wrap64 (1 + 1) = 2 := w64 (by omega) (by omega)
  have ll : (([g, h] : List (List (List Int))).length : Int) = 2 := rfl
  rw [impl_areGroups.f_eq, ll, impl_areGroups.l0_eq, ll, r0, w0]
  by_cases c1 : Grp g
  · rw [B_pos c1] at h1
    (with_reducible repeat (first | refine go_pos (by first | assumption | omega | rfl | exact B_pos (by omega)) ?_ | refine go_neg (by first | assumption | omega | decide | exact B_not (by omega)) ?_ | refine go_bind (by first | assumption) ?_ | dsimp only))
    rw [impl_areGroups.l0_eq, ll, r1, w1]
    by_cases c2 : Grp h
    · rw [B_pos c2] at h2
      rw [B_pos ⟨c1, c2⟩]
      (with_reducible repeat (first | refine go_pos (by first | assumption | omega | rfl | exact B_pos (by omega)) ?_ | refine go_neg (by first | assumption | omega | decide | exact B_not (by omega)) ?_ | refine go_bind (by first | assumption) ?_ | dsimp only))
      rw [impl_areGroups.l0_eq]
      ((with_reducible repeat (first | refine go_pos (by first | assumption | omega | rfl | exact B_pos (by omega)) ?_ | refine go_neg (by first | assumption | omega | decide | exact B_not (by omega)) ?_ | refine go_bind (by first | assumption) ?_ | dsimp only)); first | done | (with_reducible rfl) | simp (disch := omega) only [w64] | (show False; done))
    · rw [B_neg c2] at h2
      rw [B_neg fun q => c2 q.2]
      ((with_reducible repeat (first | refine go_pos (by first | assumption | omega | rfl | exact B_pos (by omega)) ?_ | refine go_neg (by first | assumption | omega | decide | exact B_not (by omega)) ?_ | refine go_bind (by first | assumption) ?_ | dsimp only)); first | done | (with_reducible rfl) | simp (disch := omega) only [w64] | (show False; done))
  · rw [B_neg c1] at h1
    rw [B_neg fun q => c1 q.1]
    ((with_reducible repeat (first | refine go_pos (by first | assumption | omega | rfl | exact B_pos (by omega)) ?_ | refine go_neg (by first | assumption | omega | decide | exact B_not (by omega)) ?_ | refine go_bind (by first | assumption) ?_ | dsimp only)); first | done | (with_reducible rfl) | simp (disch := omega) only [w64] | (show False; done))
def Hom (g h : List (List Int)) (f : List Int) : Prop := ∀ x : Int, 0 ≤ x → x < g.length → ∀ y : Int, 0 ≤ y → y < g.length → rd f (T g x y) = T h (rd f x) (rd f y)
theorem isHomomorphism {g h : List (List Int)} (hg : Grp g) (hh : Grp h) {f : List Int} (hf : AllIn h.length f) (hl : f.length = g.length) : impl_isHomomorphism.f g h f = some (B (Hom g h f)) := by
  have n8 := hg.n8; have m8 := hh.n8
  rw [impl_isHomomorphism.f_eq, hl]
  refine scanT g.length (fun i => impl_isHomomorphism.l0 f (g.length : Int) (g.length : Int) i g h) (fun x => ∀ y : Int, 0 ≤ y → y < g.length → rd f (T g x y) = T h (rd f x) (rd f y)) (fun x x0 x1 _ => ?_) (fun _ => by (rw [impl_isHomomorphism.l0_eq]); ((with_reducible repeat (first | refine go_pos (by first | assumption | omega | rfl | exact B_pos (by omega)) ?_ | refine go_neg (by first | assumption | omega | decide | exact B_not (by omega)) ?_ | refine go_bind (by first | assumption) ?_ | dsimp only)); first | done | (with_reducible rfl) | simp (disch := omega) only [w64] | (show False; done)))
  have inner := scanI g.length (fun y => impl_isHomomorphism.l1 f (g.length : Int) x (g.length : Int) x (g.length : Int) y g h) (fun y => rd f (T g x y) = T h (rd f x) (rd f y)) (some false) (impl_isHomomorphism.l0 f (g.length : Int) (g.length : Int) (x + 1) g h) (fun y y0 y1 _ => by
    obtain ⟨a0, a1⟩ := hf x x0 (by omega)
    obtain ⟨b0, b1⟩ := hf y y0 (by omega)
    obtain ⟨e0, e1⟩ := hg.ent x y x0 x1 y0 y1
    have t1 := times2 hg x0 x1 y0 y1
    have t2 := times2 hh a0 a1 b0 b1
    refine ⟨fun h => ?_, fun h => ?_⟩ <;> (rw [impl_isHomomorphism.l1_eq]) <;> ((with_reducible repeat (first | refine go_pos (by first | assumption | omega | rfl | exact B_pos (by omega)) ?_ | refine go_neg (by first | assumption | omega | decide | exact B_not (by omega)) ?_ | refine go_bind (by first | assumption) ?_ | dsimp only)); first | done | (with_reducible rfl) | simp (disch := omega) only [w64] | (show False; done))) (fun _ => by (rw [impl_isHomomorphism.l1_eq]); ((with_reducible repeat (first | refine go_pos (by first | assumption | omega | rfl | exact B_pos (by omega)) ?_ | refine go_neg (by first | assumption | omega | decide | exact B_not (by omega)) ?_ | refine go_bind (by first | assumption) ?_ | dsimp only)); first | done | (with_reducible rfl) | simp (disch := omega) only [w64] | (show False; done)))
  refine ⟨fun h => ?_, fun h => ?_⟩ <;> (rw [impl_isHomomorphism.l0_eq]) <;> (with_reducible repeat (first | refine go_pos (by first | assumption | omega | rfl | exact B_pos (by omega)) ?_ | refine go_neg (by first | assumption | omega | decide | exact B_not (by omega)) ?_ | refine go_bind (by first | assumption) ?_ | dsimp only))
  · exact inner.1 h
  · exact inner.2 h
theorem Homomorphism_ {g h : List (List Int)} (hg : Grp g) (hh : Grp h) {f : List Int} (hf : AllIn h.length f) (hl : f.length = g.length) : spec_l01Homomorphism.f g h f = some (B (Hom g h f)) := by
  have n8 := hg.n8; have m8 := hh.n8
  rw [spec_l01Homomorphism.f_eq]
  refine scanT g.length (fun i => spec_l01Homomorphism.l0 f i g h) (fun x => ∀ y : Int, 0 ≤ y → y < g.length → rd f (T g x y) = T h (rd f x) (rd f y)) (fun x x0 x1 _ => ?_) (fun _ => by (rw [spec_l01Homomorphism.l0_eq, spec_l01N.f_eq, Option.bind_some]); ((with_reducible repeat (first | refine go_pos (by first | assumption | omega | rfl | exact B_pos (by omega)) ?_ | refine go_neg (by first | assumption | omega | decide | exact B_not (by omega)) ?_ | refine go_bind (by first | assumption) ?_ | dsimp only)); first | done | (with_reducible rfl) | simp (disch := omega) only [w64] | (show False; done)))
  have rx := hg.row x x0 x1
  have inner := scanI g.length (fun y => spec_l01Homomorphism.l1 f x y g h) (fun y => rd f (T g x y) = T h (rd f x) (rd f y)) (some false) (spec_l01Homomorphism.l0 f (x + 1) g h) (fun y y0 y1 _ => by
    obtain ⟨a0, a1⟩ := hf x x0 (by omega)
    obtain ⟨b0, b1⟩ := hf y y0 (by omega)
    obtain ⟨e0, e1⟩ := hg.ent x y x0 x1 y0 y1
    have ra := hh.row _ a0 a1
    refine ⟨fun h => ?_, fun h => ?_⟩ <;> (rw [spec_l01Homomorphism.l1_eq, spec_l01N.f_eq, Option.bind_some]) <;> ((with_reducible repeat (first | refine go_pos (by first | assumption | omega | rfl | exact B_pos (by omega)) ?_ | refine go_neg (by first | assumption | omega | decide | exact B_not (by omega)) ?_ | refine go_bind (by first | assumption) ?_ | dsimp only)); first | done | (with_reducible rfl) | simp (disch := omega) only [w64] | (show False; done))) (fun _ => by (rw [spec_l01Homomorphism.l1_eq, spec_l01N.f_eq, Option.bind_some]); ((with_reducible repeat (first | refine go_pos (by first | assumption | omega | rfl | exact B_pos (by omega)) ?_ | refine go_neg (by first | assumption | omega | decide | exact B_not (by omega)) ?_ | refine go_bind (by first | assumption) ?_ | dsimp only)); first | done | (with_reducible rfl) | simp (disch := omega) only [w64] | (show False; done)))
  refine ⟨fun h => ?_, fun h => ?_⟩ <;> (rw [spec_l01Homomorphism.l0_eq, spec_l01N.f_eq, Option.bind_some]) <;> (with_reducible repeat (first | refine go_pos (by first | assumption | omega | rfl | exact B_pos (by omega)) ?_ | refine go_neg (by first | assumption | omega | decide | exact B_not (by omega)) ?_ | refine go_bind (by first | assumption) ?_ | dsimp only))
  · exact inner.1 h
  · exact inner.2 h
theorem unitsOf {g : List (List Int)} (hl : g.length ≤ 1048576) (m : Int) {F : Int → Option Int} {G : Nat → Int} (hF : ∀ i : Nat, i < g.length → F (i : Int) = some (G i)) : impl_unitsOf.f g m F = some (m, (List.range g.length).map G) := by
  rw [impl_unitsOf.f_eq, impl_order.f_eq, Option.bind_some]
  have := up g.length (fun j => impl_unitsOf.l0 F (g.length : Int) (j : Int) 0 m [] ((List.range j).map G)) (fun j h => by
    have l1 : ((List.range j).map G).length = j := by rw [List.length_map, List.length_range]
    have l2 : ∀ x : Int, ([x] : List Int).length = 1 := fun _ => rfl
    rw [List.range_succ, List.map_append, List.map_singleton, impl_unitsOf.l0_eq, wn (j := j) (by omega), hF j h, Option.bind_some, l1, l2]
    ((with_reducible repeat (first | refine go_pos (by first | assumption | omega | rfl | exact B_pos (by omega)) ?_ | refine go_neg (by first | assumption | omega | decide | exact B_not (by omega)) ?_ | refine go_bind (by first | assumption) ?_ | dsimp only)); first | done | (with_reducible rfl) | simp (disch := omega) only [w64] | (show False; done)))
  simp only [Int.natCast_zero, List.range_zero, List.map_nil] at this
  rw [this, impl_unitsOf.l0_eq]
  ((with_reducible repeat (first | refine go_pos (by first | assumption | omega | rfl | exact B_pos (by omega)) ?_ | refine go_neg (by first | assumption | omega | decide | exact B_not (by omega)) ?_ | refine go_bind (by first | assumption) ?_ | dsimp only)); first | done | (with_reducible rfl) | simp (disch := omega) only [w64] | (show False; done))
theorem set_step {xs : List Int} (C : Int → Int) {j : Nat} (h : j < xs.length) : ((xs.take j).map C ++ xs.drop j).set j (C (rd xs (j : Int))) = (xs.take (j + 1)).map C ++ xs.drop (j + 1) := by
  have hl : ((xs.take j).map C).length = j := by rw [List.length_map, List.length_take]; omega
  rw [List.set_append, if_neg (by omega), hl, Nat.sub_self, drop_rd h, List.set_cons_zero, take_rd h, List.map_append]
  simp
theorem set_rd {xs : List Int} (C : Int → Int) {j : Nat} (h : j < xs.length) : rd ((xs.take j).map C ++ xs.drop j) (j : Int) = rd xs (j : Int) := by
  have hl : ((xs.take j).map C).length = j := by rw [List.length_map, List.length_take]; omega
  simp [rd, List.getD_eq_getElem?_getD, List.getElem?_append, hl, Nat.min_eq_left (Nat.le_of_lt h)]
theorem set_len {xs : List Int} (C : Int → Int) {j : Nat} (h : j ≤ xs.length) : ((xs.take j).map C ++ xs.drop j).length = xs.length := by rw [List.length_append, List.length_map, List.length_take, List.length_drop]; omega
theorem map_congr_range {n : Nat} {F G : Nat → Int} (h : ∀ i, i < n → F i = G i) : (List.range n).map F = (List.range n).map G := List.map_congr_left fun i hi => h i (List.mem_range.1 hi)
theorem same_PullBack (g h : List (List Int)) (m : Int) (u f : List Int) (d : Int) (v : List Int) (hl : g.length ≤ maxLen) (hr : ∀ r ∈ g, r.length ≤ maxLen) (kl : h.length ≤ maxLen) (kr : ∀ r ∈ h, r.length ≤ maxLen) (hu : u.length ≤ maxLen) (hfl : f.length ≤ maxLen) (hv : v.length ≤ maxLen) :
    ∃ (a : Int) (R : List Int) (b : Int) (S : List Int) (c : Int), spec_PullBack.f g h m u f d v = some (a, R, b, S, c) ∧ impl_PullBack.f g h m u f d v = some (a, R, b, S, c) ∧ R.length ≤ 1048576 ∧ S.length ≤ 1048576 := by
  have hIs := Is_ g
  have hG2 := areGroups2 g h hl hr kl kr
  have hM := areModules1 h kl kr m u hu
  by_cases h0 : Grp g
  rotate_left
  · rcases co_codes h kl kr m u hu d v hv with ⟨_, _, _, cI, cS⟩ | ⟨_, cI, cS⟩ <;> refine ⟨0, [], 0, [], 1, ?_, ?_, by simp, by simp⟩
    · rw [spec_PullBack.f_eq]; (with_reducible repeat (first | refine go_pos (by first | assumption | omega | rfl | exact B_pos (by omega)) ?_ | refine go_neg (by first | assumption | omega | decide | exact B_not (by omega)) ?_ | refine go_bind (by first | assumption) ?_ | dsimp only)); rw [spec_PullBack.j0_eq]; ((with_reducible repeat (first | refine go_pos (by first | assumption | omega | rfl | exact B_pos (by omega)) ?_ | refine go_neg (by first | assumption | omega | decide | exact B_not (by omega)) ?_ | refine go_bind (by first | assumption) ?_ | dsimp only)); first | done | (with_reducible rfl) | simp (disch := omega) only [w64] | (show False; done))
    · rw [B_neg fun q => h0 q.1] at hG2
      rw [impl_PullBack.f_eq]; ((with_reducible repeat (first | refine go_pos (by first | assumption | omega | rfl | exact B_pos (by omega)) ?_ | refine go_neg (by first | assumption | omega | decide | exact B_not (by omega)) ?_ | refine go_bind (by first | assumption) ?_ | dsimp only)); first | done | (with_reducible rfl) | simp (disch := omega) only [w64] | (show False; done))
    · rw [spec_PullBack.f_eq]; (with_reducible repeat (first | refine go_pos (by first | assumption | omega | rfl | exact B_pos (by omega)) ?_ | refine go_neg (by first | assumption | omega | decide | exact B_not (by omega)) ?_ | refine go_bind (by first | assumption) ?_ | dsimp only)); rw [spec_PullBack.j0_eq]; ((with_reducible repeat (first | refine go_pos (by first | assumption | omega | rfl | exact B_pos (by omega)) ?_ | refine go_neg (by first | assumption | omega | decide | exact B_not (by omega)) ?_ | refine go_bind (by first | assumption) ?_ | dsimp only)); first | done | (with_reducible rfl) | simp (disch := omega) only [w64] | (show False; done))
    · rw [B_neg fun q => h0 q.1] at hG2
      rw [impl_PullBack.f_eq]; ((with_reducible repeat (first | refine go_pos (by first | assumption | omega | rfl | exact B_pos (by omega)) ?_ | refine go_neg (by first | assumption | omega | decide | exact B_not (by omega)) ?_ | refine go_bind (by first | assumption) ?_ | dsimp only)); first | done | (with_reducible rfl) | simp (disch := omega) only [w64] | (show False; done))
  rcases co_codes h kl kr m u hu d v hv with ⟨hh, hm, hc, cI, cS⟩ | ⟨hn, cI, cS⟩
  rotate_left
  · refine ⟨0, [], 0, [], 1, ?_, ?_, by simp, by simp⟩
    · rw [spec_PullBack.f_eq]; (with_reducible repeat (first | refine go_pos (by first | assumption | omega | rfl | exact B_pos (by omega)) ?_ | refine go_neg (by first | assumption | omega | decide | exact B_not (by omega)) ?_ | refine go_bind (by first | assumption) ?_ | dsimp only)); rw [spec_PullBack.j0_eq]; ((with_reducible repeat (first | refine go_pos (by first | assumption | omega | rfl | exact B_pos (by omega)) ?_ | refine go_neg (by first | assumption | omega | decide | exact B_not (by omega)) ?_ | refine go_bind (by first | assumption) ?_ | dsimp only)); first | done | (with_reducible rfl) | simp (disch := omega) only [w64] | (show False; done))
    · rw [impl_PullBack.f_eq]
      by_cases hh : Grp h
      · rw [B_pos ⟨h0, hh⟩] at hG2
        by_cases hm : Mdl h m u
        · rw [B_pos ⟨hh, hm⟩] at hM
          have hc := isCochain hh m u d v hv
          rw [B_neg fun q => hn ⟨hh, hm, q⟩] at hc
          ((with_reducible repeat (first | refine go_pos (by first | assumption | omega | rfl | exact B_pos (by omega)) ?_ | refine go_neg (by first | assumption | omega | decide | exact B_not (by omega)) ?_ | refine go_bind (by first | assumption) ?_ | dsimp only)); first | done | (with_reducible rfl) | simp (disch := omega) only [w64] | (show False; done))
        · rw [B_neg fun q => hm q.2] at hM
          ((with_reducible repeat (first | refine go_pos (by first | assumption | omega | rfl | exact B_pos (by omega)) ?_ | refine go_neg (by first | assumption | omega | decide | exact B_not (by omega)) ?_ | refine go_bind (by first | assumption) ?_ | dsimp only)); first | done | (with_reducible rfl) | simp (disch := omega) only [w64] | (show False; done))
      · rw [B_neg fun q => hh q.2] at hG2
        ((with_reducible repeat (first | refine go_pos (by first | assumption | omega | rfl | exact B_pos (by omega)) ?_ | refine go_neg (by first | assumption | omega | decide | exact B_not (by omega)) ?_ | refine go_bind (by first | assumption) ?_ | dsimp only)); first | done | (with_reducible rfl) | simp (disch := omega) only [w64] | (show False; done))
  have n8 := h0.n8; have m8 := hh.n8; have hlu := hm.len; have m2 := hm.m2; have m12 := hm.m12
  rw [B_pos ⟨h0, hh⟩] at hG2
  rw [B_pos ⟨hh, hm⟩] at hM
  have hcI := isCochain hh m u d v hv
  rw [B_pos hc] at hcI
  have hE := elements hh (xs := f) hfl
  have hA := areIn (h.length : Int) f hfl
  have hI : impl_imagesCode.f g h f = some (ite_ (f.length = g.length ∧ AllIn h.length f) 0 2) := by
    rw [impl_imagesCode.f_eq, impl_order.f_eq, Option.bind_some, impl_order.f_eq, Option.bind_some]
    by_cases c1 : f.length = g.length
    · by_cases c2 : AllIn h.length f
      · rw [B_pos c2] at hA; rw [ite_pos ⟨c1, c2⟩]; ((with_reducible repeat (first | refine go_pos (by first | assumption | omega | rfl | exact B_pos (by omega)) ?_ | refine go_neg (by first | assumption | omega | decide | exact B_not (by omega)) ?_ | refine go_bind (by first | assumption) ?_ | dsimp only)); first | done | (with_reducible rfl) | simp (disch := omega) only [w64] | (show False; done))
      · rw [B_neg c2] at hA; rw [ite_neg fun q => c2 q.2]; ((with_reducible repeat (first | refine go_pos (by first | assumption | omega | rfl | exact B_pos (by omega)) ?_ | refine go_neg (by first | assumption | omega | decide | exact B_not (by omega)) ?_ | refine go_bind (by first | assumption) ?_ | dsimp only)); first | done | (with_reducible rfl) | simp (disch := omega) only [w64] | (show False; done))
    · rw [ite_neg fun q => c1 q.1]; ((with_reducible repeat (first | refine go_pos (by first | assumption | omega | rfl | exact B_pos (by omega)) ?_ | refine go_neg (by first | assumption | omega | decide | exact B_not (by omega)) ?_ | refine go_bind (by first | assumption) ?_ | dsimp only)); first | done | (with_reducible rfl) | simp (disch := omega) only [w64] | (show False; done))
  by_cases c : f.length = g.length ∧ AllIn h.length f
  rotate_left
  · rw [ite_neg c] at hI
    refine ⟨0, [], 0, [], 2, ?_, ?_, by simp, by simp⟩
    · rw [spec_PullBack.f_eq]; (with_reducible repeat (first | refine go_pos (by first | assumption | omega | rfl | exact B_pos (by omega)) ?_ | refine go_neg (by first | assumption | omega | decide | exact B_not (by omega)) ?_ | refine go_bind (by first | assumption) ?_ | dsimp only)); rw [spec_PullBack.j0_eq]
      by_cases c1 : f.length = g.length
      · rw [ite_neg fun q => c ⟨c1, q⟩] at hE; ((with_reducible repeat (first | refine go_pos (by first | assumption | omega | rfl | exact B_pos (by omega)) ?_ | refine go_neg (by first | assumption | omega | decide | exact B_not (by omega)) ?_ | refine go_bind (by first | assumption) ?_ | dsimp only)); first | done | (with_reducible rfl) | simp (disch := omega) only [w64] | (show False; done))
      · ((with_reducible repeat (first | refine go_pos (by first | assumption | omega | rfl | exact B_pos (by omega)) ?_ | refine go_neg (by first | assumption | omega | decide | exact B_not (by omega)) ?_ | refine go_bind (by first | assumption) ?_ | dsimp only)); first | done | (with_reducible rfl) | simp (disch := omega) only [w64] | (show False; done))
    · rw [impl_PullBack.f_eq]; ((with_reducible repeat (first | refine go_pos (by first | assumption | omega | rfl | exact B_pos (by omega)) ?_ | refine go_neg (by first | assumption | omega | decide | exact B_not (by omega)) ?_ | refine go_bind (by first | assumption) ?_ | dsimp only)); first | done | (with_reducible rfl) | simp (disch := omega) only [w64] | (show False; done))
  rw [ite_pos c] at hI
  obtain ⟨c1, c2⟩ := c
  rw [ite_pos c2] at hE
  have hHI := isHomomorphism h0 hh c2 c1
  have hHS := Homomorphism_ h0 hh c2 c1
  by_cases hH : Hom g h f
  rotate_left
  · rw [B_neg hH] at hHI hHS
    refine ⟨0, [], 0, [], 5, ?_, ?_, by simp, by simp⟩
    · rw [spec_PullBack.f_eq]; (with_reducible repeat (first | refine go_pos (by first | assumption | omega | rfl | exact B_pos (by omega)) ?_ | refine go_neg (by first | assumption | omega | decide | exact B_not (by omega)) ?_ | refine go_bind (by first | assumption) ?_ | dsimp only)); rw [spec_PullBack.j0_eq]; ((with_reducible repeat (first | refine go_pos (by first | assumption | omega | rfl | exact B_pos (by omega)) ?_ | refine go_neg (by first | assumption | omega | decide | exact B_not (by omega)) ?_ | refine go_bind (by first | assumption) ?_ | dsimp only)); first | done | (with_reducible rfl) | simp (disch := omega) only [w64] | (show False; done))
    · rw [impl_PullBack.f_eq]; ((with_reducible repeat (first | refine go_pos (by first | assumption | omega | rfl | exact B_pos (by omega)) ?_ | refine go_neg (by first | assumption | omega | decide | exact B_not (by omega)) ?_ | refine go_bind (by first | assumption) ?_ | dsimp only)); first | done | (with_reducible rfl) | simp (disch := omega) only [w64] | (show False; done))
  rw [B_pos hH] at hHI hHS
  obtain ⟨n, rfl⟩ := Int.eq_ofNat_of_zero_le hc.1.1
  have n3 : n ≤ 3 := by have := hc.1.2; omega
  have hb := cells_bd h0 (d := (n : Int)) (by omega)
  have hCl := Cells_ h0 (d := (n : Int)) (by omega) (by omega)
  obtain ⟨U, hU⟩ : ∃ U : Nat → Int, ∀ i, U i = rd u (rd f (i : Int)) := ⟨_, fun _ => rfl⟩
  obtain ⟨V, hV⟩ : ∃ V : Nat → Int, ∀ i, V i = At h v ((lst ((g.length : Int) - 1) n (i : Int)).map (rd f)) := ⟨_, fun _ => rfl⟩
  have val : ∀ i : Nat, (i : Int) < cells g n → AllIn h.length ((lst ((g.length : Int) - 1) n (i : Int)).map (rd f)) ∧ 0 ≤ V i ∧ V i < m := fun i hi => by
    obtain ⟨hx, _⟩ := lst_grp h0 (n := n) (i := i) hi
    have hll := lst_length ((g.length : Int) - 1) n i
    have hy : AllIn h.length ((lst ((g.length : Int) - 1) n i).map (rd f)) := allIn_of fun y hy => by
      obtain ⟨x, hx', rfl⟩ := List.mem_map.1 hy
      obtain ⟨x0, x1⟩ := hx.mem hx'
      exact c2 x x0 (by omega)
    rw [hV]
    exact ⟨hy, At_bd hh (by omega) hc hy (by rw [List.length_map]; omega)⟩
  refine ⟨m, (List.range g.length).map U, (n : Int), (List.range (cells g n).toNat).map V, 0, ?_, ?_, by rw [List.length_map, List.length_range]; omega, by rw [List.length_map, List.length_range]; omega⟩
  · have hP : spec_l03Pull.f g m u f h n v = some (m, (List.range g.length).map U, (n : Int), (List.range (cells g n).toNat).map V) := by
      rw [spec_l03Pull.f_eq]
      have s1 := up g.length (fun j => spec_l03Pull.l0 f (j : Int) g m u h n v 0 0 m n ((List.range j).map U) []) (fun j hj => by
        have l1 : ((List.range j).map U).length = j := by rw [List.length_map, List.length_range]
        have l2 : ∀ x : Int, ([x] : List Int).length = 1 := fun _ => rfl
        obtain ⟨a0, a1⟩ := c2 j (by omega) (by omega)
        rw [List.range_succ, List.map_append, List.map_singleton, hU, spec_l03Pull.l0_eq, spec_l01N.f_eq, Option.bind_some, wn (j := j) (by omega), l1, l2]
        ((with_reducible repeat (first | refine go_pos (by first | assumption | omega | rfl | exact B_pos (by omega)) ?_ | refine go_neg (by first | assumption | omega | decide | exact B_not (by omega)) ?_ | refine go_bind (by first | assumption) ?_ | dsimp only)); first | done | (with_reducible rfl) | simp (disch := omega) only [w64] | (show False; done)))
      simp only [Int.natCast_zero, List.range_zero, List.map_nil] at s1
      rw [s1, spec_l03Pull.l0_eq, spec_l01N.f_eq, Option.bind_some]
      (with_reducible repeat (first | refine go_pos (by first | assumption | omega | rfl | exact B_pos (by omega)) ?_ | refine go_neg (by first | assumption | omega | decide | exact B_not (by omega)) ?_ | refine go_bind (by first | assumption) ?_ | dsimp only))
      have s2 := up (cells g n).toNat (fun i => spec_l03Pull.l1 f (i : Int) g h n v 0 0 m n ((List.range g.length).map U) ((List.range i).map V)) (fun i hi => by
        have hVi := hV i
        obtain ⟨hy, _⟩ := val i (by omega)
        obtain ⟨hx, _⟩ := lst_grp h0 (n := n) (i := i) (by omega)
        have hll := lst_length ((g.length : Int) - 1) n i
        have hL := (cell_list h0 (n := n) (i := i) (by omega) (by omega)).2
        obtain ⟨xs, hxs⟩ : ∃ xs, xs = lst ((g.length : Int) - 1) n i := ⟨_, rfl⟩
        rw [← hxs] at hx hll hL hy hVi
        have hat := At_ (u := u) hh hc hy (by rw [List.length_map]; omega)
        rw [← hVi] at hat
        clear hVi
        have inner := up xs.length (fun j => spec_l03Pull.l2 f i (j : Int) g h n v 0 0 m n ((xs.take j).map (rd f) ++ xs.drop j) ((List.range g.length).map U) ((List.range i).map V)) (fun j hj => by
          obtain ⟨a0, a1⟩ := hx j (by omega) (by omega)
          have l1 := set_len (rd f) (xs := xs) (j := j) (by omega)
          rw [← set_step (rd f) hj, spec_l03Pull.l2_eq, set_rd (rd f) hj, wn (j := j) (by omega), Int.toNat_natCast]
          ((with_reducible repeat (first | refine go_pos (by first | assumption | omega | rfl | exact B_pos (by omega)) ?_ | refine go_neg (by first | assumption | omega | decide | exact B_not (by omega)) ?_ | refine go_bind (by first | assumption) ?_ | dsimp only)); first | done | (with_reducible rfl) | simp (disch := omega) only [w64] | (show False; done)))
        simp only [Int.natCast_zero, List.take_zero, List.map_nil, List.drop_zero, List.nil_append, List.take_length, List.drop_length, List.append_nil] at inner
        have l2 : ((List.range i).map V).length = i := by rw [List.length_map, List.length_range]
        have l3 : ∀ y : Int, ([y] : List Int).length = 1 := fun _ => rfl
        have l4 : (xs.map (rd f)).length = xs.length := List.length_map ..
        rw [List.range_succ, List.map_append, List.map_singleton, spec_l03Pull.l1_eq, hCl, Option.bind_some]
        (with_reducible repeat (first | refine go_pos (by first | assumption | omega | rfl | exact B_pos (by omega)) ?_ | refine go_neg (by first | assumption | omega | decide | exact B_not (by omega)) ?_ | refine go_bind (by first | assumption) ?_ | dsimp only))
        rw [inner, spec_l03Pull.l2_eq, hat, Option.bind_some, l2, l3, wn (j := i) (by omega)]
        ((with_reducible repeat (first | refine go_pos (by first | assumption | omega | rfl | exact B_pos (by omega)) ?_ | refine go_neg (by first | assumption | omega | decide | exact B_not (by omega)) ?_ | refine go_bind (by first | assumption) ?_ | dsimp only)); first | done | (with_reducible rfl) | simp (disch := omega) only [w64] | (show False; done)))
      simp only [Int.natCast_zero, List.range_zero, List.map_nil] at s2
      rw [s2, spec_l03Pull.l1_eq, hCl, Option.bind_some]
      ((with_reducible repeat (first | refine go_pos (by first | assumption | omega | rfl | exact B_pos (by omega)) ?_ | refine go_neg (by first | assumption | omega | decide | exact B_not (by omega)) ?_ | refine go_bind (by first | assumption) ?_ | dsimp only)); first | done | (with_reducible rfl) | simp (disch := omega) only [w64] | (show False; done))
    rw [spec_PullBack.f_eq]; (with_reducible repeat (first | refine go_pos (by first | assumption | omega | rfl | exact B_pos (by omega)) ?_ | refine go_neg (by first | assumption | omega | decide | exact B_not (by omega)) ?_ | refine go_bind (by first | assumption) ?_ | dsimp only)); rw [spec_PullBack.j0_eq]; ((with_reducible repeat (first | refine go_pos (by first | assumption | omega | rfl | exact B_pos (by omega)) ?_ | refine go_neg (by first | assumption | omega | decide | exact B_not (by omega)) ?_ | refine go_bind (by first | assumption) ?_ | dsimp only)); first | done | (with_reducible rfl) | simp (disch := omega) only [w64] | (show False; done))
  · have hR : impl_restricted.f g f m u = some (m, (List.range g.length).map U) := by
      have hun := unitsOf (g := g) (by omega) m (F := fun z0 => (impl_restricted_1.f z0 m u f).map fun z => z) (G := U) (fun i hi => by
        obtain ⟨a0, a1⟩ := c2 i (by omega) (by omega)
        have : impl_restricted_1.f (i : Int) m u f = some (U i) := by
          rw [impl_restricted_1.f_eq, hU]; ((with_reducible repeat (first | refine go_pos (by first | assumption | omega | rfl | exact B_pos (by omega)) ?_ | refine go_neg (by first | assumption | omega | decide | exact B_not (by omega)) ?_ | refine go_bind (by first | assumption) ?_ | dsimp only)); first | done | (with_reducible rfl) | simp (disch := omega) only [w64] | (show False; done))
        show Option.map _ (impl_restricted_1.f _ m u f) = _
        rw [this]; rfl)
      rw [impl_restricted.f_eq]; ((with_reducible repeat (first | refine go_pos (by first | assumption | omega | rfl | exact B_pos (by omega)) ?_ | refine go_neg (by first | assumption | omega | decide | exact B_not (by omega)) ?_ | refine go_bind (by first | assumption) ?_ | dsimp only)); first | done | (with_reducible rfl) | simp (disch := omega) only [w64] | (show False; done))
    have hT := told h0 m2 m12 (n := n) (by omega) (F := fun z0 => (impl_pulled_1.f z0 n v h f).map fun z => z) (G := V) (fun i hi => by
      obtain ⟨hy, _⟩ := val i (by omega)
      obtain ⟨hx, _⟩ := lst_grp h0 (n := n) (i := i) (by omega)
      have hll := lst_length ((g.length : Int) - 1) n i
      have hat := at_ hh hc hy (by rw [List.length_map]; omega)
      have hmp := mapped (F := fun z0 => (impl_pulled_1_1.f z0 f).map fun z => z) (G := rd f) (lst ((g.length : Int) - 1) n i) (by omega) (fun y hy => by
        obtain ⟨y0, y1⟩ := hx.mem hy
        have : impl_pulled_1_1.f y f = some (rd f y) := by rw [impl_pulled_1_1.f_eq]; ((with_reducible repeat (first | refine go_pos (by first | assumption | omega | rfl | exact B_pos (by omega)) ?_ | refine go_neg (by first | assumption | omega | decide | exact B_not (by omega)) ?_ | refine go_bind (by first | assumption) ?_ | dsimp only)); first | done | (with_reducible rfl) | simp (disch := omega) only [w64] | (show False; done))
        show Option.map _ (impl_pulled_1_1.f y f) = _
        rw [this]; rfl)
      have e : impl_pulled_1.f (lst ((g.length : Int) - 1) n i) n v h f = some (V i) := by
        rw [impl_pulled_1.f_eq, hV]; ((with_reducible repeat (first | refine go_pos (by first | assumption | omega | rfl | exact B_pos (by omega)) ?_ | refine go_neg (by first | assumption | omega | decide | exact B_not (by omega)) ?_ | refine go_bind (by first | assumption) ?_ | dsimp only)); first | done | (with_reducible rfl) | simp (disch := omega) only [w64] | (show False; done))
      show Option.map _ (impl_pulled_1.f _ n v h f) = _
      rw [e]; rfl)
    rw [map_congr_range (G := V) fun i hi => Int.emod_eq_of_lt (val i (by omega)).2.1 (val i (by omega)).2.2] at hT
    have hP : impl_pulled.f g h m u f n v = some (m, (List.range g.length).map U, (n : Int), (List.range (cells g n).toNat).map V) := by
      rw [impl_pulled.f_eq]; ((with_reducible repeat (first | refine go_pos (by first | assumption | omega | rfl | exact B_pos (by omega)) ?_ | refine go_neg (by first | assumption | omega | decide | exact B_not (by omega)) ?_ | refine go_bind (by first | assumption) ?_ | dsimp only)); first | done | (with_reducible rfl) | simp (disch := omega) only [w64] | (show False; done))
    rw [impl_PullBack.f_eq]; ((with_reducible repeat (first | refine go_pos (by first | assumption | omega | rfl | exact B_pos (by omega)) ?_ | refine go_neg (by first | assumption | omega | decide | exact B_not (by omega)) ?_ | refine go_bind (by first | assumption) ?_ | dsimp only)); first | done | (with_reducible rfl) | simp (disch := omega) only [w64] | (show False; done))
end Go.Proofs.Ytdiadcmkddkjpaa.V
set_option linter.unusedVariables false
set_option linter.unusedSimpArgs false
set_option maxHeartbeats 4000000
set_option maxRecDepth 20000
namespace Go.Proofs.Ytdiadcmkddkjpaa.Pure
open Go.RowKit Go.Proofs.Ytdiadcmkddkjpaa.D Go.Proofs.Ytdiadcmkddkjpaa.P Go.Proofs.Ytdiadcmkddkjpaa.V
theorem FnExactPullBack_pure : ∀ (g0 : List (List Int)) (g1 : List (List Int)) (m2 : Int) (u2 : List Int) (u3 : List Int) (m4 : Int) (u4 : List Int), g0.length ≤ maxLen → (∀ r ∈ g0, r.length ≤ maxLen ∧ ∀ x ∈ r, (Lit.int .i64 x).wf = true) → g1.length ≤ maxLen → (∀ r ∈ g1, r.length ≤ maxLen ∧ ∀ x ∈ r, (Lit.int .i64 x).wf = true) → (Lit.int .i64 m2).wf = true → u2.length ≤ maxLen → (∀ x ∈ u2, (Lit.int .i64 x).wf = true) → u3.length ≤ maxLen → (∀ x ∈ u3, (Lit.int .i64 x).wf = true) → (Lit.int .i64 m4).wf = true → u4.length ≤ maxLen → (∀ x ∈ u4, (Lit.int .i64 x).wf = true) → laws_FnExactPullBack.f g0 g1 m2 u2 u3 m4 u4 = some true := by
  intro g0 g1 m2 u2 u3 m4 u4 hl0 hq0 hl1 hq1 hw2 hu2 hx2 hu3 hx3 hw4 hu4 hx4
  have hr0 : ∀ r ∈ g0, r.length ≤ maxLen := fun r h => (hq0 r h).1
  have hr1 : ∀ r ∈ g1, r.length ≤ maxLen := fun r h => (hq1 r h).1
  rw [laws_FnExactPullBack.f_eq]
  by_cases ku3 : u3.length ≤ 1048576
  rotate_left
  · ((with_reducible repeat (first | refine go_pos (by first | assumption | omega | rfl | exact B_pos (by omega)) ?_ | refine go_neg (by first | assumption | omega | decide | exact B_not (by omega)) ?_ | refine go_bind (by first | assumption) ?_ | dsimp only)); first | done | (with_reducible rfl) | simp (disch := omega) only [w64] | (show False; done))
  obtain ⟨t0, e0, z0⟩ := szGroup g0 1048576 hl0 hr0 (by omega) (by omega)
  rcases z0 with z0 | ⟨ta0, tb0, kl0, kr0⟩
  · ((with_reducible repeat (first | refine go_pos (by first | assumption | omega | rfl | exact B_pos (by omega)) ?_ | refine go_neg (by first | assumption | omega | decide | exact B_not (by omega)) ?_ | refine go_bind (by first | assumption) ?_ | dsimp only)); first | done | (with_reducible rfl) | simp (disch := omega) only [w64] | (show False; done))
  obtain ⟨t1, e1, z1⟩ := szGroup g1 t0 hl1 hr1 (by omega) (by omega)
  rcases z1 with z1 | ⟨ta1, tb1, kl1, kr1⟩
  · ((with_reducible repeat (first | refine go_pos (by first | assumption | omega | rfl | exact B_pos (by omega)) ?_ | refine go_neg (by first | assumption | omega | decide | exact B_not (by omega)) ?_ | refine go_bind (by first | assumption) ?_ | dsimp only)); first | done | (with_reducible rfl) | simp (disch := omega) only [w64] | (show False; done))
  obtain ⟨t2, e2, z2⟩ := szModule m2 u2 t1 hu2 (by omega) (by omega)
  rcases z2 with z2 | ⟨ta2, tb2, ku2⟩
  · ((with_reducible repeat (first | refine go_pos (by first | assumption | omega | rfl | exact B_pos (by omega)) ?_ | refine go_neg (by first | assumption | omega | decide | exact B_not (by omega)) ?_ | refine go_bind (by first | assumption) ?_ | dsimp only)); first | done | (with_reducible rfl) | simp (disch := omega) only [w64] | (show False; done))
  obtain ⟨t4, e4, z4⟩ := szCochain m4 u4 t2 hu4 (by omega) (by omega)
  rcases z4 with z4 | ⟨ta4, tb4, ku4⟩
  · ((with_reducible repeat (first | refine go_pos (by first | assumption | omega | rfl | exact B_pos (by omega)) ?_ | refine go_neg (by first | assumption | omega | decide | exact B_not (by omega)) ?_ | refine go_bind (by first | assumption) ?_ | dsimp only)); first | done | (with_reducible rfl) | simp (disch := omega) only [w64] | (show False; done))
  obtain ⟨c0, R0, c1, R1, c2, hS, hI, rb0, rb1⟩ := same_PullBack g0 g1 m2 u2 u3 m4 u4 hl0 hr0 hl1 hr1 hu2 hu3 hu4
  have eT0 := toGroup g0 kl0 kr0
  have eS0 := same_Group g0 hl0 hr0
  have eN0 := tot_small kl0 kr0
  have eK0 := markGroup g0 (1) (by omega) (by omega) (by omega)
  have eT1 := toGroup g1 kl1 kr1
  have eS1 := same_Group g1 hl1 hr1
  have eN1 := tot_small kl1 kr1
  have eK1 := markGroup g1 (1 + tot g0) (by omega) (by omega) (by omega)
  have eT2 := toModule m2 u2 ku2
  have eS2 := same_Module m2 u2 hu2
  have eK2 := markModule m2 u2 (1 + tot g0 + tot g1) (by omega) (by omega)
  have eT3 := toInt64S u3 ku3
  have eS3 := same_Ints u3 hu3
  have eK3 := markS u3 (1 + tot g0 + tot g1 + u2.length) (by omega) (by omega)
  have eT4 := toCochain m4 u4 ku4
  have eS4 := same_Cochain m4 u4 hu4
  have eK4 := markCochain m4 u4 (1 + tot g0 + tot g1 + u2.length + u3.length) (by omega) (by omega)
  have rS0 := same_Module c0 R0 (le_maxLen (by omega))
  have rK0 := markModule c0 R0 (1) (by omega) (by omega)
  have rH0 := heldModule c0 (1) R0.length (by omega) (by omega)
  have rS1 := same_Cochain c1 R1 (le_maxLen (by omega))
  have rK1 := markCochain c1 R1 (1 + R0.length) (by omega) (by omega)
  have rH1 := heldCochain c1 (1 + R0.length) R1.length (by omega) (by omega)
  ((with_reducible repeat (first | refine go_pos (by first | assumption | omega | rfl | exact B_pos (by omega)) ?_ | refine go_neg (by first | assumption | omega | decide | exact B_not (by omega)) ?_ | refine go_bind (by first | assumption) ?_ | dsimp only)); first | done | (with_reducible rfl) | simp (disch := omega) only [w64] | (show False; done))
end Go.Proofs.Ytdiadcmkddkjpaa.Pure
set_option linter.unusedVariables false
namespace Go.Proofs.Ytdiadcmkddkjpaa.D
open Go Go.RowKit
theorem valid_view {P : Program} {g : FuncId} {c : Con} (hv : Valid P g c) {x : lsd (flats c.ins)} {r : c.R} (hx : c.f x = some r) {w : World} {vs : List Value} (ha : ASRs P (fun _ => False) (fun k => k < w.heap.size) w c.ins x vs (fun _ => False)) :
    Calls P g vs.toArray w fun e w' => ∃ u, e = .returned u ∧ Below w.heap.size w w' ∧ ∃ Z' Fo us, u = outV us ∧ ASRs P (fun _ => False) Z' w' c.outs (c.dec r).1 us Fo := by
  refine (hv.2 x r hx (fun k => k < w.heap.size) (fun _ => False) (fun _ => False) w vs ha (fun _ h => h.elim) (fun _ h => h) (fun _ h => h.elim)).mono ?_
  rintro e w' ⟨u, rfl, Z', Fi, Fo, hp⟩
  obtain ⟨us, hu, ho⟩ := hp.out
  exact ⟨u, rfl, ⟨hp.os, hp.tape, hp.output, hp.size, fun k hk => hp.old k hk fun h => h⟩, Z', Fo, us, hu, ho⟩
theorem cell_lt {w : World} {a : Addr} {v : Value} (h : w.cell? a = some v) : a.block < w.heap.size := by
  unfold World.cell? at h
  cases hb : w.heap[a.block]? with
  | none => rw [hb] at h; cases h
  | some o => exact (Array.getElem?_eq_some_iff.1 hb).1
theorem view_raw {α : Type} {w : World} {sz : Nat} {R : α → List Value → Prop} {A : Option Addr} {c : Nat} {xs : List α} (hz : 0 < sz) (hc : xs.length ≤ c) (hm : xs.length ≤ 9223372036854775807)
    (h : 0 < xs.length → ∃ ad, A = some ad ∧ ∀ (j : Nat) (p : α), xs[j]? = some p → ∃ cs, cs.length = sz ∧ R p cs ∧ ∀ (i : Nat) (u : Value), cs[i]? = some u → w.cell? (ad.add (j * sz + i)) = some u) : ViewRep (fun k => k < w.heap.size) w sz R A c xs := by
  refine ⟨hc, hm, fun hl => ?_⟩
  obtain ⟨ad, rfl, hcell⟩ := h hl
  refine ⟨ad, rfl, ?_, hcell⟩
  obtain ⟨cs, h1, h2, h3⟩ := hcell 0 xs[0] (List.getElem?_eq_getElem hl)
  have := cell_lt (h3 0 cs[0] (List.getElem?_eq_getElem (by omega)))
  rwa [add_block] at this
theorem law_true {P : Program} {g : FuncId} {c : Con} (hv : Valid P g c) {x : lsd (flats c.ins)} {r : c.R} (hx : c.f x = some r) {w : World} {vs : List Value} (ha : ASRs P (fun _ => False) (fun k => k < w.heap.size) w c.ins x vs (fun _ => False)) (ho : c.outs = [.one (.v .bool)]) (hr : ∀ y : lsd (flats [.one (.v .bool)]), HEq y (c.dec r).1 → y.1 = true) :
    Calls P g vs.toArray w fun e w' => e = .returned (.bool true) ∧ Below w.heap.size w w' := by
  refine (valid_view hv hx ha).mono ?_
  rintro e w' ⟨u, rfl, hb, Z', Fo, us, rfl, hh⟩
  refine ⟨?_, hb⟩
  obtain ⟨ins, outs, R, f, dec⟩ := c
  have ho : outs = [.one (.v .bool)] := ho
  subst ho
  obtain ⟨v, vs', F0, F1, rfl, h1, h2, _⟩ := hh
  cases h2
  have h1 : [v] = [.bool (dec r).1.1] := h1
  have hb1 : (dec r).1.1 = true := hr _ HEq.rfl
  cases h1
  rw [hb1]
  rfl
end Go.Proofs.Ytdiadcmkddkjpaa.D
set_option linter.unusedVariables false
namespace Go.Proofs.Ytdiadcmkddkjpaa.D
open Go Go.RowKit Go.ChangeShapes Go.WideShapes Go.Joins Go.Deep
section
variable {H : Type} {enc : TypeId × Value → H} {P : Program} {w : World} {base : Nat} {held : Bool}
abbrev Zw (w : World) : Nat → Prop := fun k => k < w.heap.size
abbrev No : Nat → Prop := fun _ => False
theorem rep_ints {q : TypeId} {k : IntKind} {a : Addr} {len cap : Nat} {zs : List Int} (hl : len ≤ cap) (hm : cap ≤ maxLen) (hz : zs.length = cap) (hc : ∀ i, i < zs.length → w.cell? (a.add i) = some (.int k (zs.getD i 0))) (hw : ∀ n ∈ zs, (Lit.int k n).wf = true) :
    ∃ l : List Int, len = l.length ∧ l.length ≤ maxLen ∧ (∀ x ∈ l, (Lit.int k x).wf = true) ∧ Rep (Zw w) w false (.sl q (.int k)) l [.slice (some a) len cap] No := by
  have hlen : (zs.take len).length = len := by rw [List.length_take]; omega
  refine ⟨zs.take len, hlen.symm, by omega, fun x hx => hw x (List.mem_of_mem_take hx), some a, cap, by rw [hlen], ?_⟩
  refine view_raw Nat.one_pos (by show (zs.take len).length ≤ _; omega) (by show (zs.take len).length ≤ _; simp only [maxLen] at hm; omega) fun _ => ⟨a, rfl, fun j p hj => ?_⟩
  have hj : (zs.take len)[j]? = some p := hj
  have hjl : j < len := by
    have := (List.getElem?_eq_some_iff.1 hj).1
    omega
  refine ⟨[.int k p], rfl, rfl, fun i u hu => ?_⟩
  cases i with
  | zero =>
    simp only [List.getElem?_cons_zero, Option.some.injEq] at hu
    subst hu
    have h := hc j (by omega)
    have hp : zs.getD j 0 = p := by
      rw [List.getElem?_take] at hj
      simp only [hjl, if_true] at hj
      simp [List.getD, hj]
    rw [hp] at h
    simpa [Ty.size] using h
  | succ i => simp at hu
theorem rep_none {q : TypeId} {t : Ty} : Rep (Zw w) w false (.sl q t) ([] : List t.den) [.slice none 0 0] No :=
  ⟨none, 0, rfl, Nat.le_refl _, Nat.zero_le _, fun h => absurd h (by simp)⟩
theorem come_ints {t e : TypeId} {k : IntKind} {fuel : Nat} {v : Value} {x : DataW H × List MemPlace} (ht : P.underlying t = some (.slice e)) (he : P.underlying e = some (.int k)) (hc : P.cellsOf e = 1)
    (h : DataW.trod enc P w base (fun _ => true) held fuel t [v] = some x) :
    ∃ l : List Int, l.length ≤ maxLen ∧ (∀ x ∈ l, (Lit.int k x).wf = true) ∧ Rep (Zw w) w false (.sl e (.int k)) l [v] No := by
  rcases open_ints ht he hc h with ⟨hcs, _⟩ | ⟨a, len, cap, zs, hcs, _, hl, hm, hz, _, hcell, hw⟩
  · refine ⟨[], by simp, by simp, ?_⟩
    rw [hcs]
    exact rep_none
  · simp only [if_true] at hz
    obtain ⟨l, h1, h2, h3, h4⟩ := rep_ints (q := e) hl hm hz hcell hw
    exact ⟨l, h2, h3, by rw [hcs]; exact h4⟩
theorem come_rows {t e q : TypeId} {k : IntKind} {fuel : Nat} {v : Value} {x : DataW H × List MemPlace} (ht : P.underlying t = some (.slice e)) (he : P.underlying e = some (.slice q)) (hq : P.underlying q = some (.int k))
    (ce : P.cellsOf e = 1) (cq : P.cellsOf q = 1) (h : DataW.trod enc P w base (fun _ => true) held fuel t [v] = some x) :
    ∃ l : List (List Int), l.length ≤ maxLen ∧ (∀ r ∈ l, r.length ≤ maxLen ∧ ∀ x ∈ r, (Lit.int k x).wf = true) ∧ Rep (Zw w) w false (.sl e (.sl q (.int k))) l [v] No := by
  rcases open_int_rows ht he hq ce cq h with ⟨hcs, _⟩ | ⟨a, len, cap, A, L, C, Z, hcs, _, hl, hm, _, hr⟩
  · refine ⟨[], by simp, by simp, ?_⟩
    rw [hcs]
    exact rep_none
  · have each : ∀ r, r < cap → ∃ y : List Int, y.length ≤ maxLen ∧ (∀ x ∈ y, (Lit.int k x).wf = true) ∧ Rep (Zw w) w false (.sl q (.int k)) y [.slice (A r) (L r) (C r)] No := by
      intro r hrc
      obtain ⟨_, h1, h2, h3, h4, h5, h6⟩ := hr r hrc
      cases hA : A r with
      | none =>
        have hC := h5 hA
        refine ⟨[], by simp, by simp, ?_⟩
        have hL : L r = 0 := by omega
        rw [hL, hC]
        exact rep_none
      | some a' =>
        obtain ⟨l, _, h7, h8, h9⟩ := rep_ints (q := q) h1 h2 h3 (fun i hi => (h6 a' hA).2 i (by omega)) h4
        exact ⟨l, h7, h8, h9⟩
    obtain ⟨Y, hY⟩ := choose_lt each
    have hlen : ((List.range len).map Y).length = len := by simp
    refine ⟨(List.range len).map Y, by omega, fun r hr' => ?_, ?_⟩
    · obtain ⟨j, hj, rfl⟩ := List.mem_map.1 hr'
      obtain ⟨h1, h2, _⟩ := hY j (by have := List.mem_range.1 hj; omega)
      exact ⟨h1, h2⟩
    · rw [hcs]
      refine ⟨some a, cap, by rw [hlen], ?_⟩
      refine view_raw Nat.one_pos (by show ((List.range len).map Y).length ≤ _; omega) (by show ((List.range len).map Y).length ≤ _; simp only [maxLen] at hm; omega) fun _ => ⟨a, rfl, fun j p hj => ?_⟩
      have hj : ((List.range len).map Y)[j]? = some p := hj
      have hjl : j < len := by
        have := (List.getElem?_eq_some_iff.1 hj).1
        omega
      have hp : p = Y j := by simpa [hjl] using hj.symm
      subst hp
      obtain ⟨h1, h2, h3⟩ := hY j (by omega)
      refine ⟨[.slice (A j) (L j) (C j)], rfl, h3, fun i u hu => ?_⟩
      cases i with
      | zero =>
        simp only [List.getElem?_cons_zero, Option.some.injEq] at hu
        subst hu
        have := (hr j (by omega)).1
        simpa [Ty.size] using this
      | succ i => simp at hu
theorem come_int {t : TypeId} {k : IntKind} {fuel : Nat} {v : Value} {x : DataW H × List MemPlace} (ht : P.underlying t = some (.int k)) (h : DataW.trod enc P w base (fun _ => true) held fuel t [v] = some x) : ∃ n : Int, (Lit.int k n).wf = true ∧ Rep (Zw w) w false (.int k) n [v] No := by
  obtain ⟨n, h1, _, h2⟩ := DataW.trod_int ht h
  exact ⟨n, h2, h1⟩
theorem open_agg1 {r : Reach} {b0 : Nat} {t : TypeId} {f0 : Field} {v : Value} {d : DataW H} {p : List MemPlace} {spare : Nat → Bool} (hs : P.underlying t = some (.struct #[f0])) (hone : oneCellFields P #[f0] = true) (hC : P.cellsOf t = 1)
    (hv : Value.okWide P w r b0 t v) (h : DataW.Trod enc P w base spare held t v d p) :
    ∃ (v0 : Value) (y0 : DataW H × List MemPlace) (n : Nat), v = .agg #[v0] ∧ DataW.trod enc P w base spare held n f0.type [v0] = some y0 := by
  obtain ⟨cs, rfl, hsz⟩ := okWide_struct hs hv
  have hsz1 : cs.size = 1 := hsz.trans hC
  obtain ⟨c0, rfl⟩ : ∃ c0, cs = #[c0] := by
    obtain ⟨l⟩ := cs
    match l, hsz1 with
    | [c0], _ => exact ⟨c0, rfl⟩
  obtain ⟨fuel, hf⟩ := h
  obtain ⟨y0, n, hx, _, h0⟩ := trod_struct1 hs hf
  obtain ⟨o0, k0⟩ := hone_of hone 0 f0 rfl
  exact ⟨c0, y0, n, rfl, by simpa [Value.cells, o0, k0] using h0⟩
theorem args_nil : ASRs P No (Zw w) w [] () [] No := rfl
theorem args_one {t : Ty} {x : t.den} {v : Value} {ins : List ASh} {y : lsd (flats ins)} {vs : List Value} (h : Rep (Zw w) w false t x [v] No) (hr : ASRs P No (Zw w) w ins y vs No) : ASRs P No (Zw w) w (.one (.v t) :: ins) (x, y) (v :: vs) No :=
  ⟨v, vs, No, No, rfl, h, hr, fun _ h => h, fun _ h => h, fun _ h => h.elim⟩
theorem args_agg1 {t : Ty} {x : t.den} {v : Value} {ins : List ASh} {y : lsd (flats ins)} {vs : List Value} (h : Rep (Zw w) w false t x [v] No) (hr : ASRs P No (Zw w) w ins y vs No) : ASRs P No (Zw w) w (.agg [.v t] :: ins) (x, y) (.agg #[v] :: vs) No :=
  ⟨.agg #[v], vs, No, No, rfl, ⟨[v], rfl, v, [], No, No, rfl, h, rfl, fun _ h => h, fun _ h => h, fun _ h => h.elim⟩, hr, fun _ h => h, fun _ h => h, fun _ h => h.elim⟩
theorem args_agg2 {t t' : Ty} {x : t.den} {x' : t'.den} {v v' : Value} {ins : List ASh} {y : lsd (flats ins)} {vs : List Value} (h : Rep (Zw w) w false t x [v] No) (h' : Rep (Zw w) w false t' x' [v'] No) (hr : ASRs P No (Zw w) w ins y vs No) : ASRs P No (Zw w) w (.agg [.v t, .v t'] :: ins) (x, x', y) (.agg #[v, v'] :: vs) No :=
  ⟨.agg #[v, v'], vs, No, No, rfl, ⟨[v, v'], rfl, v, [v'], No, No, rfl, h, ⟨v', [], No, No, rfl, h', rfl, fun _ h => h, fun _ h => h, fun _ h => h.elim⟩, fun _ h => h, fun _ h => h, fun _ h => h.elim⟩, hr, fun _ h => h, fun _ h => h, fun _ h => h.elim⟩
end
end Go.Proofs.Ytdiadcmkddkjpaa.D
