/- What the proof of the law PairProduct stands on, part 9: words, each Go function's Lean function, and that the Go code comes to its answers; no condition. (Packed by wip/myprint/pack.py out of what the kit's printer wrote, its words among it, partly by our patches of it, and out of texts of this session.) -/
import Derived.ChangeSlices
import Derived.ChangeSame
import Derived.Deep.Matrix
import Derived.Lib.SmallJoins
import Derived.SizedLaws
import Derived.Test.YtfablaokggnioaaKPairProduct0
import Derived.Test.YtfablaokggnioaaKPairProduct1
import Derived.Test.YtfablaokggnioaaKPairProduct2
import Derived.Test.YtfablaokggnioaaKPairProduct3
import Derived.Test.YtfablaokggnioaaKPairProduct4
import Derived.Test.YtfablaokggnioaaKPairProduct5
import Derived.Test.YtfablaokggnioaaKPairProduct6
import Derived.Test.YtfablaokggnioaaKPairProduct7
import Derived.Test.YtfablaokggnioaaKPairProduct8
set_option linter.unusedVariables false
set_option linter.unusedSimpArgs false
namespace Go.Proofs.Ytfablaokggnioaa.U
open Go.RowKit Go.Proofs.YtfablaokggnioaaW.PrintWords Go.Proofs.YtfablaokggnioaaW.PrintLast Go.Proofs.YtfablaokggnioaaW.PrintMore Go.Proofs.Ytfablaokggnioaa.Pa
theorem ev_gcd0 (y : Nat) : ∀ x : Nat, Ev (fun k => impl_gcd.l0 k (x : Int) (y : Int)) ((Nat.gcd x y : Nat) : Int) := by
  induction y using Nat.strongRecOn with
  | _ y ih =>
    intro x
    by_cases h : y = 0
    · subst h
      exact ev_step_now fun k => by simp [impl_gcd.l0]
    · have h' : ¬ ((y : Int) = 0) := by omega
      have e : Int.tmod (x : Int) (y : Int) = ((x % y : Nat) : Int) := by rw [Int.ofNat_tmod]
      have := ih (x % y) (Nat.mod_lt _ (by omega)) y
      rw [show Nat.gcd y (x % y) = Nat.gcd x y by rw [Nat.gcd_comm x y, Nat.gcd_rec y x, Nat.gcd_comm]] at this
      exact Ev.step (fun k => by simp only [impl_gcd.l0, h', e, ↓reduceIte]) this
theorem ev_gcd {a b : Int} (ha : 0 ≤ a) (hb : 0 ≤ b) : Ev (fun k => impl_gcd.f k a b) ((Int.gcd a b : Nat) : Int) := by
  obtain ⟨x, rfl⟩ := Int.eq_ofNat_of_zero_le ha
  obtain ⟨y, rfl⟩ := Int.eq_ofNat_of_zero_le hb
  have := ev_gcd0 y x
  unfold impl_gcd.f
  simpa [Int.gcd] using this
theorem ev_Gcd0 (y : Nat) : ∀ x : Nat, x ≤ 9223372036854775807 → y ≤ 9223372036854775807 → Ev (fun k => spec_l01Gcd.l0 k (x : Int) (y : Int)) ((Nat.gcd x y : Nat) : Int) := by
  induction y using Nat.strongRecOn with
  | _ y ih =>
    intro x hx hy
    by_cases h : y = 0
    · subst h
      refine ev_step_now fun k => ?_
      have hw : wrap64 (-(x : Int)) = -(x : Int) := w64 (by omega) (by omega)
      have hm : mx (x : Int) (-(x : Int)) = x := by unfold mx; split <;> omega
      simp [spec_l01Gcd.l0, hw, hm]
    · have h' : ¬ ((y : Int) = 0) := by omega
      have e : Int.tmod (x : Int) (y : Int) = ((x % y : Nat) : Int) := by rw [Int.ofNat_tmod]
      have hlt := Nat.mod_lt x (show y > 0 by omega)
      have := ih (x % y) hlt y hy (by omega)
      rw [show Nat.gcd y (x % y) = Nat.gcd x y by rw [Nat.gcd_comm x y, Nat.gcd_rec y x, Nat.gcd_comm]] at this
      exact Ev.step (fun k => by simp only [spec_l01Gcd.l0, h', e, ↓reduceIte]) this
theorem ev_Gcd {a b : Int} (ha : 0 ≤ a) (hb : 0 ≤ b) (ha' : a ≤ 9223372036854775807) (hb' : b ≤ 9223372036854775807) : Ev (fun k => spec_l01Gcd.f k a b) ((Int.gcd a b : Nat) : Int) := by
  obtain ⟨x, rfl⟩ := Int.eq_ofNat_of_zero_le ha
  obtain ⟨y, rfl⟩ := Int.eq_ofNat_of_zero_le hb
  have := ev_Gcd0 y x (by omega) (by omega)
  unfold spec_l01Gcd.f
  simpa [Int.gcd] using this
theorem ev_times0 {g : List (List Int)} (hg : Grp g) (xs : List Int) (hx : AllIn g.length xs) (hl : xs.length ≤ maxLen) :
    ∀ (d m : Nat) (x : Int), m + d = xs.length → 0 ≤ x → x < g.length → Ev (fun k => impl_Group_times.l0 k x xs (xs.length : Int) (m : Int) g) ((xs.drop m).foldl (T g) x) := by
  have hm := maxLen_le
  intro d
  induction d with
  | zero =>
    intro m x hd x0 x1
    obtain rfl : m = xs.length := by omega
    rw [List.drop_length]
    exact ev_step_now fun k => by simp only [impl_Group_times.l0, Int.lt_irrefl, ↓reduceIte, List.foldl_nil]
  | succ d ih =>
    intro m x hd x0 x1
    have m1 : (m : Int) < xs.length := by omega
    have m0 : (0 : Int) ≤ m := by omega
    obtain ⟨y0, y1⟩ := hx m m0 m1
    have hw : wrap64 ((m : Int) + 1) = ((m + 1 : Nat) : Int) := by rw [w64s m0 m1 (by omega)]; omega
    have hr : ((rd_Li64 g x).length : Int) = g.length := by rw [hg.row x x0 x1]
    obtain ⟨z0, z1⟩ := hg.ent x (rd xs m) x0 x1 y0 y1
    have e : xs.drop m = rd xs m :: xs.drop (m + 1) := by
      rw [List.drop_eq_getElem_cons (by omega)]
      simp [rd, List.getD_eq_getElem?_getD, List.getElem?_eq_getElem (show m < xs.length by omega)]
    rw [e, List.foldl_cons]
    refine Ev.step (fun k => by simp only [impl_Group_times.l0, m1, m0, x0, x1, y0, hr, y1, hw, ↓reduceIte]; rfl) (ih (m + 1) _ (by omega) z0 z1)
theorem ev_times {g : List (List Int)} (hg : Grp g) (xs : List Int) (hx : AllIn g.length xs) (hl : xs.length ≤ maxLen) : Ev (fun k => impl_Group_times.f k g xs) (xs.foldl (T g) 0) := by
  unfold impl_Group_times.f
  simpa using ev_times0 hg xs hx hl xs.length 0 0 (by omega) (by omega) (by have := hg.n1; omega)
theorem allIn_two {n x y : Int} (h0 : 0 ≤ x) (h1 : x < n) (h2 : 0 ≤ y) (h3 : y < n) : AllIn n [x, y] := by
  intro i i0 i1
  have : i = 0 ∨ i = 1 := by simp at i1; omega
  rcases this with rfl | rfl <;> simp [rd, *]
theorem ev_times2 {g : List (List Int)} (hg : Grp g) {x y : Int} (x0 : 0 ≤ x) (x1 : x < g.length) (y0 : 0 ≤ y) (y1 : y < g.length) : Ev (fun k => impl_Group_times.f k g [x, y]) (T g x y) := by
  have := ev_times hg [x, y] (allIn_two x0 x1 y0 y1) (by unfold maxLen; simp)
  simpa [hg.one x x0 x1] using this
structure Mdl (g : List (List Int)) (m : Int) (u : List Int) : Prop where
  m2 : 2 ≤ m
  m12 : m ≤ 12
  len : u.length = g.length
  unit : ∀ i : Int, 0 ≤ i → i < u.length → 1 ≤ rd u i ∧ rd u i < m ∧ Int.gcd (rd u i) m = 1
  hom : ∀ i : Int, 0 ≤ i → i < u.length → ∀ j : Int, 0 ≤ j → j < u.length → rd u (T g i j) = rd u i * rd u j % m
theorem unit_one : ∀ m : Nat, m ≤ 12 → ∀ u : Nat, u < m → Nat.gcd u m = 1 → u = u * u % m → 1 ≤ u → u = 1 := by decide
theorem Mdl.one {g : List (List Int)} {m : Int} {u : List Int} (hg : Grp g) (h : Mdl g m u) : rd u 0 = 1 := by
  have n1 := hg.n1
  have hl := h.len
  obtain ⟨a1, a2, a3⟩ := h.unit 0 (by omega) (by omega)
  have e := h.hom 0 (by omega) (by omega) 0 (by omega) (by omega)
  rw [hg.one 0 (by omega) (by omega)] at e
  have m2 := h.m2; have m12 := h.m12
  obtain ⟨M, rfl⟩ := Int.eq_ofNat_of_zero_le (show 0 ≤ m by omega)
  obtain ⟨U, hU⟩ := Int.eq_ofNat_of_zero_le (show 0 ≤ rd u 0 by omega)
  rw [hU] at a1 a2 a3 e ⊢
  have := unit_one M (by omega) U (by omega) (by simpa [Int.gcd] using a3) (by exact_mod_cast e) (by omega)
  omega
theorem mul_lt_small {a b m : Int} (a0 : 0 ≤ a) (a1 : a < m) (b0 : 0 ≤ b) (b1 : b < m) (hm : m ≤ 1000) : 0 ≤ a * b ∧ a * b ≤ 1000000 := by
  refine ⟨Int.mul_nonneg a0 b0, ?_⟩
  have h1 : a * b ≤ 1000 * b := Int.mul_le_mul_of_nonneg_right (by omega) b0
  omega
theorem tmod_nn {a m : Int} (h : 0 ≤ a) : Int.tmod a m = a % m := Int.tmod_eq_emod_of_nonneg h
theorem tdiv_nn {a m : Int} (h : 0 ≤ a) : Int.tdiv a m = a / m := Int.tdiv_eq_ediv_of_nonneg h
theorem ev_isUnit {m x : Int} (m0 : 0 ≤ m) : Ev (fun k => impl_isUnit.f k m x) (B (1 ≤ x ∧ x < m ∧ Int.gcd x m = 1)) := by
  unfold impl_isUnit.f
  by_cases h1 : x ≥ 1
  · by_cases h2 : x < m
    · simp only [h1, h2, ↓reduceIte]
      refine ev_bind (fun k => rfl) (ev_gcd m0 (by omega)) (ev_now fun k => ?_)
      rw [Int.gcd_comm]
      by_cases h3 : Int.gcd x m = 1
      · rw [B_pos ⟨trivial, trivial, h3⟩]; simp [h3]
      · rw [B_neg fun h => h3 h.2.2]
        have : ¬ ((Int.gcd x m : Nat) : Int) = 1 := by omega
        simp [this]
    · rw [B_neg fun h => h2 h.2.1]
      exact ev_now fun k => by simp only [h1, h2, ↓reduceIte]
  · rw [B_neg fun h => h1 h.1]
    exact ev_now fun k => by simp only [h1, ↓reduceIte]
theorem mdl_iff (g : List (List Int)) (m : Int) (u : List Int) : Mdl g m u ↔ (2 ≤ m ∧ m ≤ 12) ∧ u.length = g.length ∧ (∀ i : Int, 0 ≤ i → i < u.length → 1 ≤ rd u i ∧ rd u i < m ∧ Int.gcd (rd u i) m = 1) ∧ ∀ i : Int, 0 ≤ i → i < u.length → ∀ j : Int, 0 ≤ j → j < u.length → rd u (T g i j) = rd u i * rd u j % m :=
  ⟨fun h => ⟨⟨h.m2, h.m12⟩, h.len, h.unit, h.hom⟩, fun ⟨⟨a, b⟩, c, d, e⟩ => ⟨a, b, c, d, e⟩⟩
theorem ev_isModule {g : List (List Int)} (hg : Grp g) (m : Int) (u : List Int) (hl : u.length ≤ maxLen) : Ev (fun k => impl_isModule.f k g m u) (B (Mdl g m u)) := by
  have hm := maxLen_le
  have n1 := hg.n1
  unfold impl_isModule.f impl_isModulus.f impl_order.f
  have bad : Ev (fun k => impl_isModule.j0 k true g m u) false := ev_step_now fun k => by simp only [impl_isModule.j0, ↓reduceIte]
  by_cases h1 : m ≥ 2
  rotate_left
  · rw [B_neg fun h => h1 h.m2]
    simp only [h1, ↓reduceIte, Option.bind_some, Bool.false_eq_true]
    exact bad
  by_cases h2 : m ≤ 12
  rotate_left
  · rw [B_neg fun h => h2 h.m12]
    simp only [h1, h2, ↓reduceIte, Option.bind_some, decide_false, Bool.false_eq_true]
    exact bad
  simp only [h1, h2, ↓reduceIte, Option.bind_some, decide_true]
  by_cases h3 : (u.length : Int) = g.length
  rotate_left
  · rw [B_neg fun h => h3 (by rw [h.len])]
    simp only [h3, ↓reduceIte]
    exact bad
  have h4 : (0 : Int) < u.length := by omega
  simp only [h3, ↓reduceIte, show (0 : Int) < g.length by omega]
  by_cases h5 : rd u 0 = 1
  rotate_left
  · rw [B_neg fun h => h5 (h.one hg)]
    simp only [show (rd u 0 != 1) = true by simpa using h5]
    exact bad
  simp only [show (rd u 0 != 1) = false by simpa using h5]
  rw [B_congr (mdl_iff g m u), B_congr (show ((2 ≤ m ∧ m ≤ 12) ∧ u.length = g.length ∧ (∀ i : Int, 0 ≤ i → i < u.length → 1 ≤ rd u i ∧ rd u i < m ∧ Int.gcd (rd u i) m = 1) ∧ ∀ i : Int, 0 ≤ i → i < u.length → ∀ j : Int, 0 ≤ j → j < u.length → rd u (T g i j) = rd u i * rd u j % m) ↔ _ from ⟨fun h => h.2.2, fun h => ⟨⟨h1, h2⟩, by omega, h⟩⟩)]
  refine Ev.step (f := fun k => impl_isModule.l0 k u (u.length : Int) 0 g m u) (fun k => by simp only [impl_isModule.j0, Bool.false_eq_true, ↓reduceIte]) ?_
  refine scanB u.length (fun i k => impl_isModule.l0 k u (u.length : Int) i g m u) (fun i => 1 ≤ rd u i ∧ rd u i < m ∧ Int.gcd (rd u i) m = 1) _ (fun i i0 i1 _ => ?_) (fun hu => ?_)
  · have hw : wrap64 (i + 1) = i + 1 := w64s i0 i1 (by omega)
    have hu := ev_isUnit (m := m) (x := rd u i) (by omega)
    by_cases h6 : 1 ≤ rd u i ∧ rd u i < m ∧ Int.gcd (rd u i) m = 1
    · rw [B_pos h6] at hu
      refine .inl ⟨h6, fun r h => ev_step_bind (fun k => by simp only [impl_isModule.l0, i0, i1, ↓reduceIte]; rfl) hu ?_⟩
      simp only [hw, ↓reduceIte]; exact h
    · rw [B_neg h6] at hu
      refine .inr ⟨h6, ev_step_bind (fun k => by simp only [impl_isModule.l0, i0, i1, ↓reduceIte]; rfl) hu ?_⟩
      exact ev_now fun k => by simp
  · refine Ev.step (f := fun k => impl_isModule.l1 k (u.length : Int) 0 g m u) (fun k => by simp only [impl_isModule.l0, Int.lt_irrefl, ↓reduceIte, impl_order.f, Option.bind_some, h3]) ?_
    refine scanT u.length (fun i k => impl_isModule.l1 k (u.length : Int) i g m u) (fun i => ∀ j : Int, 0 ≤ j → j < u.length → rd u (T g i j) = rd u i * rd u j % m) (fun i i0 i1 _ => ?_) (fun _ => ev_step_now fun k => by simp only [impl_isModule.l1, Int.lt_irrefl, ↓reduceIte])
    have hwi : wrap64 (i + 1) = i + 1 := w64s i0 i1 (by omega)
    have inner := scan u.length (fun j k => impl_isModule.l2 k i (u.length : Int) i (u.length : Int) j g m u) (fun j => rd u (T g i j) = rd u i * rd u j % m) false (fun j j0 j1 _ => by
      have hwj : wrap64 (j + 1) = j + 1 := w64s j0 j1 (by omega)
      have ht := ev_times2 hg i0 (by omega) j0 (by omega)
      obtain ⟨e0, e1⟩ := hg.ent i j i0 (by omega) j0 (by omega)
      have e1' : T g i j < u.length := by omega
      obtain ⟨p0, p1⟩ := mul_lt_small (show 0 ≤ rd u i by have := (hu i i0 i1).1; omega) (hu i i0 i1).2.1 (show 0 ≤ rd u j by have := (hu j j0 j1).1; omega) (hu j j0 j1).2.1 (by omega)
      have hwp : wrap64 (rd u i * rd u j) = rd u i * rd u j := w64 (by omega) (by omega)
      have hz : ¬ m = 0 := by omega
      by_cases h6 : rd u (T g i j) = rd u i * rd u j % m
      · refine .inl ⟨h6, fun r h => ev_step_bind (fun k => by simp only [impl_isModule.l2, j1, ↓reduceIte]; rfl) ht ?_⟩
        simp only [e0, e1', i0, i1, j0, j1, hz, hwp, tmod_nn p0, ← h6, hwj, ↓reduceIte]; exact h
      · refine .inr ⟨h6, ev_step_bind (fun k => by simp only [impl_isModule.l2, j1, ↓reduceIte]; rfl) ht ?_⟩
        exact ev_now fun k => by simp only [e0, e1', i0, i1, j0, j1, hz, hwp, tmod_nn p0, h6, ↓reduceIte])
    rcases inner with ⟨h6, h7⟩ | ⟨⟨j, j0, j1, h6⟩, h7⟩
    · exact .inl ⟨h6, fun r h => Ev.step (fun k => by simp only [impl_isModule.l1, i1, ↓reduceIte, impl_order.f, Option.bind_some, ← h3]) (h7 r (Ev.step (fun k => by simp only [impl_isModule.l2, Int.lt_irrefl, hwi, ↓reduceIte]) h))⟩
    · exact .inr ⟨fun h => h6 (h j j0 j1), Ev.step (fun k => by simp only [impl_isModule.l1, i1, ↓reduceIte, impl_order.f, Option.bind_some, ← h3]) h7⟩
theorem ev_Is02 {g : List (List Int)} (hg : Grp g) (m : Int) (u : List Int) (hl : u.length ≤ maxLen) : Ev (fun k => spec_l02Is.f k g m u) (B (Mdl g m u)) := by
  have hm := maxLen_le
  have n1 := hg.n1
  unfold spec_l02Is.f
  have bad : Ev (fun k => spec_l02Is.j0 k true g m u) false := ev_step_now fun k => by simp only [spec_l02Is.j0, ↓reduceIte]
  refine ev_bind (fun k => rfl) (ev_In _ _ _) ?_
  by_cases h1 : 2 ≤ m ∧ m ≤ 12
  rotate_left
  · rw [B_neg h1, B_neg fun h => h1 ⟨h.m2, h.m12⟩]
    simp only [Bool.false_eq_true, ↓reduceIte]
    exact bad
  rw [B_pos h1]
  simp only [↓reduceIte]
  by_cases h3 : (u.length : Int) = g.length
  rotate_left
  · rw [B_neg fun h => h3 (by rw [h.len])]
    simp only [show ((u.length : Int) != g.length) = true by simpa using h3]
    exact bad
  simp only [show ((u.length : Int) != g.length) = false by simpa using h3]
  rw [B_congr (mdl_iff g m u), B_congr (show ((2 ≤ m ∧ m ≤ 12) ∧ u.length = g.length ∧ (∀ i : Int, 0 ≤ i → i < u.length → 1 ≤ rd u i ∧ rd u i < m ∧ Int.gcd (rd u i) m = 1) ∧ ∀ i : Int, 0 ≤ i → i < u.length → ∀ j : Int, 0 ≤ j → j < u.length → rd u (T g i j) = rd u i * rd u j % m) ↔ _ from ⟨fun h => h.2.2, fun h => ⟨h1, by omega, h⟩⟩)]
  refine Ev.step (f := fun k => spec_l02Is.l0 k 0 g m u) (fun k => by simp only [spec_l02Is.j0, Bool.false_eq_true, ↓reduceIte]) ?_
  refine scanB u.length (fun i k => spec_l02Is.l0 k i g m u) (fun i => 1 ≤ rd u i ∧ rd u i < m ∧ Int.gcd (rd u i) m = 1) _ (fun i i0 i1 _ => ?_) (fun hu => ?_)
  · have hw : wrap64 (i + 1) = i + 1 := w64s i0 i1 (by omega)
    have hw1 : wrap64 (m - 1) = m - 1 := w64 (by omega) (by omega)
    have hin := ev_In (rd u i) 1 (wrap64 (m - 1))
    rw [B_congr (show (1 ≤ rd u i ∧ rd u i ≤ wrap64 (m - 1)) ↔ (1 ≤ rd u i ∧ rd u i < m) by rw [hw1]; omega)] at hin
    by_cases h6 : 1 ≤ rd u i ∧ rd u i < m
    · rw [B_pos h6] at hin
      have hgc := ev_Gcd (a := rd u i) (b := m) (by omega) (by omega) (by omega) (by omega)
      by_cases h7 : Int.gcd (rd u i) m = 1
      · refine .inl ⟨⟨h6.1, h6.2, h7⟩, fun r h => ev_step_bind (fun k => by simp only [spec_l02Is.l0, i0, i1, ↓reduceIte]; rfl) hin ?_⟩
        simp only [↓reduceIte]
        refine ev_bind (fun k => rfl) hgc ?_
        simp only [h7, hw, Int.natCast_one, ↓reduceIte]; exact h
      · refine .inr ⟨fun h => h7 h.2.2, ev_step_bind (fun k => by simp only [spec_l02Is.l0, i0, i1, ↓reduceIte]; rfl) hin ?_⟩
        simp only [↓reduceIte]
        refine ev_bind (fun k => rfl) hgc (ev_now fun k => ?_)
        rw [if_neg (by omega)]
    · rw [B_neg h6] at hin
      refine .inr ⟨fun h => h6 ⟨h.1, h.2.1⟩, ev_step_bind (fun k => by simp only [spec_l02Is.l0, i0, i1, ↓reduceIte]; rfl) hin ?_⟩
      exact ev_now fun k => by simp
  · refine Ev.step (f := fun k => spec_l02Is.l1 k 0 g m u) (fun k => by simp only [spec_l02Is.l0, Int.lt_irrefl, ↓reduceIte]) ?_
    refine scanT u.length (fun i k => spec_l02Is.l1 k i g m u) (fun i => ∀ j : Int, 0 ≤ j → j < u.length → rd u (T g i j) = rd u i * rd u j % m) (fun i i0 i1 _ => ?_) (fun _ => ev_step_now fun k => by simp only [spec_l02Is.l1, Int.lt_irrefl, ↓reduceIte])
    have hwi : wrap64 (i + 1) = i + 1 := w64s i0 i1 (by omega)
    have inner := scan u.length (fun j k => spec_l02Is.l2 k i j g m u) (fun j => rd u (T g i j) = rd u i * rd u j % m) false (fun j j0 j1 _ => by
      have hwj : wrap64 (j + 1) = j + 1 := w64s j0 j1 (by omega)
      obtain ⟨e0, e1⟩ := hg.ent i j i0 (by omega) j0 (by omega)
      have i1' : i < (g.length : Int) := by omega
      have lr : j < ((rd_Li64 g i).length : Int) := by rw [hg.row i i0 i1']; omega
      obtain ⟨p0, p1⟩ := mul_lt_small (show 0 ≤ rd u i by have := (hu i i0 i1).1; omega) (hu i i0 i1).2.1 (show 0 ≤ rd u j by have := (hu j j0 j1).1; omega) (hu j j0 j1).2.1 (by omega)
      have hwp : wrap64 (rd u i * rd u j) = rd u i * rd u j := w64 (by omega) (by omega)
      have hz : ¬ m = 0 := by omega
      have e0' : 0 ≤ rd (rd_Li64 g i) j := e0
      have e1' : rd (rd_Li64 g i) j < u.length := by rw [h3]; exact e1
      by_cases h6 : rd u (T g i j) = rd u i * rd u j % m
      · have h6' : rd u (rd (rd_Li64 g i) j) = rd u i * rd u j % m := h6
        exact .inl ⟨h6, fun r h => Ev.step (fun k => by simp only [spec_l02Is.l2, i0, i1, i1', j0, j1, lr, e0', e1', hz, hwp, tmod_nn p0, h6', hwj, ↓reduceIte]) h⟩
      · have h6' : ¬ rd u (rd (rd_Li64 g i) j) = rd u i * rd u j % m := h6
        exact .inr ⟨h6, ev_step_now fun k => by simp only [spec_l02Is.l2, i0, i1, i1', j0, j1, lr, e0', e1', hz, hwp, tmod_nn p0, h6', ↓reduceIte]⟩)
    rcases inner with ⟨h6, h7⟩ | ⟨⟨j, j0, j1, h6⟩, h7⟩
    · exact .inl ⟨h6, fun r h => Ev.step (fun k => by simp only [spec_l02Is.l1, i1, ↓reduceIte]) (h7 r (Ev.step (fun k => by simp only [spec_l02Is.l2, Int.lt_irrefl, hwi, ↓reduceIte]) h))⟩
    · exact .inr ⟨fun h => h6 (h j j0 j1), Ev.step (fun k => by simp only [spec_l02Is.l1, i1, ↓reduceIte]) h7⟩
end Go.Proofs.Ytfablaokggnioaa.U
set_option linter.unusedVariables false
set_option linter.unusedSimpArgs false
namespace Go.Proofs.Ytfablaokggnioaa.U
open Go.RowKit Go.Proofs.YtfablaokggnioaaW.PrintWords Go.Proofs.YtfablaokggnioaaW.PrintLast Go.Proofs.YtfablaokggnioaaW.PrintMore Go.Proofs.Ytfablaokggnioaa.Pa
theorem copy_step {α : Type} (xs : List α) (d : α) (m : Nat) (hm : m < xs.length) :
    (xs.take m ++ List.replicate (xs.length - m) d).set m xs[m] = xs.take (m + 1) ++ List.replicate (xs.length - (m + 1)) d := by
  have h1 : (xs.take m).length = m := by rw [List.length_take]; omega
  rw [List.set_append, if_neg (by omega), h1, Nat.sub_self]
  rw [show xs.length - m = (xs.length - (m + 1)) + 1 by omega, List.replicate_succ, List.set_cons_zero]
  rw [List.take_succ_eq_append_getElem hm, List.append_assoc]; rfl
theorem ev_toInt64S (xs : List Int) (hl : xs.length ≤ 1048576) : Ev (fun k => laws_toInt64S.f k xs) xs := by
  unfold laws_toInt64S.f
  simp only [show (0 : Int) ≤ xs.length by omega, ↓reduceIte, Int.toNat_natCast, show xs.length ≤ 35184372088832 by omega]
  have := fold xs.length (fun i s k => laws_toInt64S.l0 k xs s i) (fun m => xs.take m ++ List.replicate (xs.length - m) 0) (fun m hm r h => by
    have hw : wrap64 ((m : Int) + 1) = ((m + 1 : Nat) : Int) := by rw [w64 (by omega) (by omega)]; omega
    have m1 : (m : Int) < xs.length := by omega
    have m0 : (0 : Int) ≤ m := by omega
    have l1 : (m : Int) < ((xs.take m ++ List.replicate (xs.length - m) (0 : Int)).length : Int) := by
      rw [List.length_append, List.length_take, List.length_replicate]; omega
    refine Ev.step (fun k => ?_) h
    simp only [laws_toInt64S.l0, m1, m0, l1, hw, ↓reduceIte, Int.toNat_natCast]
    rw [← copy_step xs 0 m hm, show rd xs (m : Int) = xs[m] by simp [rd, List.getD_eq_getElem?_getD, List.getElem?_eq_getElem hm]]) xs
    (ev_step_now fun k => by simp only [laws_toInt64S.l0, Int.lt_irrefl, ↓reduceIte]; simp)
  simpa using this
theorem ev_toInt64SS (g : List (List Int)) (hl : g.length ≤ 1048576) (hr : ∀ r ∈ g, r.length ≤ 1048576) : Ev (fun k => laws_toInt64SS.f k g) g := by
  unfold laws_toInt64SS.f
  simp only [show (0 : Int) ≤ g.length by omega, ↓reduceIte, Int.toNat_natCast, show g.length ≤ 11728124029610 by omega]
  have := fold g.length (fun i s k => laws_toInt64SS.l0 k g s i) (fun m => g.take m ++ List.replicate (g.length - m) []) (fun m hm r h => by
    have hw : wrap64 ((m : Int) + 1) = ((m + 1 : Nat) : Int) := by rw [w64 (by omega) (by omega)]; omega
    have m1 : (m : Int) < g.length := by omega
    have m0 : (0 : Int) ≤ m := by omega
    have l1 : (m : Int) < ((g.take m ++ List.replicate (g.length - m) ([] : List Int)).length : Int) := by
      rw [List.length_append, List.length_take, List.length_replicate]; omega
    have e : rd_Li64 g (m : Int) = g[m] := by simp [rd_Li64, List.getD_eq_getElem?_getD, List.getElem?_eq_getElem hm]
    refine ev_step_bind (fun k => by simp only [laws_toInt64SS.l0, m1, m0, ↓reduceIte]; rfl) (ev_toInt64S (rd_Li64 g (m : Int)) (by rw [e]; exact hr _ (List.getElem_mem hm))) ?_
    simp only [l1, hw, ↓reduceIte, Int.toNat_natCast, e]
    rw [copy_step g [] m hm]; exact h) g
    (ev_step_now fun k => by simp only [laws_toInt64SS.l0, Int.lt_irrefl, ↓reduceIte]; simp)
  simpa using this
theorem ev_toGroup (g : List (List Int)) (hl : g.length ≤ 1048576) (hr : ∀ r ∈ g, r.length ≤ 1048576) : Ev (fun k => laws_toGroup.f k g) g := by
  unfold laws_toGroup.f
  exact ev_bind (fun k => rfl) (ev_toInt64SS g hl hr) (ev_now fun k => rfl)
theorem ev_toModule (m : Int) (u : List Int) (hl : u.length ≤ 1048576) : Ev (fun k => laws_toModule.f k m u) (m, u) := by
  unfold laws_toModule.f
  exact ev_bind (fun k => rfl) (ev_toInt64S u hl) (ev_now fun k => rfl)
theorem ev_eqInt64S (xs ys : List Int) (hl : xs.length ≤ maxLen) : Ev (fun k => laws_eqInt64S.f k xs ys) (B (xs = ys)) := by
  have hm := maxLen_le
  unfold laws_eqInt64S.f
  by_cases h : (xs.length : Int) = ys.length
  rotate_left
  · rw [B_neg fun e => h (by rw [e])]
    exact ev_now fun k => by simp only [h, ↓reduceIte]
  simp only [h, ↓reduceIte]
  rw [B_congr (show xs = ys ↔ ∀ i : Int, 0 ≤ i → i < xs.length → rd xs i = rd ys i from ⟨fun e i _ _ => by rw [e], fun e => ext_rd (by omega) e⟩)]
  refine scanT xs.length (fun i k => laws_eqInt64S.l0 k xs ys i) (fun i => rd xs i = rd ys i) (fun i i0 i1 _ => ?_) (fun _ => ev_step_now fun k => by simp only [laws_eqInt64S.l0, Int.lt_irrefl, ↓reduceIte])
  have hw : wrap64 (i + 1) = i + 1 := w64s i0 i1 (by omega)
  have i2 : i < (ys.length : Int) := by omega
  by_cases h2 : rd xs i = rd ys i
  · exact .inl ⟨h2, fun r k => Ev.step (fun k => by simp only [laws_eqInt64S.l0, i0, i1, i2, h2, hw, ↓reduceIte]) k⟩
  · exact .inr ⟨h2, ev_step_now fun k => by simp only [laws_eqInt64S.l0, i0, i1, i2, h2, ↓reduceIte]⟩
theorem ext_rows {xs ys : List (List Int)} (hl : xs.length = ys.length) (h : ∀ i : Int, 0 ≤ i → i < xs.length → rd_Li64 xs i = rd_Li64 ys i) : xs = ys := by
  apply List.ext_getElem hl
  intro i h1 h2
  have := h i (by omega) (by omega)
  simpa [rd_Li64, List.getD_eq_getElem?_getD, List.getElem?_eq_getElem h1, List.getElem?_eq_getElem h2] using this
theorem ev_eqInt64SS (xs ys : List (List Int)) (hl : xs.length ≤ maxLen) (hr : ∀ r ∈ xs, r.length ≤ maxLen) : Ev (fun k => laws_eqInt64SS.f k xs ys) (B (xs = ys)) := by
  have hm := maxLen_le
  unfold laws_eqInt64SS.f
  by_cases h : (xs.length : Int) = ys.length
  rotate_left
  · rw [B_neg fun e => h (by rw [e])]
    exact ev_now fun k => by simp only [h, ↓reduceIte]
  simp only [h, ↓reduceIte]
  rw [B_congr (show xs = ys ↔ ∀ i : Int, 0 ≤ i → i < xs.length → rd_Li64 xs i = rd_Li64 ys i from ⟨fun e i _ _ => by rw [e], fun e => ext_rows (by omega) e⟩)]
  refine scanT xs.length (fun i k => laws_eqInt64SS.l0 k xs ys i) (fun i => rd_Li64 xs i = rd_Li64 ys i) (fun i i0 i1 _ => ?_) (fun _ => ev_step_now fun k => by simp only [laws_eqInt64SS.l0, Int.lt_irrefl, ↓reduceIte])
  have hw : wrap64 (i + 1) = i + 1 := w64s i0 i1 (by omega)
  have i2 : i < (ys.length : Int) := by omega
  have he := ev_eqInt64S (rd_Li64 xs i) (rd_Li64 ys i) (rows_len hr i0 i1)
  by_cases h2 : rd_Li64 xs i = rd_Li64 ys i
  · rw [B_pos h2] at he
    refine .inl ⟨h2, fun r k => ev_step_bind (fun k => by simp only [laws_eqInt64SS.l0, i0, i1, i2, ↓reduceIte]; rfl) he ?_⟩
    simp only [hw, ↓reduceIte]; exact k
  · rw [B_neg h2] at he
    refine .inr ⟨h2, ev_step_bind (fun k => by simp only [laws_eqInt64SS.l0, i0, i1, i2, ↓reduceIte]; rfl) he ?_⟩
    exact ev_now fun k => by simp
theorem ite_B (p : Prop) : (if B p = true then some true else some false) = some (B p) := by by_cases h : p <;> simp [B_pos, B_neg, h]
theorem ev_eqGroup (xs ys : List (List Int)) (hl : xs.length ≤ maxLen) (hr : ∀ r ∈ xs, r.length ≤ maxLen) : Ev (fun k => laws_eqGroup.f k xs ys) (B (xs = ys)) := by
  unfold laws_eqGroup.f
  exact ev_bind (fun k => rfl) (ev_eqInt64SS xs ys hl hr) (ev_now fun k => ite_B _)
theorem ev_eqModule (m n : Int) (u v : List Int) (hl : u.length ≤ maxLen) : Ev (fun k => laws_eqModule.f k m u n v) (B (m = n ∧ u = v)) := by
  unfold laws_eqModule.f
  by_cases h : m = n
  · simp only [h, ↓reduceIte, true_and]
    exact ev_bind (fun k => rfl) (ev_eqInt64S u v hl) (ev_now fun k => ite_B _)
  · rw [B_neg fun e => h e.1]
    exact ev_now fun k => by simp only [h, ↓reduceIte]
theorem same_Group (xs : List (List Int)) (hl : xs.length ≤ maxLen) (hr : ∀ r ∈ xs, r.length ≤ maxLen) : Ev (fun k => laws_eqGroup.f k xs xs) true := by have := ev_eqGroup xs xs hl hr; rwa [B_pos rfl] at this
theorem same_Module (m : Int) (u : List Int) (hl : u.length ≤ maxLen) : Ev (fun k => laws_eqModule.f k m u m u) true := by have := ev_eqModule m m u u hl; rwa [B_pos ⟨rfl, rfl⟩] at this
theorem ev_szInt64S (xs : List Int) (left : Int) (hl : xs.length ≤ maxLen) (l0 : 0 ≤ left) (l1 : left ≤ 1048576) :
    ∃ t, Ev (fun _ => laws_szInt64S.f xs left) t ∧ (t < 0 ∨ (0 ≤ t ∧ t ≤ left ∧ (xs.length : Int) ≤ left)) := by
  have hm := maxLen_le
  have hw : wrap64 (left - (xs.length : Int)) = left - xs.length := w64 (by omega) (by omega)
  unfold laws_szInt64S.f
  simp only [hw]
  by_cases h : left - (xs.length : Int) < 0
  · exact ⟨-1, ev_now fun k => by simp only [h, ↓reduceIte], by omega⟩
  · exact ⟨left - xs.length, ev_now fun k => by simp only [h, ↓reduceIte], by omega⟩
theorem ev_szInt64SS (g : List (List Int)) (left : Int) (hl : g.length ≤ maxLen) (hr : ∀ r ∈ g, r.length ≤ maxLen) (l0 : 0 ≤ left) (l1 : left ≤ 1048576) :
    ∃ t, Ev (fun k => laws_szInt64SS.f k g left) t ∧ (t < 0 ∨ (0 ≤ t ∧ t ≤ left ∧ (g.length : Int) ≤ left ∧ ∀ i : Int, 0 ≤ i → i < g.length → ((rd_Li64 g i).length : Int) ≤ left)) := by
  have hm := maxLen_le
  have hw : wrap64 (left - (g.length : Int)) = left - g.length := w64 (by omega) (by omega)
  unfold laws_szInt64SS.f
  simp only [hw]
  by_cases h : left - (g.length : Int) < 0
  · exact ⟨-1, ev_now fun k => by simp only [h, ↓reduceIte], by omega⟩
  simp only [h, ↓reduceIte]
  suffices H : ∀ d m : Nat, m + d = g.length → ∀ x : Int, 0 ≤ x → x ≤ left → ∃ t, Ev (fun k => laws_szInt64SS.l0 k g x m) t ∧ (t < 0 ∨ (0 ≤ t ∧ t ≤ left ∧ ∀ i : Int, m ≤ i → i < g.length → ((rd_Li64 g i).length : Int) ≤ left)) by
    obtain ⟨t, ht, h'⟩ := H g.length 0 (by omega) (left - g.length) (by omega) (by omega)
    refine ⟨t, by simpa using ht, ?_⟩
    rcases h' with h' | ⟨a, b, c⟩
    · exact .inl h'
    · exact .inr ⟨a, b, by omega, fun i i0 i1 => c i (by omega) i1⟩
  intro d
  induction d with
  | zero =>
    intro m hd x x0 x1
    obtain rfl : m = g.length := by omega
    exact ⟨x, ev_step_now fun k => by simp only [laws_szInt64SS.l0, Int.lt_irrefl, ↓reduceIte], .inr ⟨x0, x1, fun i i0 i1 => by omega⟩⟩
  | succ d ih =>
    intro m hd x x0 x1
    have m1 : (m : Int) < g.length := by omega
    have m0 : (0 : Int) ≤ m := by omega
    have hwm : wrap64 ((m : Int) + 1) = ((m + 1 : Nat) : Int) := by rw [w64s m0 m1 (by omega)]; omega
    obtain ⟨t, ht, h1⟩ := ev_szInt64S (rd_Li64 g m) x (rows_len hr m0 m1) x0 (by omega)
    rcases h1 with h1 | ⟨a, b, c⟩
    · refine ⟨-1, ev_step_bind (fun k => by simp only [laws_szInt64SS.l0, m1, m0, ↓reduceIte]; rfl) ht (ev_now fun k => by simp only [h1, ↓reduceIte]), by omega⟩
    · obtain ⟨t', ht', h2⟩ := ih (m + 1) (by omega) t a (by omega)
      refine ⟨t', ev_step_bind (fun k => by simp only [laws_szInt64SS.l0, m1, m0, ↓reduceIte]; rfl) ht ?_, ?_⟩
      · simp only [show ¬ t < 0 by omega, hwm, ↓reduceIte]; exact ht'
      · rcases h2 with h2 | ⟨a', b', c'⟩
        · exact .inl h2
        · refine .inr ⟨a', b', fun i i0 i1 => ?_⟩
          by_cases e : i = m
          · rw [e]; omega
          · exact c' i (by omega) i1
theorem mem_rd {g : List (List Int)} {r : List Int} (h : r ∈ g) : ∃ i : Int, 0 ≤ i ∧ i < g.length ∧ rd_Li64 g i = r := by
  obtain ⟨i, hi, rfl⟩ := List.mem_iff_getElem.1 h
  exact ⟨i, by omega, by omega, by simp [rd_Li64, List.getD_eq_getElem?_getD, List.getElem?_eq_getElem hi]⟩
theorem ev_szGroup (g : List (List Int)) (left : Int) (hl : g.length ≤ maxLen) (hr : ∀ r ∈ g, r.length ≤ maxLen) (l0 : 0 ≤ left) (l1 : left ≤ 1048576) :
    ∃ t, Ev (fun k => laws_szGroup.f k g left) t ∧ (t < 0 ∨ (0 ≤ t ∧ t ≤ left ∧ g.length ≤ 1048576 ∧ ∀ r ∈ g, r.length ≤ 1048576)) := by
  unfold laws_szGroup.f
  obtain ⟨t, ht, h⟩ := ev_szInt64SS g left hl hr l0 l1
  rcases h with h | ⟨a, b, c, d⟩
  · exact ⟨-1, ev_bind (fun k => rfl) ht (ev_now fun k => by simp only [h, ↓reduceIte]), by omega⟩
  · refine ⟨t, ev_bind (fun k => rfl) ht (ev_now fun k => by simp only [show ¬ t < 0 by omega, ↓reduceIte]), .inr ⟨a, b, by omega, fun r hr => ?_⟩⟩
    obtain ⟨i, i0, i1, rfl⟩ := mem_rd hr
    have := d i i0 i1
    omega
theorem ev_szModule (m : Int) (u : List Int) (left : Int) (hl : u.length ≤ maxLen) (l0 : 0 ≤ left) (l1 : left ≤ 1048576) :
    ∃ t, Ev (fun _ => laws_szModule.f m u left) t ∧ (t < 0 ∨ (0 ≤ t ∧ t ≤ left ∧ u.length ≤ 1048576)) := by
  unfold laws_szModule.f
  obtain ⟨t, ht, h⟩ := ev_szInt64S u left hl l0 l1
  rcases h with h | ⟨a, b, c⟩
  · exact ⟨-1, ev_bind (fun k => rfl) ht (ev_now fun k => by simp only [h, ↓reduceIte]), by omega⟩
  · exact ⟨t, ev_bind (fun k => rfl) ht (ev_now fun k => by simp only [show ¬ t < 0 by omega, ↓reduceIte]), .inr ⟨a, b, by omega⟩⟩
end Go.Proofs.Ytfablaokggnioaa.U
set_option linter.unusedVariables false
set_option linter.unusedSimpArgs false
namespace Go.Proofs.Ytfablaokggnioaa.U
open Go.RowKit Go.Proofs.YtfablaokggnioaaW.PrintWords Go.Proofs.YtfablaokggnioaaW.PrintLast Go.Proofs.YtfablaokggnioaaW.PrintMore Go.Proofs.Ytfablaokggnioaa.Pa
noncomputable def ite_ {α : Type} (p : Prop) (a b : α) : α := @ite α p (Classical.propDecidable p) a b
theorem ite_pos {α : Type} {p : Prop} (h : p) (a b : α) : ite_ p a b = a := by unfold ite_; simp [h]
theorem ite_neg {α : Type} {p : Prop} (h : ¬ p) (a b : α) : ite_ p a b = b := by unfold ite_; simp [h]
def GM (g : List (List Int)) (m : Int) (u : List Int) : Prop := Grp g ∧ Mdl g m u
theorem ev_moduleCode (g : List (List Int)) (hl : g.length ≤ maxLen) (hr : ∀ r ∈ g, r.length ≤ maxLen) (m : Int) (u : List Int) (hu : u.length ≤ maxLen) :
    Ev (fun k => impl_moduleCode.f k g [(⟨m, u⟩ : S34)]) (ite_ (GM g m u) 0 1) := by
  unfold impl_moduleCode.f impl_areModules.f
  have hG := ev_IsGroup g hl hr
  by_cases h1 : Grp g
  · rw [B_pos h1] at hG
    have hM := ev_isModule h1 m u hu
    by_cases h2 : Mdl g m u
    · rw [B_pos h2] at hM
      rw [ite_pos ⟨h1, h2⟩]
      refine ev_bind (fun k => rfl) (a := true) ?_ (ev_now fun k => by simp)
      refine ev_step_bind (fun k => by simp [impl_areModules.l0]; rfl) hG ?_
      simp only [↓reduceIte]
      refine ev_bind (fun k => rfl) hM ?_
      simp only [↓reduceIte, show wrap64 (0 + 1) = 1 from w64 (by omega) (by omega)]
      exact ev_step_now fun k => by simp [impl_areModules.l0, show wrap64 1 = 1 from w64 (by omega) (by omega)]
    · rw [B_neg h2] at hM
      rw [ite_neg fun h => h2 h.2]
      refine ev_bind (fun k => rfl) (a := false) ?_ (ev_now fun k => by simp)
      refine ev_step_bind (fun k => by simp [impl_areModules.l0]; rfl) hG ?_
      simp only [↓reduceIte]
      exact ev_bind (fun k => rfl) hM (ev_now fun k => by simp)
  · rw [B_neg h1] at hG
    rw [ite_neg fun h => h1 h.1]
    refine ev_bind (fun k => rfl) (a := false) ?_ (ev_now fun k => by simp)
    refine ev_step_bind (fun k => by simp [impl_areModules.l0]; rfl) hG ?_
    exact ev_now fun k => by simp
noncomputable def pairsC (g : List (List Int)) (m : Int) (u : List Int) (ps : List Int) : Int := ite_ (GM g m u) (ite_ (AllIn (g.length * m) ps) 0 2) 1
theorem ev_pairsCode (g : List (List Int)) (hl : g.length ≤ maxLen) (hr : ∀ r ∈ g, r.length ≤ maxLen) (m : Int) (u : List Int) (hu : u.length ≤ maxLen) (ps : List Int) (hp : ps.length ≤ maxLen) :
    Ev (fun k => impl_pairsCode.f k g m u ps) (pairsC g m u ps) := by
  unfold impl_pairsCode.f pairsC impl_order.f
  refine ev_bind (fun k => rfl) (ev_moduleCode g hl hr m u hu) ?_
  by_cases h1 : GM g m u
  · obtain ⟨hg, hm⟩ := id h1
    rw [ite_pos h1, ite_pos h1]
    simp only [↓reduceIte, Option.bind_some]
    have n8 := hg.n8; have m12 := hm.m12; have m2 := hm.m2
    have hb := mul_lt_small (a := g.length) (b := m) (m := 1000) (by omega) (by omega) (by omega) (by omega) (by omega)
    have hw : wrap64 ((g.length : Int) * m) = g.length * m := w64 (by omega) (by omega)
    rw [hw]
    refine ev_bind (fun k => rfl) (ev_areIn _ ps hp) ?_
    by_cases h2 : AllIn (g.length * m) ps
    · rw [B_pos h2, ite_pos h2]; exact ev_now fun k => by simp
    · rw [B_neg h2, ite_neg h2]; exact ev_now fun k => by simp
  · rw [ite_neg h1, ite_neg h1]
    exact ev_now fun k => by simp
theorem ev_Pairs (g : List (List Int)) (hl : g.length ≤ maxLen) (hr : ∀ r ∈ g, r.length ≤ maxLen) (m : Int) (u : List Int) (hu : u.length ≤ maxLen) (ps : List Int) (hp : ps.length ≤ maxLen) :
    Ev (fun k => spec_l05Pairs.f k g m u ps) (pairsC g m u ps) := by
  have hmx := maxLen_le
  unfold spec_l05Pairs.f pairsC
  refine ev_bind (fun k => rfl) (ev_Is g hl) ?_
  have bad : Ev (fun k => spec_l05Pairs.j0 k ps true g m u) 1 := ev_step_now fun k => by simp [spec_l05Pairs.j0]
  by_cases h1 : Grp g
  rotate_left
  · rw [B_neg h1, ite_neg fun h => h1 h.1]
    simp only [Bool.false_eq_true, ↓reduceIte]; exact bad
  rw [B_pos h1]
  simp only [↓reduceIte]
  refine ev_bind (fun k => rfl) (ev_Is02 h1 m u hu) ?_
  by_cases h2 : Mdl g m u
  rotate_left
  · rw [B_neg h2, ite_neg fun h => h2 h.2]
    simp only [Bool.not_false]; exact bad
  rw [B_pos h2, ite_pos ⟨h1, h2⟩]
  simp only [Bool.not_true]
  have n8 := h1.n8; have m12 := h2.m12; have m2 := h2.m2
  have hb := mul_lt_small (a := m) (b := g.length) (m := 1000) (by omega) (by omega) (by omega) (by omega) (by omega)
  have hw : wrap64 (m * (g.length : Int)) = m * g.length := w64 (by omega) (by omega)
  have hw1 : wrap64 (m * (g.length : Int) - 1) = m * g.length - 1 := w64 (by omega) (by omega)
  refine Ev.step (f := fun k => spec_l05Pairs.l0 k ps 0 g m u) (fun k => by simp [spec_l05Pairs.j0]) ?_
  have sc := scan ps.length (fun i k => spec_l05Pairs.l0 k ps i g m u) (fun i => 0 ≤ rd ps i ∧ rd ps i < g.length * m) (2 : Int) (fun i i0 i1 _ => by
    have hwi : wrap64 (i + 1) = i + 1 := w64s i0 i1 (by omega)
    have hin := ev_In (rd ps i) 0 (m * g.length - 1)
    rw [B_congr (show (0 ≤ rd ps i ∧ rd ps i ≤ m * g.length - 1) ↔ (0 ≤ rd ps i ∧ rd ps i < g.length * m) by rw [Int.mul_comm (g.length : Int) m]; omega)] at hin
    by_cases h3 : 0 ≤ rd ps i ∧ rd ps i < g.length * m
    · rw [B_pos h3] at hin
      refine .inl ⟨h3, fun r h => ev_step_bind (fun k => by simp only [spec_l05Pairs.l0, spec_l01N.f, Option.bind_some, i0, i1, hw, hw1, ↓reduceIte]; rfl) hin ?_⟩
      simp only [hwi, ↓reduceIte]; exact h
    · rw [B_neg h3] at hin
      refine .inr ⟨h3, ev_step_bind (fun k => by simp only [spec_l05Pairs.l0, spec_l01N.f, Option.bind_some, i0, i1, hw, hw1, ↓reduceIte]; rfl) hin ?_⟩
      exact ev_now fun k => by simp)
  rcases sc with ⟨h3, h4⟩ | ⟨⟨i, i0, i1, h3⟩, h4⟩
  · rw [ite_pos (show AllIn (g.length * m) ps from h3)]
    exact h4 _ (ev_step_now fun k => by simp only [spec_l05Pairs.l0, Int.lt_irrefl, ↓reduceIte])
  · rw [ite_neg fun h => h3 (h i i0 i1)]
    exact h4
def PP (g : List (List Int)) (m : Int) (u : List Int) (p q : Int) : Int := m * T g (p / m) (q / m) + (p % m + rd u (p / m) * (q % m)) % m
theorem pair_parts {n m p : Int} (hm : 0 < m) (h0 : 0 ≤ p) (h1 : p < n * m) : 0 ≤ p / m ∧ p / m < n ∧ 0 ≤ p % m ∧ p % m < m :=
  ⟨Int.ediv_nonneg h0 (by omega), Int.ediv_lt_of_lt_mul hm h1, Int.emod_nonneg _ (by omega), Int.emod_lt_of_pos _ hm⟩
theorem PP_in {g : List (List Int)} {m : Int} {u : List Int} (hg : Grp g) (hm : Mdl g m u) {p q : Int} (p0 : 0 ≤ p) (p1 : p < g.length * m) (q0 : 0 ≤ q) (q1 : q < g.length * m) : 0 ≤ PP g m u p q ∧ PP g m u p q < g.length * m := by
  have m2 := hm.m2
  obtain ⟨x0, x1, _, _⟩ := pair_parts (by omega) p0 p1
  obtain ⟨y0, y1, _, _⟩ := pair_parts (by omega) q0 q1
  obtain ⟨e0, e1⟩ := hg.ent (p / m) (q / m) x0 x1 y0 y1
  have r0 := Int.emod_nonneg (p % m + rd u (p / m) * (q % m)) (show m ≠ 0 by omega)
  have r1 := Int.emod_lt_of_pos (p % m + rd u (p / m) * (q % m)) (show 0 < m by omega)
  unfold PP
  have h1 : 0 ≤ m * T g (p / m) (q / m) := Int.mul_nonneg (by omega) e0
  have h2 : m * T g (p / m) (q / m) + m ≤ g.length * m := by
    have : m * (T g (p / m) (q / m) + 1) ≤ m * g.length := Int.mul_le_mul_of_nonneg_left (by omega) (by omega)
    rw [Int.mul_add, Int.mul_one, Int.mul_comm m (g.length : Int)] at this
    exact this
  omega
theorem small_prod {m x : Int} {u : List Int} {g : List (List Int)} (hm : Mdl g m u) (x0 : 0 ≤ x) (x1 : x < g.length) {a b : Int} (a0 : 0 ≤ a) (a1 : a < m) (b0 : 0 ≤ b) (b1 : b < m) : 0 ≤ rd u x * b ∧ rd u x * b ≤ 1000000 := by
  have hl := hm.len
  obtain ⟨c1, c2, _⟩ := hm.unit x x0 (by omega)
  exact mul_lt_small (by omega) c2 b0 b1 (by have := hm.m12; omega)
theorem ev_pairProduct {g : List (List Int)} {m : Int} {u : List Int} (hg : Grp g) (hm : Mdl g m u) {p q : Int} (p0 : 0 ≤ p) (p1 : p < g.length * m) (q0 : 0 ≤ q) (q1 : q < g.length * m) :
    Ev (fun k => impl_pairProduct.f k g m u p q) (PP g m u p q) := by
  have m2 := hm.m2; have m12 := hm.m12; have n8 := hg.n8; have hl := hm.len
  have hb := mul_lt_small (a := g.length) (b := m) (m := 1000) (by omega) (by omega) (by omega) (by omega) (by omega)
  obtain ⟨x0, x1, r0, r1⟩ := pair_parts (show 0 < m by omega) p0 p1
  obtain ⟨y0, y1, s0, s1⟩ := pair_parts (show 0 < m by omega) q0 q1
  obtain ⟨e0, e1⟩ := hg.ent (p / m) (q / m) x0 x1 y0 y1
  obtain ⟨c0, c1⟩ := small_prod hm x0 x1 r0 r1 s0 s1
  have wx : wrap64 (Int.tdiv p m) = p / m := by rw [tdiv_nn p0]; exact w64 (by omega) (by omega)
  have wy : wrap64 (Int.tdiv q m) = q / m := by rw [tdiv_nn q0]; exact w64 (by omega) (by omega)
  have hin := PP_in hg hm p0 p1 q0 q1
  have z0 : 0 ≤ (p % m + rd u (p / m) * (q % m)) := by omega
  have k0 := Int.emod_nonneg (p % m + rd u (p / m) * (q % m)) (show m ≠ 0 by omega)
  have k1 := Int.mul_nonneg (show 0 ≤ m by omega) e0
  unfold impl_pairProduct.f
  simp only [show ¬ m = 0 by omega, ↓reduceIte, wx, wy, tmod_nn p0, tmod_nn q0]
  refine ev_bind (fun k => rfl) (ev_times2 hg x0 x1 y0 y1) (ev_now fun k => ?_)
  simp only [x0, show p / m < (u.length : Int) by omega, ↓reduceIte, Option.some.injEq]
  unfold PP at hin ⊢
  rw [w64 (x := rd u (p / m) * (q % m)) (by omega) (by omega), w64 (x := p % m + rd u (p / m) * (q % m)) (by omega) (by omega), tmod_nn z0, w64 (x := m * T g (p / m) (q / m)) (by omega) (by omega), w64 (by omega) (by omega)]
theorem ev_Mod {a m : Int} (h0 : -1000000000 ≤ a) (h1 : a ≤ 1000000000) (m0 : 0 < m) (m1 : m ≤ 1000000) : spec_l01Mod.f a m = some (a % m) := by
  unfold spec_l01Mod.f
  have e1 : Int.tmod a m = a % m ∨ Int.tmod a m = a % m - m := by
    by_cases h : 0 ≤ a
    · exact .inl (tmod_nn h)
    · have h2 := Int.tmod_eq_emod (a := a) (b := m)
      rw [h2]
      have : (m.natAbs : Int) = m := by omega
      split
      · left; omega
      · right; omega
  have b0 := Int.emod_nonneg a (show m ≠ 0 by omega)
  have b1 := Int.emod_lt_of_pos a m0
  rw [if_neg (by omega), w64 (by omega) (by omega)]
  rcases e1 with e1 | e1 <;> rw [e1, tmod_nn (by omega)]
  · rw [Int.add_emod_right, Int.emod_emod_of_dvd _ (Int.dvd_refl m)]
  · rw [show a % m - m + m = a % m by omega, Int.emod_emod_of_dvd _ (Int.dvd_refl m)]
theorem ev_Times {g : List (List Int)} {m : Int} {u : List Int} (hg : Grp g) (hm : Mdl g m u) {p q : Int} (p0 : 0 ≤ p) (p1 : p < g.length * m) (q0 : 0 ≤ q) (q1 : q < g.length * m) :
    spec_l05Times.f g m u p q = some (PP g m u p q) := by
  have m2 := hm.m2; have m12 := hm.m12; have n8 := hg.n8; have hl := hm.len
  have hb := mul_lt_small (a := g.length) (b := m) (m := 1000) (by omega) (by omega) (by omega) (by omega) (by omega)
  obtain ⟨x0, x1, r0, r1⟩ := pair_parts (show 0 < m by omega) p0 p1
  obtain ⟨y0, y1, s0, s1⟩ := pair_parts (show 0 < m by omega) q0 q1
  obtain ⟨e0, e1⟩ := hg.ent (p / m) (q / m) x0 x1 y0 y1
  obtain ⟨c0, c1⟩ := small_prod hm x0 x1 r0 r1 s0 s1
  have wx : wrap64 (Int.tdiv p m) = p / m := by rw [tdiv_nn p0]; exact w64 (by omega) (by omega)
  have wy : wrap64 (Int.tdiv q m) = q / m := by rw [tdiv_nn q0]; exact w64 (by omega) (by omega)
  have hin := PP_in hg hm p0 p1 q0 q1
  have k0 := Int.emod_nonneg (p % m + rd u (p / m) * (q % m)) (show m ≠ 0 by omega)
  have k1 := Int.mul_nonneg (show 0 ≤ m by omega) e0
  have lr : ((rd_Li64 g (p / m)).length : Int) = g.length := by rw [hg.row _ x0 x1]
  unfold spec_l05Times.f
  simp only [show ¬ m = 0 by omega, ↓reduceIte, wx, wy, tmod_nn p0, tmod_nn q0, x0, x1, y0, y1, lr, show p / m < (u.length : Int) by omega]
  rw [w64 (x := rd u (p / m) * (q % m)) (by omega) (by omega), w64 (x := p % m + rd u (p / m) * (q % m)) (by omega) (by omega), ev_Mod (by omega) (by omega) (by omega) (by omega)]
  simp only [Option.bind_some, Option.some.injEq]
  unfold PP at hin ⊢
  rw [show rd (rd_Li64 g (p / m)) (q / m) = T g (p / m) (q / m) from rfl, Int.mul_comm (T g (p / m) (q / m)) m, w64 (x := m * T g (p / m) (q / m)) (by omega) (by omega), w64 (by omega) (by omega)]
end Go.Proofs.Ytfablaokggnioaa.U
set_option linter.unusedVariables false
set_option linter.unusedSimpArgs false
namespace Go.Proofs.Ytfablaokggnioaa.Pure
open Go.RowKit Go.Proofs.YtfablaokggnioaaW.PrintWords Go.Proofs.YtfablaokggnioaaW.PrintLast Go.Proofs.YtfablaokggnioaaW.PrintMore Go.Proofs.Ytfablaokggnioaa.Pa Go.Proofs.Ytfablaokggnioaa.U
theorem FnExactPairProduct_pure : ∀ (g : List (List Int)) (m : Int) (u : List Int) (p q : Int), g.length ≤ maxLen → (∀ r ∈ g, r.length ≤ maxLen ∧ ∀ x ∈ r, (Lit.int .i64 x).wf = true) → (Lit.int .i64 m).wf = true → u.length ≤ maxLen → (∀ x ∈ u, (Lit.int .i64 x).wf = true) → (Lit.int .i64 p).wf = true → (Lit.int .i64 q).wf = true →
    ∃ k, laws_FnExactPairProduct.f k g m u p q = some true := by
  intro g m u p q hl hr' _ hu _ _ _
  have hr : ∀ r ∈ g, r.length ≤ maxLen := fun r h => (hr' r h).1
  apply Ev.rounds
  unfold laws_FnExactPairProduct.f
  obtain ⟨t, ht, h1⟩ := ev_szGroup g 1048576 hl hr (by omega) (by omega)
  refine ev_bind (fun k => rfl) ht ?_
  rcases h1 with h1 | ⟨t0, t1, gl, gr⟩
  · exact ev_now fun k => by simp only [h1, ↓reduceIte]
  simp only [show ¬ t < 0 by omega, ↓reduceIte]
  obtain ⟨s, hs, h2⟩ := ev_szModule m u t hu (by omega) (by omega)
  refine ev_bind (fun k => rfl) hs ?_
  rcases h2 with h2 | ⟨s0, s1, ul⟩
  · exact ev_now fun k => by simp only [h2, ↓reduceIte]
  simp only [show ¬ s < 0 by omega, ↓reduceIte]
  have toG := ev_toGroup g gl gr
  have toM := ev_toModule m u ul
  obtain ⟨R, hS, hI⟩ : ∃ R, Ev (fun k => spec_PairProduct.f k g m u p q) R ∧ Ev (fun k => impl_PairProduct.f k g m u p q) R := by
    have two : [p, q].length ≤ maxLen := by unfold maxLen; simp
    have cI := ev_pairsCode g hl hr m u hu [p, q] two
    have cS := ev_Pairs g hl hr m u hu [p, q] two
    unfold pairsC at cI cS
    by_cases h : GM g m u ∧ AllIn (g.length * m) [p, q]
    · obtain ⟨⟨hg, hm⟩, hp⟩ := id h
      rw [ite_pos h.1, ite_pos h.2] at cI cS
      have hp0 := hp 0 (by omega) (by simp)
      have hp1 := hp 1 (by omega) (by simp)
      simp only [rd, Int.toNat_zero, List.getD_cons_zero, Int.toNat_one, List.getD_cons_succ] at hp0 hp1
      refine ⟨(PP g m u p q, 0), ?_, ?_⟩
      · unfold spec_PairProduct.f
        refine ev_bind (fun k => rfl) cS (ev_now fun k => ?_)
        simp only [↓reduceIte, ev_Times hg hm hp0.1 hp0.2 hp1.1 hp1.2, Option.bind_some]
      · unfold impl_PairProduct.f
        refine ev_bind (fun k => rfl) cI ?_
        simp only [↓reduceIte]
        exact ev_bind (fun k => rfl) (ev_pairProduct hg hm hp0.1 hp0.2 hp1.1 hp1.2) (ev_now fun k => rfl)
    · obtain ⟨c, hc, cI', cS'⟩ : ∃ c : Int, ¬ c = 0 ∧ Ev (fun k => impl_pairsCode.f k g m u [p, q]) c ∧ Ev (fun k => spec_l05Pairs.f k g m u [p, q]) c := by
        by_cases h3 : GM g m u
        · rw [ite_pos h3, ite_neg fun h4 => h ⟨h3, h4⟩] at cI cS
          exact ⟨2, by omega, cI, cS⟩
        · rw [ite_neg h3] at cI cS
          exact ⟨1, by omega, cI, cS⟩
      refine ⟨(0, c), ?_, ?_⟩
      · unfold spec_PairProduct.f
        exact ev_bind (fun k => rfl) cS' (ev_now fun k => by simp only [hc, ↓reduceIte])
      · unfold impl_PairProduct.f
        exact ev_bind (fun k => rfl) cI' (ev_now fun k => by simp only [hc, ↓reduceIte])
  refine ev_bind (fun k => rfl) toG ?_
  refine ev_bind (fun k => rfl) toM ?_
  refine ev_bind (fun k => rfl) hS ?_
  refine ev_bind (fun k => rfl) toG ?_
  refine ev_bind (fun k => rfl) toM ?_
  refine ev_bind (fun k => rfl) hI ?_
  simp only [↓reduceIte, bne_self_eq_false]
  refine Ev.step (fun k => by simp only [laws_FnExactPairProduct.j0, Bool.false_eq_true, ↓reduceIte]; rfl) ?_
  refine ev_bind (fun k => rfl) toG ?_
  refine ev_bind (fun k => rfl) (same_Group g hl hr) ?_
  simp only [↓reduceIte]
  refine ev_bind (fun k => rfl) toM ?_
  refine ev_bind (fun k => rfl) (same_Module m u hu) ?_
  exact ev_now fun k => by simp only [↓reduceIte]
end Go.Proofs.Ytfablaokggnioaa.Pure
set_option linter.unusedVariables false
namespace Go.Proofs.YtfablaokggnioaaW.PrintWords
open Go.RowKit Go.ChangeShapes Go.WideShapes Go.Joins Go.Deep
section
variable {H : Type} {enc : TypeId × Value → H} {P : Program} {w : World} {base : Nat} {held : Bool}
theorem C_of_row {k : IntKind} {a : Option Addr} {len cap : Nat} {zs : List Int} (h : (a = none ∧ len = 0 ∧ cap = 0 ∧ zs = []) ∨ ∃ x, a = some x ∧ len ≤ cap ∧ cap ≤ maxLen ∧ zs.length = cap ∧ (∀ i, i < zs.length → w.cell? (x.add i) = some (.int k (zs.getD i 0))) ∧ ∀ n ∈ zs, (Lit.int k n).wf = true) :
    ∃ l : List Int, len = l.length ∧ Kd.C (Kd.int k) w a l.length l ∧ l.length ≤ maxLen ∧ (∀ x ∈ l, (Lit.int k x).wf = true) ∧ l.length ≤ cap := by
  obtain ⟨l, e, h1, h2, h3, h4⟩ := ReadsInt.ofRowC h
  exact ⟨l, e, Kd.C_of_reads (d := (0 : Int)) (h1 := fun _ => rfl) h1, h2, h3, h4⟩
theorem came_ints {t e : TypeId} {k : IntKind} {fuel : Nat} {v : Value} {x : DataW H × List MemPlace} (ht : P.underlying t = some (.slice e)) (he : P.underlying e = some (.int k)) (hc : P.cellsOf e = 1)
    (h : DataW.trod enc P w base (fun _ => true) held fuel t [v] = some x) :
    ∃ (A : Option Addr) (c : Nat) (l : List Int), v = .slice A l.length c ∧ l.length ≤ c ∧ Kd.C (Kd.int k) w A l.length l ∧ l.length ≤ maxLen ∧ (∀ x ∈ l, (Lit.int k x).wf = true) := by
  rcases open_ints ht he hc h with ⟨hcs, _⟩ | ⟨a, len, cap, zs, hcs, _, hl, hm, hz, _, hcell, hw⟩
  · obtain ⟨l, e1, h1, h2, h3, h4⟩ := C_of_row (w := w) (k := k) (a := none) (len := 0) (cap := 0) (zs := []) (.inl ⟨rfl, rfl, rfl, rfl⟩)
    have hv : v = .slice none 0 0 := by simpa using hcs
    exact ⟨none, 0, l, by rw [hv, ← e1], h4, h1, h2, h3⟩
  · simp only [if_true] at hz
    obtain ⟨l, e1, h1, h2, h3, h4⟩ := C_of_row (w := w) (k := k) (a := some a) (len := len) (cap := cap) (zs := zs) (.inr ⟨a, rfl, hl, hm, hz, hcell, hw⟩)
    have hv : v = .slice (some a) len cap := by simpa using hcs
    exact ⟨some a, cap, l, by rw [hv, ← e1], h4, h1, h2, h3⟩
theorem came_rows {t e q : TypeId} {k : IntKind} {fuel : Nat} {v : Value} {x : DataW H × List MemPlace} (ht : P.underlying t = some (.slice e)) (he : P.underlying e = some (.slice q)) (hq : P.underlying q = some (.int k))
    (ce : P.cellsOf e = 1) (cq : P.cellsOf q = 1) (h : DataW.trod enc P w base (fun _ => true) held fuel t [v] = some x) :
    ∃ (A : Option Addr) (c : Nat) (l : List (List Int)), v = .slice A l.length c ∧ l.length ≤ c ∧ Kd.C (Kd.slice q (Kd.int k)) w A l.length l ∧ l.length ≤ maxLen ∧ (∀ r ∈ l, r.length ≤ maxLen ∧ ∀ x ∈ r, (Lit.int k x).wf = true) := by
  rcases open_int_rows ht he hq ce cq h with ⟨hcs, _⟩ | ⟨a, len, cap, A, L, C, Z, hcs, _, hl, hm, _, hr⟩
  · refine ⟨none, 0, [], by simpa using hcs, Nat.le_refl _, ⟨rfl, by simp, fun hn => absurd hn (by simp)⟩, by simp, by simp⟩
  · have hv : v = .slice (some a) len cap := by simpa using hcs
    have each : ∀ r, r < cap → ∃ y : List Int, L r = y.length ∧ Kd.C (Kd.int k) w (A r) y.length y ∧ y.length ≤ maxLen ∧ (∀ x ∈ y, (Lit.int k x).wf = true) ∧ y.length ≤ C r := by
      intro r hrc
      obtain ⟨_, h1, h2, h3, h4, h5, h6⟩ := hr r hrc
      cases hA : A r with
      | none =>
        have hC := h5 hA
        exact C_of_row (w := w) (k := k) (a := none) (len := L r) (cap := C r) (zs := Z r) (.inl ⟨rfl, by omega, hC, List.eq_nil_of_length_eq_zero (by omega)⟩)
      | some a' => exact C_of_row (w := w) (k := k) (a := some a') (len := L r) (cap := C r) (zs := Z r) (.inr ⟨a', rfl, h1, h2, h3, fun i hi => (h6 a' hA).2 i (by omega), h4⟩)
    obtain ⟨Y, hY⟩ := choose_lt each
    refine ⟨some a, cap, (List.range len).map Y, by rw [hv]; simp, by simpa using hl, ⟨rfl, by simp only [maxLen] at hm; simp; omega, fun _ => ⟨a, rfl, fun j p hj => ?_⟩⟩, by simpa using Nat.le_trans hl hm, fun r hr' => ?_⟩
    · have hjl : j < len := by
        have := (List.getElem?_eq_some_iff.1 hj).1
        simpa using this
      have hp : p = Y j := by simpa [hjl] using hj.symm
      subst hp
      obtain ⟨e1, h1, h2, h3, h4⟩ := hY j (by omega)
      refine ⟨[.slice (A j) (Y j).length (C j)], rfl, ⟨A j, C j, rfl, h4, h1⟩, fun i u hu => ?_⟩
      cases i with
      | zero =>
        simp only [List.getElem?_cons_zero, Option.some.injEq] at hu
        subst hu
        have := (hr j (by omega)).1
        rw [e1] at this
        simpa [Kd.slice] using this
      | succ i => simp at hu
    · obtain ⟨j, hj, rfl⟩ := List.mem_map.1 hr'
      obtain ⟨e1, h1, h2, h3, h4⟩ := hY j (by have := List.mem_range.1 hj; omega)
      exact ⟨h2, h3⟩
theorem came_int {t : TypeId} {k : IntKind} {fuel : Nat} {v : Value} {x : DataW H × List MemPlace} (ht : P.underlying t = some (.int k)) (h : DataW.trod enc P w base (fun _ => true) held fuel t [v] = some x) : ∃ n, v = .int k n ∧ (Lit.int k n).wf = true := by
  obtain ⟨n, h1, _, h2⟩ := DataW.trod_int ht h
  exact ⟨n, by simpa using h1, h2⟩
theorem open_agg1 {r : Reach} {b0 : Nat} {t : TypeId} {f0 : Field} {v : Value} {d : DataW H} {p : List MemPlace} {spare : Nat → Bool} (hs : P.underlying t = some (.struct #[f0])) (hone : oneCellFields P #[f0] = true) (hC : P.cellsOf t = 1)
    (hv : Value.okWide P w r b0 t v) (h : DataW.Trod enc P w base spare held t v d p) :
    ∃ (v0 : Value) (y0 : DataW H × List MemPlace) (n : Nat), v = .agg #[v0] ∧ DataW.trod enc P w base spare held n f0.type [v0] = some y0 := by
  obtain ⟨cs, rfl, hsz⟩ := okWide_struct hs hv
  have hsz1 : cs.size = 1 := hsz.trans hC
  obtain ⟨c0, rfl⟩ : ∃ c0, cs = #[c0] := by
    obtain ⟨l⟩ := cs
    match l, hsz1 with
    | [c0], _ => exact ⟨c0, rfl⟩
  obtain ⟨fuel, hf⟩ := h
  obtain ⟨y0, n, hx, _, h0⟩ := trod_struct1 hs hf
  obtain ⟨o0, k0⟩ := hone_of hone 0 f0 rfl
  exact ⟨c0, y0, n, rfl, by simpa [Value.cells, o0, k0] using h0⟩
end
end Go.Proofs.YtfablaokggnioaaW.PrintWords
namespace Go.Proofs.YtfablaokggnioaaW.PrintWords
open Go.ChangeShapes Go.WideShapes
end Go.Proofs.YtfablaokggnioaaW.PrintWords
