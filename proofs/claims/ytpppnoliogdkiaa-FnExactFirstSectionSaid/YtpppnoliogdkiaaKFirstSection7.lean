/- What the proof of the law FirstSection stands on, part 7: words, each Go function's Lean function, and that the Go code comes to its answers; no condition. (Packed by wip/myprint/pack.py out of what the kit's printer wrote, its words among it, partly by our patches of it, and out of texts of this session.) -/
import Derived.Test.YtpppnoliogdkiaaRows
import Derived.WalkKit
import Derived.ProofKit
import Derived.KernelRfl
import Derived.Test.YtpppnoliogdkiaaKFirstSection4
import Derived.Test.YtpppnoliogdkiaaKFirstSection5
import Derived.Test.YtpppnoliogdkiaaKFirstSection6
set_option linter.unusedVariables false
set_option linter.unusedSimpArgs false
set_option maxHeartbeats 4000000
set_option maxRecDepth 20000
namespace Go.Proofs.Ytpppnoliogdkiaa.V
open Go.RowKit Go.Proofs.Ytpppnoliogdkiaa.D
def sgn : Nat → Int
  | 0 => -1
  | j + 1 => 0 - sgn j
def sumJ (g : List (List Int)) (A : List Int → Int) (xs : List Int) : Nat → Int
  | 0 => 0
  | j + 1 => sumJ g A xs j + sgn j * A (join2 g xs j)
def BdS (g : List (List Int)) (u : List Int) (A : List Int → Int) (xs : List Int) (d : Nat) : Int := rd u (rd xs 0) * A (xs.drop 1) + sumJ g A xs d + sgn d * A (xs.take d)
theorem Bd_eq (g : List (List Int)) (u v xs : List Int) (d : Nat) : Bd g u v xs d = BdS g u (At g v) xs d := by
  have h : ∀ j, bsum g u v xs j = (rd u (rd xs 0) * At g v (xs.drop 1) + sumJ g (At g v) xs j, sgn j) := by
    intro j
    induction j with
    | zero => simp [bsum, sumJ, sgn]
    | succ j ih => simp only [bsum, ih, sumJ, sgn, Int.add_assoc]
  unfold Bd BdS
  rw [h d]
theorem sumJ_lin (g : List (List Int)) (A A' : List Int → Int) (c : Int) (xs : List Int) : ∀ d, sumJ g (fun l => A l + c * A' l) xs d = sumJ g A xs d + c * sumJ g A' xs d := by
  intro d
  induction d with
  | zero => simp [sumJ]
  | succ d ih =>
    simp only [sumJ, ih, Int.mul_add]
    rw [← Int.mul_assoc (sgn d) c, Int.mul_comm (sgn d) c, Int.mul_assoc]
    omega
theorem BdS_lin (g : List (List Int)) (u : List Int) (A A' : List Int → Int) (c : Int) (xs : List Int) (d : Nat) : BdS g u (fun l => A l + c * A' l) xs d = BdS g u A xs d + c * BdS g u A' xs d := by
  unfold BdS
  rw [sumJ_lin]
  simp only [Int.mul_add]
  rw [← Int.mul_assoc (sgn d) c, Int.mul_comm (sgn d) c, Int.mul_assoc, ← Int.mul_assoc (rd u (rd xs 0)) c, Int.mul_comm (rd u (rd xs 0)) c, Int.mul_assoc]
  omega
noncomputable def AtF (g : List (List Int)) (h : Vc) (xs : List Int) : Int := ite_ (NoUnit xs) (h (idx g xs).toNat) 0
theorem At_F (g : List (List Int)) (v : List Int) : At g v = AtF g (V v) := by
  funext xs
  unfold At AtF
  by_cases h : NoUnit xs
  · rw [ite_pos h, ite_pos h]; show v.getD (idx g xs).toNat 0 = v.getD ((((idx g xs).toNat : Nat) : Int)).toNat 0; rw [Int.toNat_natCast]
  · rw [ite_neg h, ite_neg h]
theorem AtF_lin (g : List (List Int)) (h h' : Vc) (c : Int) : AtF g (fun i => h i + c * h' i) = fun l => AtF g h l + c * AtF g h' l := by
  funext xs
  unfold AtF
  by_cases k : NoUnit xs
  · simp only [ite_pos k]
  · simp only [ite_neg k]; omega
theorem AtF_zero (g : List (List Int)) : AtF g (fun _ => 0) = fun _ => 0 := by
  funext xs
  unfold AtF
  by_cases k : NoUnit xs
  · rw [ite_pos k]
  · rw [ite_neg k]
theorem sumJ_zero (g : List (List Int)) (xs : List Int) : ∀ d, sumJ g (fun _ => 0) xs d = 0 := by
  intro d
  induction d with
  | zero => rfl
  | succ d ih => simp [sumJ, ih]
theorem BdS_zero (g : List (List Int)) (u xs : List Int) (d : Nat) : BdS g u (fun _ => 0) xs d = 0 := by unfold BdS; rw [sumJ_zero]; simp
theorem idx_nB {g : List (List Int)} (hg : Grp g) {e : Nat} (he : e ≤ 3) {xs : List Int} (hx : AllIn g.length xs) (hl : xs.length = e) (h : NoUnit xs) : 0 ≤ idx g xs ∧ (idx g xs).toNat < nB g e := by
  obtain ⟨a, b⟩ := idx_cells hg (unitCo hg (m := 2) (by omega) he 0) hx (by omega) h
  rw [unitC_length] at b
  have : ((cells g (e : Int)).toNat : Int) = ((nB g e : Nat) : Int) := rfl
  omega
theorem AtF_alike {g : List (List Int)} (hg : Grp g) {m : Int} {e : Nat} (he : e ≤ 3) {h h' : Vc} (hh : ∀ i, i < nB g e → m ∣ h i - h' i) {xs : List Int} (hx : AllIn g.length xs) (hl : xs.length = e) : m ∣ AtF g h xs - AtF g h' xs := by
  unfold AtF
  by_cases k : NoUnit xs
  · rw [ite_pos k, ite_pos k]
    exact hh _ (idx_nB hg he hx hl k).2
  · rw [ite_neg k, ite_neg k]
    exact ⟨0, by omega⟩
theorem dvd_mul_sub {m a b c : Int} (h : m ∣ a - b) : m ∣ c * a - c * b := by
  rw [← Int.mul_sub]; exact Int.dvd_mul_of_dvd_right h
theorem dvd_add_sub {m a b c d : Int} (h : m ∣ a - b) (h' : m ∣ c - d) : m ∣ (a + c) - (b + d) := by
  have := Int.dvd_add h h'
  rwa [show a - b + (c - d) = a + c - (b + d) by omega] at this
theorem BdS_alike {g : List (List Int)} (hg : Grp g) {m : Int} {u : List Int} {e : Nat} (he : e ≤ 3) {h h' : Vc} (hh : ∀ i, i < nB g e → m ∣ h i - h' i) {xs : List Int} (hx : AllIn g.length xs) (hl : xs.length = e + 1) : m ∣ BdS g u (AtF g h) xs e - BdS g u (AtF g h') xs e := by
  unfold BdS
  refine dvd_add_sub (dvd_add_sub (dvd_mul_sub (AtF_alike hg he hh (hx.drop 1) (by rw [List.length_drop]; omega))) ?_) (dvd_mul_sub (AtF_alike hg he hh (hx.take e) (by rw [List.length_take]; omega)))
  have : ∀ d, d ≤ e → m ∣ sumJ g (AtF g h) xs d - sumJ g (AtF g h') xs d := by
    intro d
    induction d with
    | zero => intro _; exact ⟨0, by simp [sumJ]⟩
    | succ d ih =>
      intro hd
      obtain ⟨k1, k2⟩ := join2_in hg hx (j := d) (by omega)
      exact dvd_add_sub (ih (by omega)) (dvd_mul_sub (AtF_alike hg he hh k1 (by omega)))
  exact this e (Nat.le_refl _)
def Bnd (g : List (List Int)) (m : Int) (u : List Int) (e : Nat) (z : Vc) : Prop := ∀ i, i < nB g (e + 1) → m ∣ z i - BdS g u (AtF g fun k => z (nB g (e + 1) + k)) (lst ((g.length : Int) - 1) (e + 1) (i : Int)) e
theorem lst_ok {g : List (List Int)} (hg : Grp g) {e i : Nat} (he : e ≤ 3) (hi : i < nB g (e + 1)) : AllIn g.length (lst ((g.length : Int) - 1) (e + 1) (i : Int)) ∧ NoUnit (lst ((g.length : Int) - 1) (e + 1) (i : Int)) := by
  obtain ⟨c1, c2⟩ := nA_bd hg (e := e + 1) (by omega)
  exact lst_grp hg (n := e + 1) (by omega)
theorem allM_bnd {g : List (List Int)} (hg : Grp g) {m : Int} (m2 : 2 ≤ m) {u : List Int} {e : Nat} (he : e ≤ 3) {z : Vc} (hz : allM g m u e z) : Bnd g m u e z := by
  have hs : Sub m (nB g (e + 1) + nB g e) (Bnd g m u e) := by
    refine ⟨fun i hi => ?_, fun x y hx hy c i hi => ?_, fun x y hx h i hi => ?_⟩
    · rw [AtF_zero, BdS_zero]; exact ⟨0, by dsimp only; omega⟩
    · have e1 := AtF_lin g (fun k => x (nB g (e + 1) + k)) (fun k => y (nB g (e + 1) + k)) c
      rw [e1, BdS_lin]
      exact dvd_add_sub (hx i hi) (dvd_mul_sub (hy i hi))
    · have h1 := hx i hi
      have h2 := h i (by omega)
      have h3 := BdS_alike hg (u := u) he (h := fun k => x (nB g (e + 1) + k)) (h' := fun k => y (nB g (e + 1) + k)) (m := m) (fun k hk => h _ (by omega)) (lst_ok hg he hi).1 (lst_length ..)
      have := Int.dvd_add (Int.dvd_sub h1 h2) h3
      rwa [show ∀ a b c d : Int, a - b - (a - c) + (b - d) = c - d from fun a b c d => by omega] at this
  refine hs.all (fun w hw => ?_) hz
  obtain ⟨k, hk, rfl⟩ := hw
  intro i hi
  have bl : (bdU g m u e k).length = nB g (e + 1) := bdL_length ..
  have e1 : (fun j => V (bdA g m u e k) (nB g (e + 1) + j)) = V (unitC (cells g (e : Int)).toNat k) := by
    funext j
    show rd (bdU g m u e k ++ unitC (nB g e) k) ((nB g (e + 1) + j : Nat) : Int) = rd (unitC (nB g e) k) (j : Int)
    rw [rd_app_right (by omega), bl, show nB g (e + 1) + j - nB g (e + 1) = j by omega]
  have e2 : V (bdA g m u e k) i = bdV g u (unitC (cells g (e : Int)).toNat k) e i % m := by
    show rd (bdU g m u e k ++ unitC (nB g e) k) (i : Int) = _
    rw [rd_app_left (by omega), rd_get (by omega)]
    simp only [bdU, bdL, List.getElem_map, List.getElem_range]
  rw [e1, e2, ← At_F, ← Bd_eq]
  exact ⟨-(bdV g u (unitC (cells g (e : Int)).toNat k) e i / m), by
    have := Int.mul_ediv_add_emod (bdV g u (unitC (cells g (e : Int)).toNat k) e i) m
    rw [Int.mul_neg]
    show bdV g u (unitC (cells g (e : Int)).toNat k) e i % m - bdV g u (unitC (cells g (e : Int)).toNat k) e i = _
    omega⟩
noncomputable def sumA (g : List (List Int)) (m : Int) (u : List Int) (e : Nat) (y : Vc) : Nat → Vc
  | 0 => fun _ => 0
  | k + 1 => fun i => sumA g m u e y k i + y k * V (bdA g m u e k) i
theorem sumA_mem {g : List (List Int)} {m : Int} {u : List Int} {e : Nat} (y : Vc) : ∀ k, k ≤ nB g e → allM g m u e (sumA g m u e y k) := by
  intro k
  induction k with
  | zero => exact fun _ => .nil
  | succ k ih => exact fun hk => .add _ (ih (by omega)) ⟨k, by omega, rfl⟩
theorem unitC_rd {c k j : Nat} (hk : k < c) : rd (unitC c k) (j : Int) = if j = k then 1 else 0 := by
  unfold unitC
  by_cases e : j = k
  · subst e; rw [if_pos rfl, rd_set_same (by simpa using hk)]
  · rw [if_neg e, rd_set_ne e, rd_zeros]
theorem sumA_tail {g : List (List Int)} {m : Int} {u : List Int} {e : Nat} (y : Vc) (j : Nat) : ∀ k, k ≤ nB g e → sumA g m u e y k (nB g (e + 1) + j) = if j < k then y j else 0 := by
  intro k
  induction k with
  | zero => intro _; simp [sumA]
  | succ k ih =>
    intro hk
    have bl : (bdU g m u e k).length = nB g (e + 1) := bdL_length ..
    have e1 : V (bdA g m u e k) (nB g (e + 1) + j) = if j = k then 1 else 0 := by
      show rd (bdU g m u e k ++ unitC (nB g e) k) ((nB g (e + 1) + j : Nat) : Int) = _
      rw [rd_app_right (by omega), bl, show nB g (e + 1) + j - nB g (e + 1) = j by omega, unitC_rd (by omega)]
    show sumA g m u e y k (nB g (e + 1) + j) + y k * V (bdA g m u e k) (nB g (e + 1) + j) = _
    rw [ih (by omega), e1]
    by_cases h1 : j < k
    · rw [if_pos h1, if_neg (by omega), if_pos (by omega)]; omega
    · by_cases h2 : j = k
      · subst h2; rw [if_neg h1, if_pos rfl, if_pos (by omega)]; omega
      · rw [if_neg h1, if_neg h2, if_neg (by omega)]; omega
theorem bnd_allM {g : List (List Int)} (hg : Grp g) {m : Int} (m2 : 2 ≤ m) {u : List Int} {e : Nat} (he : e ≤ 3) {z : Vc} (hz : Bnd g m u e z) : allM g m u e z := by
  have h1 := sumA_mem (g := g) (m := m) (u := u) (e := e) (fun k => z (nB g (e + 1) + k)) (nB g e) (Nat.le_refl _)
  have h2 := allM_bnd hg m2 he h1
  have ht : ∀ j, j < nB g e → sumA g m u e (fun k => z (nB g (e + 1) + k)) (nB g e) (nB g (e + 1) + j) = z (nB g (e + 1) + j) := fun j hj => by
    rw [sumA_tail _ _ _ (Nat.le_refl _), if_pos hj]
  refine .alike h1 fun i hi => ?_
  by_cases k : i < nB g (e + 1)
  · have a := h2 i k
    have b := hz i k
    have c := BdS_alike hg (u := u) (m := m) he (h := fun k => sumA g m u e (fun k => z (nB g (e + 1) + k)) (nB g e) (nB g (e + 1) + k)) (h' := fun k => z (nB g (e + 1) + k)) (fun j hj => dvd_same (ht j hj)) (lst_ok hg he k).1 (lst_length ..)
    have := Int.dvd_sub (Int.dvd_add a c) b
    rwa [show ∀ a b c d : Int, a - b + (b - c) - (d - c) = a - d from fun a b c d => by omega] at this
  · obtain ⟨j, rfl⟩ : ∃ j, i = nB g (e + 1) + j := ⟨i - nB g (e + 1), by omega⟩
    exact dvd_same (ht j (by omega))
theorem allM_iff {g : List (List Int)} (hg : Grp g) {m : Int} (m2 : 2 ≤ m) {u : List Int} {e : Nat} (he : e ≤ 3) {w y : List Int} (hw : w.length = nB g (e + 1)) : allM g m u e (V (w ++ y)) ↔ ∀ i, i < nB g (e + 1) → m ∣ rd w (i : Int) - bdV g u y e i := by
  have e1 : (fun k => V (w ++ y) (nB g (e + 1) + k)) = V y := by
    funext k
    show rd (w ++ y) ((nB g (e + 1) + k : Nat) : Int) = rd y (k : Int)
    rw [rd_app_right (by omega), hw, show nB g (e + 1) + k - nB g (e + 1) = k by omega]
  have e2 : Bnd g m u e (V (w ++ y)) ↔ ∀ i, i < nB g (e + 1) → m ∣ rd w (i : Int) - bdV g u y e i := by
    unfold Bnd
    rw [e1]
    constructor
    · intro h i hi
      have := h i hi
      rw [← At_F, ← Bd_eq] at this
      rwa [show V (w ++ y) i = rd w (i : Int) from rd_app_left (by omega)] at this
    · intro h i hi
      rw [← At_F, ← Bd_eq, show V (w ++ y) i = rd w (i : Int) from rd_app_left (by omega)]
      exact h i hi
  exact ⟨fun h => e2.1 (allM_bnd hg m2 he h), fun h => bnd_allM hg m2 he (e2.2 h)⟩
def LexLe (W : Nat) (x y : List Int) : Prop := (∀ i : Nat, i < W → rd x (i : Int) = rd y (i : Int)) ∨ ∃ j : Nat, j < W ∧ (∀ i : Nat, i < j → rd x (i : Int) = rd y (i : Int)) ∧ rd x (j : Int) < rd y (j : Int)
theorem LexLe.anti {W : Nat} {x y : List Int} (h : LexLe W x y) (h' : LexLe W y x) : ∀ i : Nat, i < W → rd x (i : Int) = rd y (i : Int) := by
  rcases h with h | ⟨j, hj, h1, h2⟩
  · exact h
  · rcases h' with h' | ⟨k, hk, h3, h4⟩
    · exact fun i hi => (h' i hi).symm
    · exfalso
      rcases Nat.lt_trichotomy j k with q | q | q
      · have := h3 j q; omega
      · subst q; omega
      · have := h1 k q; omega
theorem LB.first {g : List (List Int)} {m : Int} (m0 : 0 < m) {u : List Int} {e : Nat} {v y h : List Int} (hv : v.length = nB g (e + 1)) {q : List (List Int)} (hq : Lead m (nB g e) q (coM g m u e)) (hy : LB g m u e v y) (hl : h.length = nB g e) (ha : AllIn m h) (hh : allM g m u e (V (v ++ h))) : LexLe (nB g e) y h := by
  have hd : coM g m u e fun i => rd h (i : Int) - rd y (i : Int) := by
    refine .alike ((show Sp m _ _ _ from hh).plus ((show Sp m _ _ _ from hy.mem).mul (-1))) fun i hi => dvd_same ?_
    show rd (v ++ h) (i : Int) + -1 * rd (v ++ y) (i : Int) = pad (nB g (e + 1)) (fun i => rd h (i : Int) - rd y (i : Int)) i
    unfold pad
    by_cases k : i < nB g (e + 1)
    · rw [if_pos k, rd_app_left (by omega), rd_app_left (by omega)]; omega
    · rw [if_neg k, rd_app_right (by omega), rd_app_right (by omega), hv]; dsimp only; omega
  have main : ∀ k, k ≤ nB g e → (∀ i : Nat, i < k → rd y (i : Int) = rd h (i : Int)) ∨ ∃ j : Nat, j < nB g e ∧ (∀ i : Nat, i < j → rd y (i : Int) = rd h (i : Int)) ∧ rd y (j : Int) < rd h (j : Int) := by
    intro k
    induction k with
    | zero => exact fun _ => .inl fun i hi => by omega
    | succ k ih =>
      intro hk
      rcases ih (by omega) with h1 | h1
      rotate_left
      · exact .inr h1
      by_cases h2 : rd y (k : Int) = rd h (k : Int)
      · refine .inl fun i hi => ?_
        by_cases q : i = k
        · rw [q]; exact h2
        · exact h1 i (by omega)
      · refine .inr ⟨k, by omega, h1, ?_⟩
        have hdv := hq.lead _ hd k (by omega) fun i hi => by rw [h1 i hi]; exact ⟨0, by omega⟩
        have b := hy.lt q hq k (by omega)
        have yl := hy.len
        obtain ⟨y0, y1⟩ := hy.ent k (by omega) (by omega)
        obtain ⟨h0, _⟩ := ha k (by omega) (by omega)
        by_cases hc : rd y (k : Int) < rd h (k : Int)
        · exact hc
        · have h3 : dv m q k ∣ rd y (k : Int) - rd h (k : Int) := by
            have := Int.dvd_neg.2 hdv
            rwa [show -(rd h (k : Int) - rd y (k : Int)) = rd y (k : Int) - rd h (k : Int) by omega] at this
          have := Int.le_of_dvd (by omega) h3
          omega
  exact (main _ (Nat.le_refl _)).imp id id
end Go.Proofs.Ytpppnoliogdkiaa.V
set_option linter.unusedVariables false
set_option linter.unusedSimpArgs false
set_option maxHeartbeats 4000000
set_option maxRecDepth 20000
namespace Go.Proofs.Ytpppnoliogdkiaa.V
open Go.RowKit Go.Proofs.Ytpppnoliogdkiaa.D Go.Proofs.Ytpppnoliogdkiaa.P
theorem snoc_of {xs : List Int} {n : Nat} (h : xs.length = n + 1) : ∃ ys x, xs = ys ++ [x] ∧ ys.length = n := by
  have hne : xs ≠ [] := fun e => by rw [e] at h; simp at h
  refine ⟨xs.dropLast, xs.getLast hne, (List.dropLast_concat_getLast hne).symm, by rw [List.length_dropLast]; omega⟩
theorem lst_idx {g : List (List Int)} : ∀ (n : Nat) (xs : List Int), xs.length = n → (∀ x ∈ xs, 1 ≤ x ∧ x < g.length) → lst ((g.length : Int) - 1) n (idx g xs) = xs := by
  intro n
  induction n with
  | zero => intro xs hl _; rw [List.eq_nil_of_length_eq_zero hl]; rfl
  | succ n ih =>
    intro xs hl hx
    obtain ⟨ys, x, rfl, hy⟩ := snoc_of hl
    obtain ⟨x0, x1⟩ := hx x (by simp)
    rw [idx_snoc, lst]
    have e1 : (idx g ys * ((g.length : Int) - 1) + x - 1) / ((g.length : Int) - 1) = idx g ys := by
      rw [show idx g ys * ((g.length : Int) - 1) + x - 1 = (x - 1) + idx g ys * ((g.length : Int) - 1) by omega, Int.add_mul_ediv_right _ _ (by omega), Int.ediv_eq_zero_of_lt (by omega) (by omega)]
      omega
    have e2 : (idx g ys * ((g.length : Int) - 1) + x - 1) % ((g.length : Int) - 1) = x - 1 := by
      rw [show idx g ys * ((g.length : Int) - 1) + x - 1 = (x - 1) + idx g ys * ((g.length : Int) - 1) by omega, Int.add_mul_emod_self_right, Int.emod_eq_of_lt (by omega) (by omega)]
    rw [e1, e2, ih ys hy fun z hz => hx z (by simp [hz]), show x - 1 + 1 = x by omega]
theorem idx_lst {g : List (List Int)} : ∀ (n : Nat) (i : Int), 0 ≤ i → i < ((g.length : Int) - 1) ^ n → (n = 0 ∨ 2 ≤ g.length) → idx g (lst ((g.length : Int) - 1) n i) = i := by
  intro n
  induction n with
  | zero => intro i i0 i1 _; rw [Int.pow_zero] at i1; simp [lst, idx]; omega
  | succ n ih =>
    intro i i0 i1 h2
    have hb : 0 < (g.length : Int) - 1 := by omega
    rw [lst, idx_snoc, ih _ (Int.ediv_nonneg i0 (by omega)) (by
      rw [Int.pow_succ] at i1
      exact Int.ediv_lt_of_lt_mul hb i1) (by omega)]
    have := Int.mul_ediv_add_emod i ((g.length : Int) - 1)
    rw [Int.mul_comm] at this
    omega
def ConP (g : List (List Int)) (m : Int) (u v r : List Int) (n : Nat) : Prop := ∀ x : Int, 0 ≤ x → x < n → ∀ y : Int, 0 ≤ y → y < n → T g x y < n → (rd r x + rd u x * rd r y + At g v [x, y]) % m = rd r (T g x y)
theorem ConP.pre {g : List (List Int)} {m : Int} {u v r r' : List Int} {n n' : Nat} (h : ConP g m u v r n) (hn : n' ≤ n) (hg : Grp g) (hN : n ≤ g.length) (he : ∀ i : Int, 0 ≤ i → i < n' → rd r' i = rd r i) : ConP g m u v r' n' := by
  intro x x0 x1 y y0 y1 ht
  have e := h x x0 (by omega) y y0 (by omega) (by omega)
  obtain ⟨t0, _⟩ := hg.ent x y x0 (by omega) y0 (by omega)
  rw [he x x0 x1, he y y0 y1, he _ t0 ht]
  exact e
structure Ext (g : List (List Int)) (m : Int) (u v list r : List Int) : Prop where
  len : r.length = g.length
  ent : AllIn m r
  con : ConP g m u v r g.length
  pre : r.take list.length = list
theorem take_rdi {r l : List Int} (h : r.take l.length = l) {i : Int} (i0 : 0 ≤ i) (i1 : i < l.length) : rd l i = rd r i := by
  obtain ⟨n, rfl⟩ := Int.eq_ofNat_of_zero_le i0
  rw [← h, rd_take (by omega)]
theorem con_w {g : List (List Int)} (hg : Grp g) {m : Int} {u v r : List Int} (hm : Mdl g m u) (hc : Co g m 2 v) (ha : AllIn m r) {x y : Int} (x0 : 0 ≤ x) (x1 : x < r.length) (y0 : 0 ≤ y) (y1 : y < r.length) (hr : r.length ≤ g.length) :
    (wrapI (wrapI (rd r x + wrapI (rd u x * rd r y)) + At g v [x, y])).tmod m = (rd r x + rd u x * rd r y + At g v [x, y]) % m := by
  have m2 := hm.m2; have m12 := hm.m12
  obtain ⟨a0, a1⟩ := ha x x0 x1
  obtain ⟨b0, b1⟩ := ha y y0 y1
  obtain ⟨c0, c1⟩ := small_prod hm x0 (by omega) b0 b1
  obtain ⟨d0, d1⟩ := At_bd hg (by omega) hc (allIn_two x0 (show x < g.length by omega) y0 (show y < g.length by omega)) rfl
  rw [w64 (x := rd u x * rd r y) (by omega) (by omega), w64 (x := rd r x + rd u x * rd r y) (by omega) (by omega), w64 (by omega) (by omega), tmod_nn (by omega)]
theorem Go_head {g : List (List Int)} (hg : Grp g) {m : Int} {u v : List Int} (hm : Mdl g m u) (hc : Co g m 2 v) (k : Nat) {list : List Int} (ha : AllIn m list) (hl : list.length ≤ g.length) :
    spec_l06Go.f (k + 1) g m u 2 v list = ite_ (ConP g m u v list list.length) (if (list.length : Int) = (g.length : Int) then some (list, true) else spec_l06Go.l2 k list 0 g m u 2 v) (some ([], false)) := by
  have n8 := hg.n8
  have m2 := hm.m2; have m12 := hm.m12
  have hlu := hm.len
  rw [spec_l06Go.f_eq]
  have outer := scan list.length (fun x => spec_l06Go.l0 k list (list.length : Int) x g m u 2 v) (fun x => ∀ y : Int, 0 ≤ y → y < list.length → T g x y < list.length → (rd list x + rd u x * rd list y + At g v [x, y]) % m = rd list (T g x y)) (some ([], false)) (fun x x0 x1 _ => by
    have rx := hg.row x x0 (by omega)
    have inner := scanI list.length (fun y => spec_l06Go.l1 k list (list.length : Int) x y g m u 2 v) (fun y => T g x y < list.length → (rd list x + rd u x * rd list y + At g v [x, y]) % m = rd list (T g x y)) (some ([], false)) (spec_l06Go.l0 k list (list.length : Int) (x + 1) g m u 2 v) (fun y y0 y1 _ => by
      obtain ⟨t0, t1⟩ := hg.ent x y x0 (by omega) y0 (by omega)
      have hat := At_ (u := u) hg hc (allIn_two x0 (show x < g.length by omega) y0 (show y < g.length by omega)) rfl
      have ew := con_w hg hm hc ha x0 x1 y0 y1 hl
      refine ⟨fun h => ?_, fun h => ?_⟩
      · by_cases ht : T g x y < list.length
        · have h := h ht
          rw [spec_l06Go.l1_eq, hat, Option.bind_some, ew, w64 (x := y + 1) (by omega) (by omega)]
          clear ew
          ((with_reducible repeat (first | refine go_pos (by first | assumption | omega | rfl | exact B_pos (by omega)) ?_ | refine go_neg (by first | assumption | omega | decide | exact B_not (by omega)) ?_ | refine go_bind (by first | assumption) ?_ | dsimp only)); first | done | (with_reducible rfl) | simp (disch := omega) only [w64] | (show False; done))
        · rw [spec_l06Go.l1_eq, w64 (x := y + 1) (by omega) (by omega)]
          clear ew
          ((with_reducible repeat (first | refine go_pos (by first | assumption | omega | rfl | exact B_pos (by omega)) ?_ | refine go_neg (by first | assumption | omega | decide | exact B_not (by omega)) ?_ | refine go_bind (by first | assumption) ?_ | dsimp only)); first | done | (with_reducible rfl) | simp (disch := omega) only [w64] | (show False; done))
      · have ht : T g x y < list.length := by
          by_cases q : T g x y < list.length
          · exact q
          · exact absurd (fun k => absurd k q) h
        have h : ¬ (rd list x + rd u x * rd list y + At g v [x, y]) % m = rd list (T g x y) := fun k => h fun _ => k
        rw [spec_l06Go.l1_eq, hat, Option.bind_some, ew]
        clear ew
        ((with_reducible repeat (first | refine go_pos (by first | assumption | omega | rfl | exact B_pos (by omega)) ?_ | refine go_neg (by first | assumption | omega | decide | exact B_not (by omega)) ?_ | refine go_bind (by first | assumption) ?_ | dsimp only)); first | done | (with_reducible rfl) | simp (disch := omega) only [w64] | (show False; done))) (fun _ => by (rw [spec_l06Go.l1_eq]); ((with_reducible repeat (first | refine go_pos (by first | assumption | omega | rfl | exact B_pos (by omega)) ?_ | refine go_neg (by first | assumption | omega | decide | exact B_not (by omega)) ?_ | refine go_bind (by first | assumption) ?_ | dsimp only)); first | done | (with_reducible rfl) | simp (disch := omega) only [w64] | (show False; done)))
    refine ⟨fun h => ?_, fun h => ?_⟩ <;> rw [spec_l06Go.l0_eq] <;> (with_reducible repeat (first | refine go_pos (by first | assumption | omega | rfl | exact B_pos (by omega)) ?_ | refine go_neg (by first | assumption | omega | decide | exact B_not (by omega)) ?_ | refine go_bind (by first | assumption) ?_ | dsimp only))
    · exact inner.1 h
    · exact inner.2 h)
  rcases outer with ⟨h1, h2⟩ | ⟨j, j0, j1, _, h1, _, h2⟩
  · rw [ite_pos (show ConP g m u v list list.length from h1), h2, spec_l06Go.l0_eq]
    (with_reducible repeat (first | refine go_pos (by first | assumption | omega | rfl | exact B_pos (by omega)) ?_ | refine go_neg (by first | assumption | omega | decide | exact B_not (by omega)) ?_ | refine go_bind (by first | assumption) ?_ | dsimp only))
  · rw [ite_neg (show ¬ ConP g m u v list list.length from fun q => h1 (q j j0 j1))]
    exact h2
theorem Go_ {g : List (List Int)} (hg : Grp g) {m : Int} {u v : List Int} (hm : Mdl g m u) (hc : Co g m 2 v) : ∀ (k : Nat) (list : List Int), AllIn m list → list.length ≤ g.length → g.length < list.length + k →
    (∃ r, spec_l06Go.f k g m u 2 v list = some (r, true) ∧ Ext g m u v list r ∧ ∀ r', Ext g m u v list r' → LexLe g.length r r') ∨ (spec_l06Go.f k g m u 2 v list = some ([], false) ∧ ∀ r', ¬ Ext g m u v list r') := by
  have n8 := hg.n8
  have m2 := hm.m2; have m12 := hm.m12
  intro k
  induction k with
  | zero => intro list _ hl hk; omega
  | succ k ih =>
    intro list ha hl hk
    rw [Go_head hg hm hc k ha hl]
    by_cases hC : ConP g m u v list list.length
    rotate_left
    · rw [ite_neg hC]
      exact .inr ⟨rfl, fun r' hr => hC (hr.con.pre hl hg (Nat.le_refl _) fun i i0 i1 => take_rdi hr.pre i0 i1)⟩
    rw [ite_pos hC]
    by_cases hN : (list.length : Int) = (g.length : Int)
    · rw [if_pos hN]
      have hN' : list.length = g.length := by omega
      refine .inl ⟨list, rfl, ⟨hN', ha, by rw [← hN']; exact hC, List.take_length⟩, fun r' hr => .inl fun i hi => ?_⟩
      exact take_rdi hr.pre (by omega) (by omega)
    rw [if_neg hN]
    have loop : ∀ (n : Nat) (c : Int), 0 ≤ c → c + n = m → (∀ c' : Int, 0 ≤ c' → c' < c → ∀ r', ¬ Ext g m u v (list ++ [c']) r') →
        (∃ r, spec_l06Go.l2 k list c g m u 2 v = some (r, true) ∧ Ext g m u v list r ∧ ∀ r', Ext g m u v list r' → LexLe g.length r r') ∨ (spec_l06Go.l2 k list c g m u 2 v = some ([], false) ∧ ∀ r', ¬ Ext g m u v list r') := by
      intro n
      have up1 : ∀ r' , Ext g m u v list r' → Ext g m u v (list ++ [rd r' (list.length : Int)]) r' ∧ 0 ≤ rd r' (list.length : Int) ∧ rd r' (list.length : Int) < m := fun r' hr => by
        have rl := hr.len
        obtain ⟨b0, b1⟩ := hr.ent (list.length : Int) (by omega) (by omega)
        refine ⟨⟨hr.len, hr.ent, hr.con, ?_⟩, b0, b1⟩
        rw [List.length_append, List.length_singleton, take_rd (by omega), hr.pre]
      have down : ∀ c r', Ext g m u v (list ++ [c]) r' → Ext g m u v list r' ∧ rd r' (list.length : Int) = c := fun c r' hr => by
        have hp := hr.pre
        have rl := hr.len
        rw [List.length_append, List.length_singleton, take_rd (by omega)] at hp
        obtain ⟨h1, h2⟩ := List.append_inj' hp rfl
        exact ⟨⟨hr.len, hr.ent, hr.con, h1⟩, by simpa using h2⟩
      induction n with
      | zero =>
        intro c c0 hcm hno
        refine .inr ⟨?_, fun r' hr => ?_⟩
        · rw [spec_l06Go.l2_eq]
          ((with_reducible repeat (first | refine go_pos (by first | assumption | omega | rfl | exact B_pos (by omega)) ?_ | refine go_neg (by first | assumption | omega | decide | exact B_not (by omega)) ?_ | refine go_bind (by first | assumption) ?_ | dsimp only)); first | done | (with_reducible rfl) | simp (disch := omega) only [w64] | (show False; done))
        · obtain ⟨k1, k2, k3⟩ := up1 r' hr
          exact hno _ k2 (by omega) r' k1
      | succ n ihn =>
        intro c c0 hcm hno
        have hO := Own_ list (by omega)
        have l1 : ([c] : List Int).length = 1 := rfl
        have e1 : (list ++ [c]).length = list.length + 1 := by simp
        rcases ih (list ++ [c]) (ha.append (allIn_one c0 (by omega))) (by omega) (by omega) with ⟨r, h1, h2, h3⟩ | ⟨h1, h2⟩
        · refine .inl ⟨r, ?_, (down c r h2).1, fun r' hr => ?_⟩
          · rw [spec_l06Go.l2_eq, l1]
            ((with_reducible repeat (first | refine go_pos (by first | assumption | omega | rfl | exact B_pos (by omega)) ?_ | refine go_neg (by first | assumption | omega | decide | exact B_not (by omega)) ?_ | refine go_bind (by first | assumption) ?_ | dsimp only)); first | done | (with_reducible rfl) | simp (disch := omega) only [w64] | (show False; done))
          · obtain ⟨k1, k2, k3⟩ := up1 r' hr
            have hrc := (down c r h2).2
            by_cases q : rd r' (list.length : Int) = c
            · rw [q] at k1
              exact h3 r' k1
            · have hge : c < rd r' (list.length : Int) := by
                by_cases q2 : rd r' (list.length : Int) < c
                · exact absurd k1 (hno _ k2 q2 r')
                · omega
              refine .inr ⟨list.length, by omega, fun i hi => ?_, by omega⟩
              rw [← take_rdi (down c r h2).1.pre (i := (i : Int)) (by omega) (by omega), ← take_rdi hr.pre (i := (i : Int)) (by omega) (by omega)]
        · have st : spec_l06Go.l2 k list c g m u 2 v = spec_l06Go.l2 k list (c + 1) g m u 2 v := by
            rw [spec_l06Go.l2_eq, l1, w64 (x := c + 1) (by omega) (by omega)]
            ((with_reducible repeat (first | refine go_pos (by first | assumption | omega | rfl | exact B_pos (by omega)) ?_ | refine go_neg (by first | assumption | omega | decide | exact B_not (by omega)) ?_ | refine go_bind (by first | assumption) ?_ | dsimp only)); first | done | (with_reducible rfl) | simp (disch := omega) only [w64] | (show False; done))
          rw [st]
          refine ihn (c + 1) (by omega) (by omega) fun c' h0' h1' => ?_
          by_cases q : c' = c
          · rw [q]; exact h2
          · exact hno c' h0' (by omega)
    exact loop m.toNat 0 (by omega) (by omega) fun c' h0 h1 => by omega
theorem idx_one {g : List (List Int)} (z : Int) : idx g [z] = z - 1 := by simp [idx]
theorem At_one {g : List (List Int)} {h : List Int} {z : Int} (z0 : 0 ≤ z) : At g h [z] = rd (0 :: h) z := by
  unfold At
  by_cases e : z = 0
  · rw [ite_neg (fun q => q 0 (by omega) (by simp) (by simp [rd, e]))]
    simp [rd, e]
  · rw [ite_pos (show NoUnit [z] from fun j j0 j1 => by
      have : j = 0 := by simp at j1; omega
      subst this
      exact e), idx_one]
    obtain ⟨n, rfl⟩ := Int.eq_ofNat_of_zero_le z0
    cases n with
    | zero => exact absurd rfl e
    | succ n =>
      simp only [rd]
      rw [show (((n + 1 : Nat) : Int) - 1).toNat = n by omega, Int.toNat_natCast]
      rfl
theorem bd_one {g : List (List Int)} {u h : List Int} {x y : Int} : Bd g u h [x, y] 1 = rd u x * At g h [y] - At g h [T g x y] + At g h [x] := by
  simp only [Bd, bsum, join2, List.take_zero, List.nil_append, List.drop_succ_cons, List.drop_zero, List.take_succ_cons]
  have e0 : rd [x, y] 0 = x := rfl
  have e1 : rd [x, y] ((0 + 1 : Nat) : Int) = y := rfl
  have e2 : rd [x, y] ((0 : Nat) : Int) = x := rfl
  rw [e0, e1, e2, List.append_nil]
  omega
theorem two_list {g : List (List Int)} {i : Int} : ∃ x y, lst ((g.length : Int) - 1) 2 i = [x, y] := ⟨_, _, rfl⟩
theorem ext_iff {g : List (List Int)} (hg : Grp g) {m : Int} {u v h w : List Int} (hm : Mdl g m u) (hc : Co g m 2 v) (hl : h.length = nB g 1) (ha : AllIn m h) (hw : w.length = nB g 2) (hwv : ∀ i, i < nB g 2 → m ∣ rd w (i : Int) + rd v (i : Int)) :
    ConP g m u v (0 :: h) g.length ↔ allM g m u 1 (V (w ++ h)) := by
  have m2 := hm.m2; have m12 := hm.m12; have n1 := hg.n1; have n8 := hg.n8
  obtain ⟨c1, c2⟩ := nA_bd hg (e := 2) (by omega)
  obtain ⟨b1, b2⟩ := nA_bd hg (e := 1) (by omega)
  have hN1 : (nB g 1 : Int) = g.length - 1 := by rw [b2]; show ((g.length : Int) - 1) ^ 1 = _; rw [Int.pow_succ, Int.pow_zero]; omega
  have hal : AllIn m (0 :: h) := allIn_of fun z hz => by
    rcases List.mem_cons.1 hz with rfl | hz
    · omega
    · exact ha.mem hz
  have hrl : ((0 :: h).length : Int) = g.length := by rw [List.length_cons]; omega
  rw [allM_iff hg m2 (by omega) hw]
  have key : ∀ x y : Int, 0 ≤ x → x < g.length → 0 ≤ y → y < g.length → ((rd (0 :: h) x + rd u x * rd (0 :: h) y + At g v [x, y]) % m = rd (0 :: h) (T g x y) ↔ m ∣ At g v [x, y] + Bd g u h [x, y] 1) := fun x y x0 x1 y0 y1 => by
    obtain ⟨t0, t1⟩ := hg.ent x y x0 x1 y0 y1
    obtain ⟨r0, r1⟩ := hal (T g x y) t0 (by omega)
    rw [bd_one, At_one x0, At_one y0, At_one t0]
    constructor
    · intro q
      have := Int.mul_ediv_add_emod (rd (0 :: h) x + rd u x * rd (0 :: h) y + At g v [x, y]) m
      rw [q] at this
      exact ⟨(rd (0 :: h) x + rd u x * rd (0 :: h) y + At g v [x, y]) / m, by omega⟩
    · rintro ⟨q, hq⟩
      rw [show rd (0 :: h) x + rd u x * rd (0 :: h) y + At g v [x, y] = rd (0 :: h) (T g x y) + m * q by omega, Int.add_mul_emod_self_left, Int.emod_eq_of_lt r0 r1]
  have hval : ∀ i : Nat, i < nB g 2 → ∃ x y : Int, 1 ≤ x ∧ x < g.length ∧ 1 ≤ y ∧ y < g.length ∧ lst ((g.length : Int) - 1) 2 (i : Int) = [x, y] ∧ At g v [x, y] = rd v (i : Int) := fun i hi => by
    obtain ⟨x, y, e⟩ := two_list (g := g) (i := (i : Int))
    obtain ⟨hx, hn⟩ := lst_ok hg (e := 1) (by omega) hi
    have hL : lst ((g.length : Int) - 1) (1 + 1) (i : Int) = [x, y] := e
    rw [hL] at hx hn
    have hx0 := hx.mem (show x ∈ [x, y] by simp)
    have hy0 := hx.mem (show y ∈ [x, y] by simp)
    have nx : ¬ x = 0 := hn 0 (by omega) (by simp)
    have ny : ¬ y = 0 := hn 1 (by omega) (by simp)
    refine ⟨x, y, by omega, by omega, by omega, by omega, e, ?_⟩
    have hi2 : (i : Int) < ((g.length : Int) - 1) ^ 2 := by
      have : cells g 2 = ((g.length : Int) - 1) ^ 2 := rfl
      have c2' : ((nB g 2 : Nat) : Int) = cells g 2 := c2
      omega
    have := idx_lst (g := g) 2 (i : Int) (by omega) hi2 (by omega)
    rw [e] at this
    unfold At
    rw [ite_pos hn, this]
  constructor
  · intro hC i hi
    obtain ⟨x, y, x0, x1, y0, y1, e, hv⟩ := hval i hi
    have h1 := (key x y (by omega) x1 (by omega) y1).1 (hC x (by omega) x1 y (by omega) y1 (hg.ent x y (by omega) x1 (by omega) y1).2)
    rw [hv] at h1
    have e2 : bdV g u h 1 i = Bd g u h [x, y] 1 := by show Bd g u h (lst ((g.length : Int) - 1) 2 (i : Int)) 1 = _; rw [e]
    rw [e2]
    have := Int.dvd_sub (hwv i hi) h1
    rwa [show ∀ a b c : Int, a + b - (b + c) = a - c from fun a b c => by omega] at this
  · intro hB x x0 x1 y y0 y1 _
    have one := hm.one hg
    by_cases hx : x = 0
    · subst hx
      have z : At g v [0, y] = 0 := by unfold At; rw [ite_neg fun q => q 0 (by omega) (by simp) rfl]
      obtain ⟨r0, r1⟩ := hal y y0 (by omega)
      rw [z, hg.one y y0 y1, one, show rd (0 :: h) (0 : Int) = 0 from rfl, Int.one_mul, Int.zero_add, Int.add_zero, Int.emod_eq_of_lt r0 r1]
    by_cases hy : y = 0
    · subst hy
      have z : At g v [x, 0] = 0 := by unfold At; rw [ite_neg fun q => q 1 (by omega) (by simp) rfl]
      obtain ⟨r0, r1⟩ := hal x x0 (by omega)
      rw [z, hg.one' x x0 x1, show rd (0 :: h) (0 : Int) = 0 from rfl, Int.mul_zero, Int.add_zero, Int.add_zero, Int.emod_eq_of_lt r0 r1]
    refine (key x y x0 x1 y0 y1).2 ?_
    have hnu : NoUnit [x, y] := fun j j0 j1 => by
      have : j = 0 ∨ j = 1 := by simp at j1; omega
      rcases this with rfl | rfl
      · exact hx
      · exact hy
    obtain ⟨i0, i1⟩ := idx_nB hg (e := 2) (by omega) (allIn_two x0 x1 y0 y1) rfl hnu
    have hL := lst_idx (g := g) 2 [x, y] rfl (fun z hz => by
      simp only [List.mem_cons, List.not_mem_nil, or_false] at hz
      rcases hz with rfl | rfl <;> omega)
    have h2 := hB (idx g [x, y]).toNat i1
    have e2 : bdV g u h 1 (idx g [x, y]).toNat = Bd g u h [x, y] 1 := by
      show Bd g u h (lst ((g.length : Int) - 1) 2 (((idx g [x, y]).toNat : Nat) : Int)) 1 = _
      rw [Int.toNat_of_nonneg i0, hL]
    have e3 : At g v [x, y] = rd v ((((idx g [x, y]).toNat : Nat)) : Int) := by
      unfold At
      rw [ite_pos hnu, Int.toNat_of_nonneg i0]
    rw [e2] at h2
    rw [e3]
    have := Int.dvd_sub (hwv _ i1) h2
    rwa [show ∀ a b c : Int, a + b - (a - c) = b + c from fun a b c => by omega] at this
end Go.Proofs.Ytpppnoliogdkiaa.V
set_option linter.unusedVariables false
set_option linter.unusedSimpArgs false
set_option maxHeartbeats 2000000
set_option maxRecDepth 20000
namespace Go.Proofs.Ytpppnoliogdkiaa.V
open Go.RowKit Go.Proofs.Ytpppnoliogdkiaa.D Go.Proofs.Ytpppnoliogdkiaa.P
theorem section_ {g : List (List Int)} (hg : Grp g) {m : Int} {u v : List Int} (hm : Mdl g m u) (hc : Co g m 2 v) :
    (∃ y, impl_section.f g m u 2 v = some (1, y, true) ∧ y.length = nB g 1 ∧ spec_l06Go.f fuel g m u 2 v [] = some (0 :: y, true) ∧ Ext g m u v [] (0 :: y)) ∨
    (impl_section.f g m u 2 v = some (0, [], false) ∧ spec_l06Go.f fuel g m u 2 v [] = some ([], false) ∧ ∀ r, ¬ Ext g m u v [] r) := by
  have m2 := hm.m2; have m12 := hm.m12; have n1 := hg.n1; have n8 := hg.n8
  obtain ⟨c1, c2⟩ := nA_bd hg (e := 2) (by omega)
  obtain ⟨b1, b2⟩ := nA_bd hg (e := 1) (by omega)
  have hN1 : (nB g 1 : Int) = g.length - 1 := by rw [b2]; show ((g.length : Int) - 1) ^ 1 = _; rw [Int.pow_succ, Int.pow_zero]; omega
  have vl : v.length = nB g 2 := hc.nB hg (k := 2)
  have hz := zero_ hg (n := 2) (by omega)
  have hz : impl_zero.f g 2 = some (2, List.replicate (nB g 2) 0) := hz
  have zl : (List.replicate (nB g 2) (0 : Int)).length = nB g 2 := List.length_replicate
  obtain ⟨ad, _⟩ := added_ m2 m12 2 2 (v := List.replicate (nB g 2) 0) (w := v) (by omega) (zeros_in (by omega) _) hc.2.2 (by omega) (c := -1) (by omega) (by omega)
  obtain ⟨w, hw⟩ : ∃ w, w = addL m (List.replicate (nB g 2) 0) v (-1) := ⟨_, rfl⟩
  rw [← hw] at ad
  have wl : w.length = nB g 2 := by rw [hw, addL_length, zl]
  have hcw : Co g m ((1 + 1 : Nat) : Int) w := ⟨hc.1, by have := hc.2.1; rw [wl, ← vl]; exact this, by rw [hw]; exact addL_in (by omega) _ _ _⟩
  have hwv : ∀ i, i < nB g 2 → m ∣ rd w (i : Int) + rd v (i : Int) := fun i hi => by
    rw [hw, addL_rd (by omega), rd_zeros]
    have := Int.mul_ediv_add_emod (0 + -1 * rd v (i : Int)) m
    exact ⟨-((0 + -1 * rd v (i : Int)) / m), by rw [Int.mul_neg]; omega⟩
  obtain ⟨q, _, hq⟩ := cocycles_ hg hm (n := 1) (by omega)
  have hGo := Go_ hg hm hc 64 [] (fun i i0 i1 => by simp at i1; omega) (by simp) (by simp; omega)
  rw [← fuel_eq] at hGo
  have full : ∀ r, Ext g m u v [] r → ∃ h, r = 0 :: h ∧ h.length = nB g 1 ∧ AllIn m h ∧ allM g m u 1 (V (w ++ h)) := fun r hr => by
    have rl := hr.len
    cases r with
    | nil => simp at rl; omega
    | cons a h =>
      have h0 := hr.con 0 (by omega) (by omega) 0 (by omega) (by omega) (by rw [hg.one 0 (by omega) (by omega)]; omega)
      obtain ⟨a0, a1⟩ := hr.ent 0 (by omega) (by omega)
      have ea : rd (a :: h) 0 = a := rfl
      have zA : At g v [0, 0] = 0 := by unfold At; rw [ite_neg fun q => q 0 (by omega) (by simp) rfl]
      rw [zA, hg.one 0 (by omega) (by omega), hm.one hg, Int.one_mul, Int.add_zero, ea] at h0
      rw [ea] at a0 a1
      have ha0 : a = 0 := by
        by_cases q : a + a < m
        · rw [Int.emod_eq_of_lt (by omega) q] at h0; omega
        · rw [show a + a = (a + a - m) + m by omega, Int.add_emod_right, Int.emod_eq_of_lt (by omega) (by omega)] at h0; omega
      subst ha0
      have hl : h.length = nB g 1 := by rw [List.length_cons] at rl; omega
      have ha : AllIn m h := allIn_of fun x hx => hr.ent.mem (List.mem_cons_of_mem _ hx)
      exact ⟨h, rfl, hl, ha, (ext_iff hg hm hc hl ha wl hwv).1 hr.con⟩
  have back : ∀ h, h.length = nB g 1 → AllIn m h → allM g m u 1 (V (w ++ h)) → Ext g m u v [] (0 :: h) := fun h hl ha hM =>
    ⟨by rw [List.length_cons]; omega, allIn_of fun x hx => by
      rcases List.mem_cons.1 hx with rfl | hx
      · omega
      · exact ha.mem hx, (ext_iff hg hm hc hl ha wl hwv).2 hM, rfl⟩
  have hsec : ∀ {a b c}, impl_leastBounded.f g m u 2 w = some (a, b, c) → impl_section.f g m u 2 v = some (a, b, c) := fun {a b c} h => by
    rw [impl_section.f_eq]
    (with_reducible repeat (first | refine go_pos (by first | assumption | omega | rfl | exact B_pos (by omega)) ?_ | refine go_neg (by first | assumption | omega | decide | exact B_not (by omega)) ?_ | refine go_bind (by first | assumption) ?_ | dsimp only))
    simp
  rcases leastBounded_ hg hm hcw with ⟨_, y, i1, i2⟩ | ⟨hnb, i1⟩
  · have hy := back y i2.len i2.ent i2.mem
    rcases hGo with ⟨r, g1, g2, g3⟩ | ⟨_, g2⟩
    rotate_left
    · exact absurd hy (g2 _)
    obtain ⟨h, rfl, hl, ha, hM⟩ := full r g2
    have l1 := i2.first (by omega) wl hq hl ha hM
    have l2 := g3 _ hy
    have l1' : LexLe g.length (0 :: y) (0 :: h) := by
      rcases l1 with l1 | ⟨j, j1, j2, j3⟩
      · refine .inl fun i hi => ?_
        cases i with
        | zero => rfl
        | succ i => exact l1 i (by omega)
      · refine .inr ⟨j + 1, by omega, fun i hi => ?_, j3⟩
        cases i with
        | zero => rfl
        | succ i => exact j2 i (by omega)
    have e : (0 :: h) = (0 :: y) := by
      refine ext_rd (by rw [List.length_cons, List.length_cons, hl, i2.len]) fun i i0 i1 => ?_
      obtain ⟨n, rfl⟩ := Int.eq_ofNat_of_zero_le i0
      rw [List.length_cons] at i1
      exact l2.anti l1' n (by omega)
    rw [e] at g1
    exact .inl ⟨y, hsec i1, i2.len, g1, hy⟩
  · rcases hGo with ⟨r, g1, g2, g3⟩ | ⟨g1, g2⟩
    · obtain ⟨h, rfl, hl, ha, hM⟩ := full r g2
      refine absurd ?_ hnb
      obtain ⟨p, _, h2⟩ := bounded_ hg hm (n := 1) (by omega)
      refine (bound_iff (e := 1) (by omega) (h2.lead (by omega)) (V w)).1 ⟨_, hM, fun i hi => dvd_same ?_⟩
      exact rd_app_left (by rw [wl]; exact hi)
    · exact .inr ⟨hsec i1, g1, g2⟩
theorem same_FirstSection (g : List (List Int)) (m : Int) (u : List Int) (d : Int) (v : List Int) (hl : g.length ≤ maxLen) (hr : ∀ r ∈ g, r.length ≤ maxLen) (hu : u.length ≤ maxLen) (hv : v.length ≤ maxLen) :
    ∃ (R : List Int) (c : Int), spec_FirstSection.f g m u d v = some (R, c) ∧ impl_FirstSection.f g m u d v = some (R, c) ∧ R.length ≤ 1048576 := by
  rw [spec_FirstSection.f_eq, impl_FirstSection.f_eq]
  rcases factor g hl hr m u hu d v hv 64 with ⟨rfl, hg, hm, hc, _, _, cS, cI⟩ | ⟨c, c0, cS, cI⟩
  rotate_left
  · exact ⟨[], c, by ((with_reducible repeat (first | refine go_pos (by first | assumption | omega | rfl | exact B_pos (by omega)) ?_ | refine go_neg (by first | assumption | omega | decide | exact B_not (by omega)) ?_ | refine go_bind (by first | assumption) ?_ | dsimp only)); first | done | (with_reducible rfl) | simp (disch := omega) only [w64] | (show False; done)), by ((with_reducible repeat (first | refine go_pos (by first | assumption | omega | rfl | exact B_pos (by omega)) ?_ | refine go_neg (by first | assumption | omega | decide | exact B_not (by omega)) ?_ | refine go_bind (by first | assumption) ?_ | dsimp only)); first | done | (with_reducible rfl) | simp (disch := omega) only [w64] | (show False; done)), by simp⟩
  obtain ⟨b1, b2⟩ := nA_bd hg (e := 1) (by omega)
  rcases section_ hg hm hc with ⟨y, h1, yl, h2, _⟩ | ⟨h1, h2, _⟩
  · have hcat := concat2 (a := [0]) (b := y) (by simp) (by omega)
    exact ⟨0 :: y, 0, by ((with_reducible repeat (first | refine go_pos (by first | assumption | omega | rfl | exact B_pos (by omega)) ?_ | refine go_neg (by first | assumption | omega | decide | exact B_not (by omega)) ?_ | refine go_bind (by first | assumption) ?_ | dsimp only)); first | done | (with_reducible rfl) | simp (disch := omega) only [w64] | (show False; done)), by (with_reducible repeat (first | refine go_pos (by first | assumption | omega | rfl | exact B_pos (by omega)) ?_ | refine go_neg (by first | assumption | omega | decide | exact B_not (by omega)) ?_ | refine go_bind (by first | assumption) ?_ | dsimp only)); rfl, by rw [List.length_cons]; omega⟩
  · exact ⟨[], 5, by ((with_reducible repeat (first | refine go_pos (by first | assumption | omega | rfl | exact B_pos (by omega)) ?_ | refine go_neg (by first | assumption | omega | decide | exact B_not (by omega)) ?_ | refine go_bind (by first | assumption) ?_ | dsimp only)); first | done | (with_reducible rfl) | simp (disch := omega) only [w64] | (show False; done)), by ((with_reducible repeat (first | refine go_pos (by first | assumption | omega | rfl | exact B_pos (by omega)) ?_ | refine go_neg (by first | assumption | omega | decide | exact B_not (by omega)) ?_ | refine go_bind (by first | assumption) ?_ | dsimp only)); first | done | (with_reducible rfl) | simp (disch := omega) only [w64] | (show False; done)), by simp⟩
end Go.Proofs.Ytpppnoliogdkiaa.V
set_option linter.unusedVariables false
set_option linter.unusedSimpArgs false
set_option maxHeartbeats 4000000
set_option maxRecDepth 20000
namespace Go.Proofs.Ytpppnoliogdkiaa.Pure
open Go.RowKit Go.Proofs.Ytpppnoliogdkiaa.D Go.Proofs.Ytpppnoliogdkiaa.P Go.Proofs.Ytpppnoliogdkiaa.V
theorem FnExactFirstSection_pure : ∀ (g0 : List (List Int)) (m1 : Int) (u1 : List Int) (m2 : Int) (u2 : List Int), g0.length ≤ maxLen → (∀ r ∈ g0, r.length ≤ maxLen ∧ ∀ x ∈ r, (Lit.int .i64 x).wf = true) → (Lit.int .i64 m1).wf = true → u1.length ≤ maxLen → (∀ x ∈ u1, (Lit.int .i64 x).wf = true) → (Lit.int .i64 m2).wf = true → u2.length ≤ maxLen → (∀ x ∈ u2, (Lit.int .i64 x).wf = true) → laws_FnExactFirstSection.f g0 m1 u1 m2 u2 = some true := by
  intro g0 m1 u1 m2 u2 hl0 hq0 hw1 hu1 hx1 hw2 hu2 hx2
  have hr0 : ∀ r ∈ g0, r.length ≤ maxLen := fun r h => (hq0 r h).1
  rw [laws_FnExactFirstSection.f_eq]
  obtain ⟨t0, e0, z0⟩ := szGroup g0 1048576 hl0 hr0 (by omega) (by omega)
  rcases z0 with z0 | ⟨ta0, tb0, kl0, kr0⟩
  · ((with_reducible repeat (first | refine go_pos (by first | assumption | omega | rfl | exact B_pos (by omega)) ?_ | refine go_neg (by first | assumption | omega | decide | exact B_not (by omega)) ?_ | refine go_bind (by first | assumption) ?_ | dsimp only)); first | done | (with_reducible rfl) | simp (disch := omega) only [w64] | (show False; done))
  obtain ⟨t1, e1, z1⟩ := szModule m1 u1 t0 hu1 (by omega) (by omega)
  rcases z1 with z1 | ⟨ta1, tb1, ku1⟩
  · ((with_reducible repeat (first | refine go_pos (by first | assumption | omega | rfl | exact B_pos (by omega)) ?_ | refine go_neg (by first | assumption | omega | decide | exact B_not (by omega)) ?_ | refine go_bind (by first | assumption) ?_ | dsimp only)); first | done | (with_reducible rfl) | simp (disch := omega) only [w64] | (show False; done))
  obtain ⟨t2, e2, z2⟩ := szCochain m2 u2 t1 hu2 (by omega) (by omega)
  rcases z2 with z2 | ⟨ta2, tb2, ku2⟩
  · ((with_reducible repeat (first | refine go_pos (by first | assumption | omega | rfl | exact B_pos (by omega)) ?_ | refine go_neg (by first | assumption | omega | decide | exact B_not (by omega)) ?_ | refine go_bind (by first | assumption) ?_ | dsimp only)); first | done | (with_reducible rfl) | simp (disch := omega) only [w64] | (show False; done))
  obtain ⟨R0, c1, hS, hI, rb0⟩ := same_FirstSection g0 m1 u1 m2 u2 hl0 hr0 hu1 hu2
  have eT0 := toGroup g0 kl0 kr0
  have eS0 := same_Group g0 hl0 hr0
  have eN0 := tot_small kl0 kr0
  have eK0 := markGroup g0 (1) (by omega) (by omega) (by omega)
  have eT1 := toModule m1 u1 ku1
  have eS1 := same_Module m1 u1 hu1
  have eK1 := markModule m1 u1 (1 + tot g0) (by omega) (by omega)
  have eT2 := toCochain m2 u2 ku2
  have eS2 := same_Cochain m2 u2 hu2
  have eK2 := markCochain m2 u2 (1 + tot g0 + u1.length) (by omega) (by omega)
  have rS0 := same_Ints R0 (le_maxLen (by omega))
  have rK0 := markS R0 (1) (by omega) (by omega)
  have rH0 := heldS (1) R0.length (by omega) (by omega)
  ((with_reducible repeat (first | refine go_pos (by first | assumption | omega | rfl | exact B_pos (by omega)) ?_ | refine go_neg (by first | assumption | omega | decide | exact B_not (by omega)) ?_ | refine go_bind (by first | assumption) ?_ | dsimp only)); first | done | (with_reducible rfl) | simp (disch := omega) only [w64] | (show False; done))
end Go.Proofs.Ytpppnoliogdkiaa.Pure
namespace Go.Proofs.Ytpppnoliogdkiaa.shut
theorem mayEnter : Try.pinned.checked.prog.mayEnter = true := by kernel_rfl
theorem lifted : (Rows.fnExactBoundingStepsRow.lifted == Try.pinned.checked.prog.liftsFinal) = true := by kernel_rfl
theorem make : (Try.pinned.checked.prog.make == some Rows.fnExactBoundingStepsRow.make) = true := by kernel_rfl
end Go.Proofs.Ytpppnoliogdkiaa.shut
