/- What the proof of the law CrossedClasses stands on, part 9: words, each Go function's Lean function, and that the Go code comes to its answers; no condition. (Packed by wip/myprint/pack.py out of what the kit's printer wrote, its words among it, partly by our patches of it, and out of texts of this session.) -/
import Derived.Sort.LotA
import Derived.Sort.LotB
import Derived.Sort.LotC
import Derived.Sort.LotD3
import Derived.Lib.ItoaNum
import Derived.Test.YtjknpaplgclflaaKCrossedClasses4
import Derived.Test.YtjknpaplgclflaaKCrossedClasses6
import Derived.Test.YtjknpaplgclflaaKCrossedClasses7
set_option linter.unusedVariables false
set_option linter.unusedSimpArgs false
set_option maxHeartbeats 4000000
set_option maxRecDepth 20000
namespace Go.Proofs.Ytjknpaplgclflaa.V
open Go.RowKit Go.Proofs.Ytjknpaplgclflaa.D Go.Proofs.Ytjknpaplgclflaa.P
def Ll (W : Nat) (x y : List Int) : Prop := ∃ j : Nat, j < W ∧ (∀ i : Nat, i < j → rd x (i : Int) = rd y (i : Int)) ∧ rd x (j : Int) < rd y (j : Int)
theorem Ll.irrefl {W : Nat} {x : List Int} : ¬ Ll W x x := fun ⟨j, _, _, h⟩ => by omega
theorem Ll.trans {W : Nat} {x y z : List Int} (h : Ll W x y) (k : Ll W y z) : Ll W x z := by
 obtain ⟨i, i1, i2, i3⟩ := h
 obtain ⟨j, j1, j2, j3⟩ := k
 rcases Nat.lt_trichotomy i j with q | q | q
 ·
  exact ⟨i, i1, fun t ht => (i2 t ht).trans (j2 t (by omega)), by rw [← j2 i q]; exact i3⟩
 ·
  subst q; exact ⟨i, i1, fun t ht => (i2 t ht).trans (j2 t ht), by omega⟩
 ·
  exact ⟨j, j1, fun t ht => (i2 t (by omega)).trans (j2 t ht), by rw [i2 j q]; exact j3⟩
theorem Ll.asymm {W : Nat} {x y : List Int} (h : Ll W x y) : ¬ Ll W y x := fun k => Ll.irrefl (h.trans k)
theorem Ll.tri (W : Nat) (x y : List Int) : Ll W x y ∨ (∀ i : Nat, i < W → rd x (i : Int) = rd y (i : Int)) ∨ Ll W y x := by
 have main : ∀ k, k ≤ W → Ll W x y ∨ (∀ i : Nat, i < k → rd x (i : Int) = rd y (i : Int)) ∨ Ll W y x := by
  intro k
  induction k with
  | zero => exact fun _ => .inr (.inl fun i hi => by omega)
  | succ k ih =>
   intro hk
   rcases ih (by omega) with h | h | h
   ·
    exact .inl h
   ·
    rcases Int.lt_trichotomy (rd x (k : Int)) (rd y (k : Int)) with q | q | q
    ·
     exact .inl ⟨k, by omega, h, q⟩
    ·
     refine .inr (.inl fun i hi => ?_)
     by_cases e : i = k
     ·
      rw [e]; exact q
     ·
      exact h i (by omega)
    ·
     exact .inr (.inr ⟨k, by omega, fun i hi => (h i hi).symm, q⟩)
   ·
    exact .inr (.inr h)
 exact main W (Nat.le_refl _)
theorem eq_of_all {W : Nat} {x y : List Int} (hx : x.length = W) (hy : y.length = W) (h : ∀ i : Nat, i < W → rd x (i : Int) = rd y (i : Int)) : x = y :=
 ext_rd (by omega) fun i i0 i1 => by
  obtain ⟨n, rfl⟩ := Int.eq_ofNat_of_zero_le i0
  exact h n (by omega)
theorem Ll.le_trans {W : Nat} {x y z : List Int} (hx : x.length = W) (hy : y.length = W) (hz : z.length = W) (h : ¬ Ll W y x) (k : ¬ Ll W z y) : ¬ Ll W z x := by
 intro q
 rcases Ll.tri W x y with a | a | a
 ·
  rcases Ll.tri W y z with b | b | b
  ·
   exact Ll.asymm q (a.trans b)
  ·
   have := eq_of_all hy hz b; subst this; exact Ll.asymm q a
  ·
   exact k b
 ·
  have := eq_of_all hx hy a; subst this
  exact k q
 ·
  exact h a
theorem Compare_ {x y : List Int} {W : Nat} (hx : x.length = W) (hy : y.length = W) (hW : W ≤ 1000000) : ∃ c : Int, slices_Compare_int64.f x y = some c ∧ (c < 0 ↔ Ll W x y) ∧ (c = 0 ↔ x = y) := by
 rw [slices_Compare_int64.f_eq]
 have hc : ∀ a b : Int, cmp_Compare_int64.f a b = some (if a < b then -1 else if a > b then 1 else 0) := fun a b => by
  have n1 : cmp_isNaN_int64.f a = some false := by rw [cmp_isNaN_int64.f_eq]; simp
  have n2 : cmp_isNaN_int64.f b = some false := by rw [cmp_isNaN_int64.f_eq]; simp
  rw [cmp_Compare_int64.f_eq, n1, n2]
  by_cases h : a < b
  ·
   simp [h]
  ·
   by_cases h2 : a > b
   ·
    simp [h, h2]
   ·
    simp [h, h2]
 suffices H : ∀ d k : Nat, k + d = W → (∀ i : Nat, i < k → rd x (i : Int) = rd y (i : Int)) → ∃ c : Int, slices_Compare_int64.l0 x y x (x.length : Int) (k : Int) = some c ∧ (c < 0 ↔ Ll W x y) ∧ (c = 0 ↔ x = y) from H W 0 (by omega) fun i hi => by omega
 intro d
 induction d with
 | zero =>
  intro k hk he
  have exy := eq_of_all hx hy fun i hi => he i (by omega)
  refine ⟨0, ?_, ⟨fun h => by omega, fun h => by rw [exy] at h; exact absurd h Ll.irrefl⟩, ⟨fun _ => exy, fun _ => rfl⟩⟩
  rw [slices_Compare_int64.l0_eq]
  ((with_reducible repeat (first | refine go_pos (by first | assumption | omega | rfl | exact B_pos (by omega)) ?_ | refine go_neg (by first | assumption | omega | decide | exact B_not (by omega)) ?_ | refine go_bind (by first | assumption) ?_ | dsimp only)); first | done | (with_reducible rfl) | simp (disch := omega) only [w64] | (show False; done))
 | succ d ih =>
  intro k hk he
  have hck := hc (rd x (k : Int)) (rd y (k : Int))
  rcases Int.lt_trichotomy (rd x (k : Int)) (rd y (k : Int)) with q | q | q
  ·
   rw [if_pos q] at hck
   refine ⟨-1, ?_, ⟨fun _ => ⟨k, by omega, he, q⟩, fun _ => by omega⟩, ⟨fun h => by omega, fun h => by rw [h] at q; omega⟩⟩
   rw [slices_Compare_int64.l0_eq]
   ((with_reducible repeat (first | refine go_pos (by first | assumption | omega | rfl | exact B_pos (by omega)) ?_ | refine go_neg (by first | assumption | omega | decide | exact B_not (by omega)) ?_ | refine go_bind (by first | assumption) ?_ | dsimp only)); first | done | (with_reducible rfl) | simp (disch := omega) only [w64] | (show False; done))
  ·
   rw [if_neg (by omega), if_neg (by omega)] at hck
   obtain ⟨c, c1, c2, c3⟩ := ih (k + 1) (by omega) fun i hi => by
    by_cases e : i = k
    ·
     rw [e]; exact q
    ·
     exact he i (by omega)
   refine ⟨c, ?_, c2, c3⟩
   rw [slices_Compare_int64.l0_eq, wn (j := k) (by omega)]
   (with_reducible repeat (first | refine go_pos (by first | assumption | omega | rfl | exact B_pos (by omega)) ?_ | refine go_neg (by first | assumption | omega | decide | exact B_not (by omega)) ?_ | refine go_bind (by first | assumption) ?_ | dsimp only))
   exact c1
  ·
   rw [if_neg (by omega), if_pos q] at hck
   refine ⟨1, ?_, ⟨fun h => by omega, fun h => absurd (⟨k, by omega, fun i hi => (he i hi).symm, q⟩ : Ll W y x) h.asymm⟩, ⟨fun h => by omega, fun h => by rw [h] at q; omega⟩⟩
   rw [slices_Compare_int64.l0_eq]
   ((with_reducible repeat (first | refine go_pos (by first | assumption | omega | rfl | exact B_pos (by omega)) ?_ | refine go_neg (by first | assumption | omega | decide | exact B_not (by omega)) ?_ | refine go_bind (by first | assumption) ?_ | dsimp only)); first | done | (with_reducible rfl) | simp (disch := omega) only [w64] | (show False; done))
theorem Equal_ (x y : List Int) (hx : x.length ≤ 1000000) : slices_Equal_int64.f x y = some (B (x = y)) := by
 rw [slices_Equal_int64.f_eq]
 by_cases h : (x.length : Int) = (y.length : Int)
 rotate_left
 ·
  rw [B_neg fun e => h (by rw [e])]
  ((with_reducible repeat (first | refine go_pos (by first | assumption | omega | rfl | exact B_pos (by omega)) ?_ | refine go_neg (by first | assumption | omega | decide | exact B_not (by omega)) ?_ | refine go_bind (by first | assumption) ?_ | dsimp only)); first | done | (with_reducible rfl) | simp (disch := omega) only [w64] | (show False; done))
 (with_reducible repeat (first | refine go_pos (by first | assumption | omega | rfl | exact B_pos (by omega)) ?_ | refine go_neg (by first | assumption | omega | decide | exact B_not (by omega)) ?_ | refine go_bind (by first | assumption) ?_ | dsimp only))
 rw [B_congr (show x = y ↔ ∀ i : Int, 0 ≤ i → i < x.length → rd x i = rd y i from ⟨fun e i _ _ => by rw [e], fun e => ext_rd (by omega) e⟩)]
 refine scanT x.length (fun i => slices_Equal_int64.l0 x y (x.length : Int) i) (fun i => rd x i = rd y i) (fun i i0 i1 _ => ?_) (fun _ => by (rw [slices_Equal_int64.l0_eq]); ((with_reducible repeat (first | refine go_pos (by first | assumption | omega | rfl | exact B_pos (by omega)) ?_ | refine go_neg (by first | assumption | omega | decide | exact B_not (by omega)) ?_ | refine go_bind (by first | assumption) ?_ | dsimp only)); first | done | (with_reducible rfl) | simp (disch := omega) only [w64] | (show False; done)))
 refine ⟨fun h => ?_, fun h => ?_⟩ <;> (rw [slices_Equal_int64.l0_eq]) <;> ((with_reducible repeat (first | refine go_pos (by first | assumption | omega | rfl | exact B_pos (by omega)) ?_ | refine go_neg (by first | assumption | omega | decide | exact B_not (by omega)) ?_ | refine go_bind (by first | assumption) ?_ | dsimp only)); first | done | (with_reducible rfl) | simp (disch := omega) only [w64] | (show False; done))
theorem Before_ {x y : List Int} {W : Nat} (hx : x.length = W) (hy : y.length = W) (hW : W ≤ 1000000) : spec_l01Before.f x y = some (B (Ll W x y)) := by
 rw [spec_l01Before.f_eq, if_pos (by omega)]
 suffices H : ∀ d k : Nat, k + d = W → (∀ i : Nat, i < k → rd x (i : Int) = rd y (i : Int)) → spec_l01Before.l0 x y (k : Int) = some (B (Ll W x y)) from H W 0 (by omega) fun i hi => by omega
 intro d
 induction d with
 | zero =>
  intro k hk he
  have exy := eq_of_all hx hy fun i hi => he i (by omega)
  rw [B_neg (by rw [exy]; exact Ll.irrefl), spec_l01Before.l0_eq]
  ((with_reducible repeat (first | refine go_pos (by first | assumption | omega | rfl | exact B_pos (by omega)) ?_ | refine go_neg (by first | assumption | omega | decide | exact B_not (by omega)) ?_ | refine go_bind (by first | assumption) ?_ | dsimp only)); first | done | (with_reducible rfl) | simp (disch := omega) only [w64] | (show False; done))
 | succ d ih =>
  intro k hk he
  by_cases q : rd x (k : Int) = rd y (k : Int)
  ·
   have := ih (k + 1) (by omega) fun i hi => by
    by_cases e : i = k
    ·
     rw [e]; exact q
    ·
     exact he i (by omega)
   rw [spec_l01Before.l0_eq, wn (j := k) (by omega)]
   (with_reducible repeat (first | refine go_pos (by first | assumption | omega | rfl | exact B_pos (by omega)) ?_ | refine go_neg (by first | assumption | omega | decide | exact B_not (by omega)) ?_ | refine go_bind (by first | assumption) ?_ | dsimp only))
   exact this
  ·
   have e : B (Ll W x y) = decide (rd x (k : Int) < rd y (k : Int)) := by
    by_cases q2 : rd x (k : Int) < rd y (k : Int)
    ·
     rw [B_pos ⟨k, by omega, he, q2⟩]; simp [q2]
    ·
     rw [B_neg (Ll.asymm ⟨k, by omega, fun i hi => (he i hi).symm, by omega⟩)]; simp [q2]
   rw [e, spec_l01Before.l0_eq]
   ((with_reducible repeat (first | refine go_pos (by first | assumption | omega | rfl | exact B_pos (by omega)) ?_ | refine go_neg (by first | assumption | omega | decide | exact B_not (by omega)) ?_ | refine go_bind (by first | assumption) ?_ | dsimp only)); first | done | (with_reducible rfl) | simp (disch := omega) only [w64] | (show False; done))
end Go.Proofs.Ytjknpaplgclflaa.V
namespace Go.Proofs.Ytjknpaplgclflaa.V
open Go Go.RowKit Go.Proofs.Ytjknpaplgclflaa.D Go.Proofs.Ytjknpaplgclflaa.P
structure Ord (H : Value → Prop) (L : Value → Value → Prop) (C : Value → Value → Option Int) : Prop where
 asy : ∀ x y, L x y → ¬ L y x
 tr : ∀ x y z, H x → H y → H z → ¬ L y x → ¬ L z y → ¬ L z x
 cmp : ∀ x y, H x → H y → ∃ c : Int, C x y = some c ∧ (c < 0 ↔ L x y)
theorem rdV_mid (P : List Value) (x : Value) (Q : List Value) : Ty.rd .raw (P ++ x :: Q) (P.length : Int) = x := by
 show (P ++ x :: Q).getD ((P.length : Int)).toNat _ = x
 simp [List.getD_eq_getElem?_getD]
theorem vals_snoc {P : List Value} {n : Nat} (h : P.length = n + 1) : ∃ P' p, P = P' ++ [p] ∧ P'.length = n := by
 have hne : P ≠ [] := fun e => by rw [e] at h; simp at h
 exact ⟨P.dropLast, P.getLast hne, (List.dropLast_concat_getLast hne).symm, by rw [List.length_dropLast]; omega⟩
theorem ins_one {H : Value → Prop} {L : Value → Value → Prop} {C : Value → Value → Option Int} (hC : Ord H L C) {N : Nat} (hN : N ≤ 1000000) :
  ∀ (n : Nat) (P Q R : List Value) (x : Value), P.length = n → (∀ r ∈ P ++ x :: (Q ++ R), H r) → (P ++ Q).Pairwise (fun r s => ¬ L s r) → (∀ q ∈ Q, L x q) → (P ++ x :: (Q ++ R)).length = N →
  ∃ S, _root_.Go.Proofs.Ytjknpaplgclflaa.R.slices_insertionSortCmpFunc_int64.l1 0 (N : Int) C ((P.length + Q.length : Nat) : Int) (n : Int) (P ++ x :: (Q ++ R)) = _root_.Go.Proofs.Ytjknpaplgclflaa.R.slices_insertionSortCmpFunc_int64.l0 0 (N : Int) C ((P.length + Q.length + 1 : Nat) : Int) (S ++ R) ∧ S.Pairwise (fun r s => ¬ L s r) ∧ S.Perm (P ++ x :: Q) := by
 intro n
 induction n with
 | zero =>
  intro P Q R x hP hr hs hq hN'
  obtain rfl := List.eq_nil_of_length_eq_zero hP
  refine ⟨x :: Q, ?_, ?_, List.Perm.refl _⟩
  ·
   simp only [List.nil_append, List.length_nil, Nat.zero_add] at hN' ⊢
   have : Q.length + 1 ≤ N := by simp only [List.length_cons, List.length_append] at hN'; omega
   rw [_root_.Go.Proofs.Ytjknpaplgclflaa.R.slices_insertionSortCmpFunc_int64.l1_eq, wn (j := Q.length) (by omega)]
   (with_reducible repeat (first | refine go_pos (by first | assumption | omega | rfl | exact B_pos (by omega)) ?_ | refine go_neg (by first | assumption | omega | decide | exact B_not (by omega)) ?_ | refine go_bind (by first | assumption) ?_ | dsimp only))
   rfl
  ·
   rw [List.pairwise_cons]
   exact ⟨fun q hq' => hC.asy _ _ (hq q hq'), by simpa using hs⟩
 | succ n ih =>
  intro P Q R x hP hr hs hq hN'
  obtain ⟨P', p, rfl, hP'⟩ := vals_snoc hP
  have lN : P'.length + 1 + 1 + Q.length + R.length = N := by
   have := hN'
   simp only [List.length_cons, List.length_append, List.length_nil] at this
   omega
  have hxl : H x := hr x (by simp)
  have hpl : H p := hr p (by simp)
  obtain ⟨c, c1, c2⟩ := hC.cmp x p hxl hpl
  have e0 : (P' ++ [p]) ++ x :: (Q ++ R) = P' ++ p :: (x :: (Q ++ R)) := by simp
  have r1 : Ty.rd .raw ((P' ++ [p]) ++ x :: (Q ++ R)) ((n + 1 : Nat) : Int) = x := by rw [← hP]; exact rdV_mid _ _ _
  have r0 : Ty.rd .raw ((P' ++ [p]) ++ x :: (Q ++ R)) (n : Int) = p := by rw [e0, ← hP']; exact rdV_mid _ _ _
  have w1 : wrapI (((n + 1 : Nat) : Int) - 1) = (n : Int) := by rw [w64 (by omega) (by omega)]; omega
  have sw : (((P' ++ [p]) ++ x :: (Q ++ R)).set (n + 1) p).set n x = P' ++ x :: ((p :: Q) ++ R) := by
   rw [List.set_append, if_neg (by rw [List.length_append, List.length_singleton]; omega), List.length_append, List.length_singleton, show n + 1 - (P'.length + 1) = 0 by omega, List.set_cons_zero, show (P' ++ [p]) ++ p :: (Q ++ R) = P' ++ p :: (p :: (Q ++ R)) by simp, List.set_append, if_neg (by omega), show n - P'.length = 0 by omega, List.set_cons_zero]
   rfl
  have sl : (((P' ++ [p]) ++ x :: (Q ++ R)).set (n + 1) p).length = N := by rw [List.length_set]; exact hN'
  have tn : (((n + 1 : Nat) : Int)).toNat = n + 1 := by omega
  by_cases hc : c < 0
  ·
   have hr2 : ∀ r ∈ P' ++ x :: ((p :: Q) ++ R), H r := fun r hr' => hr r (by simp only [List.mem_append, List.mem_cons, List.mem_singleton] at hr' ⊢; rcases hr' with h | h | (h | h) | h <;> simp [h])
   obtain ⟨S, h1, h2, h3⟩ := ih P' (p :: Q) R x hP' hr2 (by rw [show P' ++ p :: Q = P' ++ [p] ++ Q by simp]; exact hs) (fun q hq' => by
    rcases List.mem_cons.1 hq' with rfl | hq'
    ·
     exact c2.1 hc
    ·
     exact hq q hq') (by rw [← sw, List.length_set, List.length_set]; exact hN')
   refine ⟨S, ?_, h2, h3.trans ?_⟩
   ·
    rw [show (P' ++ [p]).length + Q.length = P'.length + (p :: Q).length by simp only [List.length_append, List.length_cons, List.length_nil]; omega, ← h1, _root_.Go.Proofs.Ytjknpaplgclflaa.R.slices_insertionSortCmpFunc_int64.l1_eq, w1, tn, Int.toNat_natCast, r1, r0]
    (with_reducible repeat (first | refine go_pos (by first | assumption | omega | rfl | exact B_pos (by omega)) ?_ | refine go_neg (by first | assumption | omega | decide | exact B_not (by omega)) ?_ | refine go_bind (by first | assumption) ?_ | dsimp only))
    rw [sw]
   ·
    rw [show (P' ++ [p]) ++ x :: Q = P' ++ p :: x :: Q by simp]
    exact List.Perm.append_left _ (List.Perm.swap ..)
  ·
   refine ⟨(P' ++ [p]) ++ x :: Q, ?_, ?_, List.Perm.refl _⟩
   ·
    rw [_root_.Go.Proofs.Ytjknpaplgclflaa.R.slices_insertionSortCmpFunc_int64.l1_eq, w1, r1, r0, wn (j := (P' ++ [p]).length + Q.length) (by simp only [List.length_append, List.length_cons, List.length_nil]; omega)]
    (with_reducible repeat (first | refine go_pos (by first | assumption | omega | rfl | exact B_pos (by omega)) ?_ | refine go_neg (by first | assumption | omega | decide | exact B_not (by omega)) ?_ | refine go_bind (by first | assumption) ?_ | dsimp only))
    rw [show ((P' ++ [p]) ++ x :: Q) ++ R = (P' ++ [p]) ++ x :: (Q ++ R) by simp]
   ·
    have hnp : ¬ L x p := fun k => hc (c2.2 k)
    rw [List.pairwise_append] at hs ⊢
    obtain ⟨s1, s2, s3⟩ := hs
    refine ⟨s1, List.pairwise_cons.2 ⟨fun q hq' => hC.asy _ _ (hq q hq'), s2⟩, fun r hr' s hs' => ?_⟩
    rcases List.mem_cons.1 hs' with rfl | hs'
    ·
     rcases List.mem_append.1 hr' with h | h
     ·
      rw [List.pairwise_append] at s1
      have := s1.2.2 r h p (List.mem_singleton.2 rfl)
      exact hC.tr _ _ _ (hr r (by simp [h])) hpl hxl this hnp
     ·
      rw [List.mem_singleton.1 h]; exact hnp
    ·
     exact s3 r hr' s hs'
theorem isort_ {H : Value → Prop} {L : Value → Value → Prop} {C : Value → Value → Option Int} (hC : Ord H L C) {xs : List Value} (hN : xs.length ≤ 1000000) (hr : ∀ r ∈ xs, H r) :
  ∃ S, _root_.Go.Proofs.Ytjknpaplgclflaa.R.slices_insertionSortCmpFunc_int64.f xs 0 (xs.length : Int) C = some S ∧ S.Pairwise (fun r s => ¬ L s r) ∧ S.Perm xs := by
 have main : ∀ (n : Nat) (S R : List Value), R.length = n → S.length + n = xs.length → 0 < S.length → S.Pairwise (fun r s => ¬ L s r) → (∀ r ∈ S ++ R, H r) →
   ∃ S', _root_.Go.Proofs.Ytjknpaplgclflaa.R.slices_insertionSortCmpFunc_int64.l0 0 (xs.length : Int) C (S.length : Int) (S ++ R) = some S' ∧ S'.Pairwise (fun r s => ¬ L s r) ∧ S'.Perm (S ++ R) := by
  intro n
  induction n with
  | zero =>
   intro S R hR hl _ hs hr
   obtain rfl := List.eq_nil_of_length_eq_zero hR
   rw [List.append_nil]
   refine ⟨S, ?_, hs, List.Perm.refl _⟩
   rw [_root_.Go.Proofs.Ytjknpaplgclflaa.R.slices_insertionSortCmpFunc_int64.l0_eq]
   ((with_reducible repeat (first | refine go_pos (by first | assumption | omega | rfl | exact B_pos (by omega)) ?_ | refine go_neg (by first | assumption | omega | decide | exact B_not (by omega)) ?_ | refine go_bind (by first | assumption) ?_ | dsimp only)); first | done | (with_reducible rfl) | simp (disch := omega) only [w64] | (show False; done))
  | succ n ih =>
   intro S R hR hl h0 hs hr
   cases R with
   | nil => simp at hR
   | cons x R =>
    obtain ⟨S1, h1, h2, h3⟩ := ins_one hC (N := xs.length) hN S.length S [] R x rfl (by simpa using hr) (by simpa using hs) (fun q hq => by cases hq) (by simp only [List.nil_append, List.length_append, List.length_cons] at hR ⊢; omega)
    have l1 : S1.length = S.length + 1 := by rw [h3.length_eq]; simp
    obtain ⟨S', k1, k2, k3⟩ := ih S1 R (by simpa using hR) (by omega) (by omega) h2 (fun r hr' => by
     rcases List.mem_append.1 hr' with h | h
     ·
      exact hr r (by have := h3.mem_iff.1 h; simp at this ⊢; rcases this with h | h <;> simp [h])
     ·
      exact hr r (by simp [h]))
    refine ⟨S', ?_, k2, k3.trans ?_⟩
    ·
     rw [_root_.Go.Proofs.Ytjknpaplgclflaa.R.slices_insertionSortCmpFunc_int64.l0_eq]
     simp only [List.nil_append, List.length_nil, Nat.add_zero] at h1
     have : S.length < xs.length := by omega
     (with_reducible repeat (first | refine go_pos (by first | assumption | omega | rfl | exact B_pos (by omega)) ?_ | refine go_neg (by first | assumption | omega | decide | exact B_not (by omega)) ?_ | refine go_bind (by first | assumption) ?_ | dsimp only))
     rw [h1, ← l1]
     exact k1
    ·
     have := h3.append_right R
     simpa using this
 rw [_root_.Go.Proofs.Ytjknpaplgclflaa.R.slices_insertionSortCmpFunc_int64.f_eq, show wrapI (0 + 1) = 1 from w64 (by omega) (by omega)]
 cases xs with
 | nil =>
  refine ⟨[], ?_, List.Pairwise.nil, List.Perm.refl _⟩
  rw [_root_.Go.Proofs.Ytjknpaplgclflaa.R.slices_insertionSortCmpFunc_int64.l0_eq]
  ((with_reducible repeat (first | refine go_pos (by first | assumption | omega | rfl | exact B_pos (by omega)) ?_ | refine go_neg (by first | assumption | omega | decide | exact B_not (by omega)) ?_ | refine go_bind (by first | assumption) ?_ | dsimp only)); first | done | (with_reducible rfl) | simp (disch := omega) only [w64] | (show False; done))
 | cons x xs =>
  have := main xs.length [x] xs rfl (by simp; omega) (by simp) (List.pairwise_singleton _ _) (by simpa using hr)
  simpa using this
theorem sort12 {H : Value → Prop} {L : Value → Value → Prop} {C : Value → Value → Option Int} (hC : Ord H L C) {xs : List Value} (hN : xs.length ≤ 12) (hr : ∀ r ∈ xs, H r) :
  ∃ S, _root_.Go.Proofs.Ytjknpaplgclflaa.R.slices_SortFunc_int64.f xs C = some S ∧ S.Pairwise (fun r s => ¬ L s r) ∧ S.Perm xs := by
 obtain ⟨S, h1, h2, h3⟩ := isort_ hC (by omega) hr
 refine ⟨S, ?_, h2, h3⟩
 have hb : ∃ t, _root_.Go.Proofs.Ytjknpaplgclflaa.R.bits_Len.f (wr .u64 (xs.length : Int)) = some t := by
  have e : wr .u64 (xs.length : Int) = (xs.length : Int) := by
   show hid _ = _
   rw [hid_eq]
   simp [IntKind.wrap, IntKind.bits, IntKind.signed]
   omega
  rw [e]
  unfold _root_.Go.Proofs.Ytjknpaplgclflaa.R.bits_Len.f
  rw [if_pos (by omega)]
  exact ⟨_, rfl⟩
 obtain ⟨t, ht⟩ := hb
 have w : wrapI ((xs.length : Int) - 0) = (xs.length : Int) := by rw [w64 (by omega) (by omega)]; omega
 have hCC : (fun z0 z1 => (C z0 z1).map fun z => z) = C := by funext a b; cases C a b <;> rfl
 rw [_root_.Go.Proofs.Ytjknpaplgclflaa.R.slices_SortFunc_int64.f_eq, ht, Option.bind_some, hCC, fuel_eq, _root_.Go.Proofs.Ytjknpaplgclflaa.R.slices_pdqsortCmpFunc_int64.f_eq, _root_.Go.Proofs.Ytjknpaplgclflaa.R.slices_pdqsortCmpFunc_int64.l0_eq, w, hCC, if_pos (by omega), h1]
 rfl
end Go.Proofs.Ytjknpaplgclflaa.V
namespace Go.Proofs.Ytjknpaplgclflaa.V
open Go Go.RowKit Go.Proofs.Ytjknpaplgclflaa.D Go.Proofs.Ytjknpaplgclflaa.P
theorem rdR {xs : List Value} (i : Nat) : Ty.rd .raw xs (i : Int) = hd xs i := by
 show xs.getD ((i : Int)).toNat _ = _
 rw [Int.toNat_natCast]
 rfl
noncomputable def cix (E : Nat → Prop) : Nat → List Nat
 | 0 => []
 | n + 1 => ite_ (0 < n ∧ E n) (cix E n) (cix E n ++ [n])
theorem cix_pos {E : Nat → Prop} {n : Nat} (h0 : 0 < n) (h : E n) : cix E (n + 1) = cix E n := by
 conv => lhs; unfold cix
 rw [ite_pos ⟨h0, h⟩]
theorem cix_neg {E : Nat → Prop} {n : Nat} (h : ¬ (0 < n ∧ E n)) : cix E (n + 1) = cix E n ++ [n] := by
 conv => lhs; unfold cix
 rw [ite_neg h]
theorem cix_len (E : Nat → Prop) : ∀ n, (cix E n).length ≤ n ∧ (0 < n → 0 < (cix E n).length) := by
 intro n
 induction n with
 | zero => simp [cix]
 | succ n ih =>
  by_cases h : 0 < n ∧ E n
  ·
   rw [cix_pos h.1 h.2]; exact ⟨by omega, fun _ => ih.2 h.1⟩
  ·
   rw [cix_neg h, List.length_append, List.length_singleton]; exact ⟨by omega, fun _ => by omega⟩
theorem cix_lt (E : Nat → Prop) : ∀ n, ∀ i ∈ cix E n, i < n := by
 intro n
 induction n with
 | zero => simp [cix]
 | succ n ih =>
  intro i hi
  by_cases h : 0 < n ∧ E n
  ·
   rw [cix_pos h.1 h.2] at hi; have := ih i hi; omega
  ·
   rw [cix_neg h] at hi
   rcases List.mem_append.1 hi with hi | hi
   ·
    have := ih i hi; omega
   ·
    rw [List.mem_singleton.1 hi]; omega
theorem cix_nodup (E : Nat → Prop) : ∀ n, (cix E n).Nodup := by
 intro n
 induction n with
 | zero => simp [cix]
 | succ n ih =>
  by_cases h : 0 < n ∧ E n
  ·
   rw [cix_pos h.1 h.2]; exact ih
  ·
   rw [cix_neg h, List.nodup_append]
   refine ⟨ih, by simp, fun a ha b hb => ?_⟩
   rw [List.mem_singleton.1 hb]
   have := cix_lt E n a ha
   omega
theorem hd_take {xs : List Value} {m : Nat} (h : m < xs.length) : xs.take (m + 1) = xs.take m ++ [hd xs m] := by
 rw [List.take_add_one, hd_get h]
 rfl
theorem hd_set_ne {xs : List Value} {i j : Nat} {v : Value} (h : i ≠ j) : hd (xs.set i v) j = hd xs j := by
 unfold hd
 rw [List.getD_eq_getElem?_getD, List.getElem?_set_ne h, ← List.getD_eq_getElem?_getD]
theorem compactR {Q : Value → Value → Option Bool} {xs : List Value} {E : Nat → Prop} (hQ : ∀ i, 0 < i → i < xs.length → Q (hd xs i) (hd xs (i - 1)) = some (B (E i))) (hN : xs.length ≤ 1000000) : _root_.Go.Proofs.Ytjknpaplgclflaa.R.slices_CompactFunc_int64.f xs Q = some ((cix E xs.length).map (hd xs)) := by
 have inner : ∀ (n b k2 : Nat) (r : List Value), b + k2 + n = xs.length → 0 < b → 0 < k2 → r.length = xs.length → (cix E (b + k2)).length ≤ b + k2 - 1 → r.take (cix E (b + k2)).length = (cix E (b + k2)).map (hd xs) → (∀ i : Nat, b + k2 - 1 ≤ i → i < xs.length → hd r i = hd xs i) →
   _root_.Go.Proofs.Ytjknpaplgclflaa.R.slices_CompactFunc_int64.l1 Q (((cix E (b + k2)).length : Nat) : Int) b (k2 : Int) r = some ((cix E xs.length).map (hd xs)) := by
  intro n
  induction n with
  | zero =>
   intro b k2 r hb b0 k0 hr hc ht hs
   have e : b + k2 = xs.length := by omega
   have ek : ((r.length - b : Nat) : Int) = (k2 : Int) := by omega
   have tl : (r.take (cix E (b + k2)).length ++ List.replicate (r.length - (cix E (b + k2)).length) (Value.slice none 0 0)).length = r.length := by
    rw [List.length_append, List.length_take, List.length_replicate]; omega
   rw [_root_.Go.Proofs.Ytjknpaplgclflaa.R.slices_CompactFunc_int64.l1_eq, Int.toNat_natCast]
   (with_reducible repeat (first | refine go_pos (by first | assumption | omega | rfl | exact B_pos (by omega)) ?_ | refine go_neg (by first | assumption | omega | decide | exact B_not (by omega)) ?_ | refine go_bind (by first | assumption) ?_ | dsimp only))
   rw [List.take_append_of_le_length (by rw [List.length_take]; omega), List.take_take, Nat.min_self, ht, e]
  | succ n ih =>
   intro b k2 r hb b0 k0 hr hc ht hs
   have w1 : wrapI ((k2 : Int) - 1) = ((k2 - 1 : Nat) : Int) := by rw [w64 (by omega) (by omega)]; omega
   have e1 : (b : Int) + (k2 : Int) = ((b + k2 : Nat) : Int) := by omega
   have e2 : (b : Int) + ((k2 - 1 : Nat) : Int) = ((b + k2 - 1 : Nat) : Int) := by omega
   have r1 : Ty.rd .raw r ((b + k2 : Nat) : Int) = hd xs (b + k2) := (rdR _).trans (hs (b + k2) (by omega) (by omega))
   have r2 : Ty.rd .raw r ((b + k2 - 1 : Nat) : Int) = hd xs (b + k2 - 1) := (rdR _).trans (hs (b + k2 - 1) (by omega) (by omega))
   have hq := hQ (b + k2) (by omega) (by omega)
   have cl := cix_len E (b + k2)
   have kl : ((r.length - b : Nat) : Int) = ((xs.length - b : Nat) : Int) := by rw [hr]
   by_cases h : E (b + k2)
   ·
    rw [B_pos h] at hq
    have ec : cix E (b + (k2 + 1)) = cix E (b + k2) := cix_pos (n := b + k2) (by omega) h
    have := ih b (k2 + 1) r (by omega) b0 (by omega) hr (by rw [ec]; omega) (by rw [ec]; exact ht) (fun i hi => hs i (by omega))
    rw [ec] at this
    rw [_root_.Go.Proofs.Ytjknpaplgclflaa.R.slices_CompactFunc_int64.l1_eq, w1, wn (j := k2) (by omega), e1, e2, r1, r2]
    (with_reducible repeat (first | refine go_pos (by first | assumption | omega | rfl | exact B_pos (by omega)) ?_ | refine go_neg (by first | assumption | omega | decide | exact B_not (by omega)) ?_ | refine go_bind (by first | assumption) ?_ | dsimp only))
    exact this
   ·
    rw [B_neg h] at hq
    have ec : cix E (b + (k2 + 1)) = cix E (b + k2) ++ [b + k2] := cix_neg (n := b + k2) fun q => h q.2
    have el : (cix E (b + (k2 + 1))).length = (cix E (b + k2)).length + 1 := by rw [ec, List.length_append, List.length_singleton]
    have := ih b (k2 + 1) (r.set (cix E (b + k2)).length (hd xs (b + k2))) (by omega) b0 (by omega) (by rw [List.length_set]; exact hr) (by omega) (by
     rw [el, List.take_succ_eq_append_getElem (by rw [List.length_set]; omega), List.take_set_of_le (Nat.le_refl _), ht, ec]
     simp) (fun i hi hi2 => by rw [hd_set_ne (by omega)]; exact hs i (by omega) hi2)
    rw [el] at this
    rw [_root_.Go.Proofs.Ytjknpaplgclflaa.R.slices_CompactFunc_int64.l1_eq, w1, wn (j := k2) (by omega), wn (j := (cix E (b + k2)).length) (by omega), e1, e2, r1, r2, Int.toNat_natCast]
    (with_reducible repeat (first | refine go_pos (by first | assumption | omega | rfl | exact B_pos (by omega)) ?_ | refine go_neg (by first | assumption | omega | decide | exact B_not (by omega)) ?_ | refine go_bind (by first | assumption) ?_ | dsimp only))
    exact this
 have outer : ∀ (n k : Nat), k + n = xs.length → 0 < k → cix E k = List.range k → _root_.Go.Proofs.Ytjknpaplgclflaa.R.slices_CompactFunc_int64.l0 Q (k : Int) xs = some ((cix E xs.length).map (hd xs)) := by
  have hall : ∀ k, k ≤ xs.length → (List.range k).map (hd xs) = xs.take k := by
   intro k
   induction k with
   | zero => intro _; simp
   | succ k ih => intro hk; rw [List.range_succ, List.map_append, ih (by omega), hd_take (by omega)]; rfl
  intro n
  induction n with
  | zero =>
   intro k hk k0 hc
   have hx : (cix E xs.length).map (hd xs) = xs := by
    have : k = xs.length := by omega
    subst this
    rw [hc, hall _ (Nat.le_refl _), List.take_length]
   rw [hx, _root_.Go.Proofs.Ytjknpaplgclflaa.R.slices_CompactFunc_int64.l0_eq]
   ((with_reducible repeat (first | refine go_pos (by first | assumption | omega | rfl | exact B_pos (by omega)) ?_ | refine go_neg (by first | assumption | omega | decide | exact B_not (by omega)) ?_ | refine go_bind (by first | assumption) ?_ | dsimp only)); first | done | (with_reducible rfl) | simp (disch := omega) only [w64] | (show False; done))
  | succ n ih =>
   intro k hk k0 hc
   have w1 : wrapI ((k : Int) - 1) = ((k - 1 : Nat) : Int) := by rw [w64 (by omega) (by omega)]; omega
   have hq := hQ k k0 (by omega)
   have r1 : Ty.rd .raw xs (k : Int) = hd xs k := rdR _
   have r2 : Ty.rd .raw xs ((k - 1 : Nat) : Int) = hd xs (k - 1) := rdR _
   by_cases h : E k
   ·
    rw [B_pos h] at hq
    have ec : cix E (k + 1) = cix E k := cix_pos k0 h
    have hlk : (cix E (k + 1)).length = k := by rw [ec, hc, List.length_range]
    have := inner n k 1 xs (by omega) k0 (by omega) rfl (by omega) (by rw [hlk, ec, hc, hall k (by omega)]) (fun i _ _ => rfl)
    rw [hlk] at this
    rw [_root_.Go.Proofs.Ytjknpaplgclflaa.R.slices_CompactFunc_int64.l0_eq, w1, r1, r2]
    (with_reducible repeat (first | refine go_pos (by first | assumption | omega | rfl | exact B_pos (by omega)) ?_ | refine go_neg (by first | assumption | omega | decide | exact B_not (by omega)) ?_ | refine go_bind (by first | assumption) ?_ | dsimp only))
    exact this
   ·
    rw [B_neg h] at hq
    have ec : cix E (k + 1) = cix E k ++ [k] := cix_neg fun q => h q.2
    have := ih (k + 1) (by omega) (by omega) (by rw [ec, hc, List.range_succ])
    rw [_root_.Go.Proofs.Ytjknpaplgclflaa.R.slices_CompactFunc_int64.l0_eq, w1, wn (j := k) (by omega), r1, r2]
    (with_reducible repeat (first | refine go_pos (by first | assumption | omega | rfl | exact B_pos (by omega)) ?_ | refine go_neg (by first | assumption | omega | decide | exact B_not (by omega)) ?_ | refine go_bind (by first | assumption) ?_ | dsimp only))
    exact this
 have c1 : cix E 1 = [0] := cix_neg (n := 0) fun q => absurd q.1 (Nat.lt_irrefl 0)
 rw [_root_.Go.Proofs.Ytjknpaplgclflaa.R.slices_CompactFunc_int64.f_eq]
 by_cases h2 : (xs.length : Int) < 2
 ·
  rw [if_pos h2]
  congr 1
  match xs, h2 with
  | [], _ => rfl
  | [x], _ =>
   show [x] = (cix E 1).map (hd [x])
   rw [c1]
   rfl
  | x :: y :: xs, h2 => simp only [List.length_cons] at h2; omega
 ·
  rw [if_neg h2]
  exact outer (xs.length - 1) 1 (by omega) (by omega) c1
theorem perm_sel {hs S : List Value} (h : S.Perm hs) : ∃ sel : List Nat, sel.Perm (List.range hs.length) ∧ S = sel.map (hd hs) := by
 have all : hs = (List.range hs.length).map (hd hs) := by
  apply List.ext_getElem?
  intro i
  by_cases hi : i < hs.length
  ·
   rw [List.getElem?_map, List.getElem?_range hi, hd_get hi]; rfl
  ·
   rw [List.getElem?_eq_none (by omega), List.getElem?_eq_none (by simp; omega)]
 have main : ∀ {A B : List Value}, A.Perm B → ∀ idx : List Nat, B = idx.map (hd hs) → ∃ sel : List Nat, sel.Perm idx ∧ A = sel.map (hd hs) := by
  intro A B hp
  induction hp with
  | nil => intro idx hi; exact ⟨idx, List.Perm.refl _, hi⟩
  | cons x hp ih =>
   intro idx hi
   cases idx with
   | nil => cases hi
   | cons i idx =>
    rw [List.map_cons] at hi
    injection hi with h1 h2
    obtain ⟨sel, s1, s2⟩ := ih idx h2
    exact ⟨i :: sel, s1.cons i, by rw [List.map_cons, h1, s2]⟩
  | swap x y l =>
   intro idx hi
   match idx, hi with
   | i :: j :: idx, hi =>
    rw [List.map_cons, List.map_cons] at hi
    injection hi with h1 h2
    injection h2 with h2 h3
    exact ⟨j :: i :: idx, List.Perm.swap .., by rw [List.map_cons, List.map_cons, h1, h2, h3]⟩
  | trans _ _ ih1 ih2 =>
   intro idx hi
   obtain ⟨s, s1, s2⟩ := ih2 idx hi
   obtain ⟨s', t1, t2⟩ := ih1 s s2
   exact ⟨s', t1.trans s1, t2⟩
 exact main h _ all
theorem sorted_uniq {W : Nat} : ∀ {A B : List (List Int)}, A.Perm B → (∀ r ∈ A, r.length = W) → A.Pairwise (fun r s => ¬ Ll W s r) → B.Pairwise (fun r s => ¬ Ll W s r) → A = B
 | [], B, hp, _, _, _ => (List.nil_perm.1 hp).symm
 | a :: A, [], hp, _, _, _ => by have := hp.length_eq; simp at this
 | a :: A, b :: B, hp, hW, hA, hB => by
  rw [List.pairwise_cons] at hA hB
  have ha : a ∈ b :: B := hp.mem_iff.1 List.mem_cons_self
  have hb : b ∈ a :: A := hp.mem_iff.2 List.mem_cons_self
  have hlb : b.length = W := hW b hb
  have hla : a.length = W := hW a List.mem_cons_self
  have e : a = b := by
   rcases Ll.tri W a b with h | h | h
   ·
    rcases List.mem_cons.1 ha with q | q
    ·
     exact q
    ·
     exact absurd h (hB.1 a q)
   ·
    exact eq_of_all hla hlb h
   ·
    rcases List.mem_cons.1 hb with q | q
    ·
     exact q.symm
    ·
     exact absurd h (hA.1 b q)
  subst e
  rw [sorted_uniq (List.Perm.cons_inv hp) (fun r hr => hW r (List.mem_cons_of_mem _ hr)) hA.2 hB.2]
def Lv (xs : List (List Int)) (hs : List Value) (W : Nat) (u v : Value) : Prop := ∃ i j, i < xs.length ∧ j < xs.length ∧ u = hd hs i ∧ v = hd hs j ∧ Ll W (ct xs i) (ct xs j)
theorem ord_of {W : Nat} {xs : List (List Int)} (hr : ∀ r ∈ xs, r.length = W) {C : List Int → List Int → Option Int} (hC : ∀ x y : List Int, x.length = W → y.length = W → ∃ c : Int, C x y = some c ∧ (c < 0 ↔ Ll W x y)) {hs : List Value} {c' : Value → Value → Option Int}
  (hc : ∀ i j, i < xs.length → j < xs.length → c' (hd hs i) (hd hs j) = C (ct xs i) (ct xs j)) : Ord (fun v => ∃ i, i < xs.length ∧ v = hd hs i) (Lv xs hs W) c' := by
 have hW : ∀ i, i < xs.length → (ct xs i).length = W := fun i hi => hr _ (List.mem_of_getElem? (ct_get hi))
 have key : ∀ i j, i < xs.length → j < xs.length → (Lv xs hs W (hd hs i) (hd hs j) ↔ Ll W (ct xs i) (ct xs j)) := fun i j hi hj => by
  refine ⟨fun ⟨i', j', hi', hj', e1, e2, h⟩ => ?_, fun h => ⟨i, j, hi, hj, rfl, rfl, h⟩⟩
  obtain ⟨c, c1, c2⟩ := hC _ _ (hW i hi) (hW j hj)
  obtain ⟨d, d1, d2⟩ := hC _ _ (hW i' hi') (hW j' hj')
  have := hc i j hi hj
  rw [e1, e2, hc i' j' hi' hj', d1, c1] at this
  cases this
  exact c2.1 (d2.2 h)
 refine ⟨?_, ?_, ?_⟩
 ·
  rintro x y ⟨i, j, hi, hj, rfl, rfl, h⟩ k
  exact h.asymm ((key j i hj hi).1 k)
 ·
  rintro x y z ⟨i, hi, rfl⟩ ⟨j, hj, rfl⟩ ⟨k, hk, rfl⟩ h1 h2
  rw [key j i hj hi] at h1
  rw [key k j hk hj] at h2
  rw [key k i hk hi]
  exact Ll.le_trans (hW i hi) (hW j hj) (hW k hk) h1 h2
 ·
  rintro x y ⟨i, hi, rfl⟩ ⟨j, hj, rfl⟩
  obtain ⟨c, c1, c2⟩ := hC _ _ (hW i hi) (hW j hj)
  exact ⟨c, (hc i j hi hj).trans c1, c2.trans (key i j hi hj).symm⟩
theorem sort_good {f : List Value → (Value → Value → Option Int) → Option (List Value)} {W : Nat} {xs : List (List Int)} (hr : ∀ r ∈ xs, r.length = W) {C : List Int → List Int → Option Int} (hC : ∀ x y : List Int, x.length = W → y.length = W → ∃ c : Int, C x y = some c ∧ (c < 0 ↔ Ll W x y))
  (hf : ∀ (H : Value → Prop) (L : Value → Value → Prop) (c' : Value → Value → Option Int) (hs : List Value), Ord H L c' → hs.length = xs.length → (∀ r ∈ hs, H r) → ∃ S, f hs c' = some S ∧ S.Pairwise (fun r s => ¬ L s r) ∧ S.Perm hs) :
  ∃ ys, G2 f xs C = some ys ∧ ys.Pairwise (fun r s => ¬ Ll W s r) ∧ ys.Perm xs := by
 have one : ∀ (hs : List Value) (c' : Value → Value → Option Int), hs.length = xs.length → (∀ i j, i < xs.length → j < xs.length → c' (hd hs i) (hd hs j) = C (ct xs i) (ct xs j)) → ∃ sel : List Nat, f hs c' = some (sel.map (hd hs)) ∧ sel.Perm (List.range xs.length) ∧ (sel.map (ct xs)).Pairwise (fun r s => ¬ Ll W s r) := by
  intro hs c' hl hc
  have ho := ord_of hr hC hc
  obtain ⟨S, h1, h2, h3⟩ := hf _ _ c' hs ho hl fun v hv => by
   obtain ⟨i, hi, rfl⟩ := List.getElem_of_mem hv
   exact ⟨i, by omega, Option.some.inj ((List.getElem?_eq_getElem hi).symm.trans (hd_get hi))⟩
  obtain ⟨sel, s1, rfl⟩ := perm_sel h3
  rw [hl] at s1
  refine ⟨sel, h1, s1, ?_⟩
  rw [List.pairwise_map] at h2 ⊢
  refine h2.imp_of_mem fun {a b} ha hb h k => h ?_
  have la := List.mem_range.1 (s1.mem_iff.1 ha)
  have lb := List.mem_range.1 (s1.mem_iff.1 hb)
  exact ⟨b, a, lb, la, rfl, rfl, k⟩
 have hall : (List.range xs.length).map (ct xs) = xs := by
  apply List.ext_getElem?
  intro i
  by_cases hi : i < xs.length
  ·
   rw [List.getElem?_map, List.getElem?_range hi, ct_get hi]; rfl
  ·
   rw [List.getElem?_eq_none (by simp; omega), List.getElem?_eq_none (by omega)]
 have perm : ∀ sel : List Nat, sel.Perm (List.range xs.length) → (sel.map (ct xs)).Perm xs := fun sel h => by
  have := h.map (ct xs)
  rwa [hall] at this
 have hlab : (labels xs.length).length = xs.length := by simp [labels]
 obtain ⟨s0, a1, a2, a3⟩ := one (labels xs.length) (lab2 xs C) hlab fun i j hi hj => by
  rw [labels_hd hi, labels_hd hj]
  show C (ct xs ((i : Int)).toNat) (ct xs ((j : Int)).toNat) = _
  rw [Int.toNat_natCast, Int.toNat_natCast]
 refine ⟨s0.map (ct xs), G2_eq fun hs c' hl hc => ?_, a3, perm s0 a2⟩
 obtain ⟨s1, b1, b2, b3⟩ := one hs c' hl hc
 have e : s1.map (ct xs) = s0.map (ct xs) := sorted_uniq ((perm s1 b2).trans (perm s0 a2).symm) (fun r hr' => hr r ((perm s1 b2).mem_iff.1 hr')) b3 a3
 exact ⟨_, b1, s1, (List.Perm.nodup_iff b2).2 List.nodup_range, fun i hi => List.mem_range.1 (b2.mem_iff.1 hi), rfl, e.symm⟩
theorem compact_good {xs : List (List Int)} (hN : xs.length ≤ 1000000) {Q : List Int → List Int → Option Bool} (hQ : ∀ x ∈ xs, ∀ y ∈ xs, Q x y = some (B (x = y))) :
  G2 _root_.Go.Proofs.Ytjknpaplgclflaa.R.slices_CompactFunc_int64.f xs Q = some ((cix (fun n => ct xs n = ct xs (n - 1)) xs.length).map (ct xs)) := by
 refine G2_eq fun hs c' hl hc => ?_
 have := compactR (Q := c') (xs := hs) (E := fun n => ct xs n = ct xs (n - 1)) (fun i i0 i1 => by
  rw [hc i (i - 1) (by omega) (by omega)]
  exact hQ _ (List.mem_of_getElem? (ct_get (by omega))) _ (List.mem_of_getElem? (ct_get (by omega)))) (by omega)
 rw [hl] at this
 exact ⟨_, this, cix _ xs.length, cix_nodup _ _, cix_lt _ _, rfl, rfl⟩
theorem cix_mem {xs : List (List Int)} (r : List Int) : ∀ n, n ≤ xs.length → (r ∈ (cix (fun n => ct xs n = ct xs (n - 1)) n).map (ct xs) ↔ ∃ i, i < n ∧ r = ct xs i) := by
 intro n
 induction n with
 | zero => intro _; simp [cix]
 | succ n ih =>
  intro hn
  by_cases h : 0 < n ∧ ct xs n = ct xs (n - 1)
  ·
   rw [cix_pos h.1 h.2, ih (by omega)]
   constructor
   ·
    rintro ⟨i, hi, rfl⟩; exact ⟨i, by omega, rfl⟩
   ·
    rintro ⟨i, hi, rfl⟩
    by_cases e : i = n
    ·
     subst e; exact ⟨i - 1, by omega, h.2⟩
    ·
     exact ⟨i, by omega, rfl⟩
  ·
   rw [cix_neg h, List.map_append, List.mem_append, ih (by omega)]
   constructor
   ·
    rintro (⟨i, hi, rfl⟩ | h)
    ·
     exact ⟨i, by omega, rfl⟩
    ·
     simp at h; exact ⟨n, by omega, h⟩
   ·
    rintro ⟨i, hi, rfl⟩
    by_cases e : i = n
    ·
     subst e; exact .inr (by simp)
    ·
     exact .inl ⟨i, by omega, rfl⟩
theorem cix_sorted {W : Nat} {xs : List (List Int)} (hr : ∀ r ∈ xs, r.length = W) (hs : xs.Pairwise (fun r s => ¬ Ll W s r)) : ∀ n, n ≤ xs.length → ((cix (fun n => ct xs n = ct xs (n - 1)) n).map (ct xs)).Pairwise (fun r s => Ll W r s) := by
 have hW : ∀ i, i < xs.length → (ct xs i).length = W := fun i hi => hr _ (List.mem_of_getElem? (ct_get hi))
 have hlt : ∀ i j, i < j → j < xs.length → ¬ Ll W (ct xs j) (ct xs i) := fun i j hij hj => by
  have e1 : xs[i]'(by omega) = ct xs i := Option.some.inj ((List.getElem?_eq_getElem (by omega)).symm.trans (ct_get (by omega)))
  have e2 : xs[j] = ct xs j := Option.some.inj ((List.getElem?_eq_getElem hj).symm.trans (ct_get hj))
  have := List.pairwise_iff_getElem.1 hs i j (by omega) hj hij
  rwa [e1, e2] at this
 intro n
 induction n with
 | zero => intro _; simp [cix]
 | succ n ih =>
  intro hn
  by_cases h : 0 < n ∧ ct xs n = ct xs (n - 1)
  ·
   rw [cix_pos h.1 h.2]; exact ih (by omega)
  ·
   rw [cix_neg h, List.map_append, List.pairwise_append]
   refine ⟨ih (by omega), by simp, fun r hr' s hs' => ?_⟩
   simp at hs'
   subst hs'
   obtain ⟨i, hi, rfl⟩ := (cix_mem r n (by omega)).1 hr'
   rcases Ll.tri W (ct xs i) (ct xs n) with q | q | q
   ·
    exact q
   ·
    have e := eq_of_all (hW i (by omega)) (hW n (by omega)) q
    by_cases hin : i = n - 1
    ·
     exact absurd ⟨by omega, by rw [← hin]; exact e.symm⟩ h
    ·
     have h1 := hlt i (n - 1) (by omega) (by omega)
     have h2 := hlt (n - 1) n (by omega) (by omega)
     rw [e] at h1
     rcases Ll.tri W (ct xs (n - 1)) (ct xs n) with q | q | q
     ·
      exact absurd q h1
     ·
      exact absurd ⟨by omega, (eq_of_all (hW (n - 1) (by omega)) (hW n (by omega)) q).symm⟩ h
     ·
      exact absurd q h2
   ·
    exact absurd q (hlt i n hi (by omega))
theorem strict_uniq {W : Nat} : ∀ {A B : List (List Int)}, (∀ r, r ∈ A ↔ r ∈ B) → A.Pairwise (fun r s => Ll W r s) → B.Pairwise (fun r s => Ll W r s) → A = B
 | [], [], _, _, _ => rfl
 | [], b :: B, h, _, _ => by have := (h b).2 List.mem_cons_self; cases this
 | a :: A, [], h, _, _ => by have := (h a).1 List.mem_cons_self; cases this
 | a :: A, b :: B, h, hA, hB => by
  rw [List.pairwise_cons] at hA hB
  have e : a = b := by
   rcases List.mem_cons.1 ((h a).1 List.mem_cons_self) with q | q
   ·
    exact q
   ·
    rcases List.mem_cons.1 ((h b).2 List.mem_cons_self) with q2 | q2
    ·
     exact q2.symm
    ·
     exact absurd (hB.1 a q) (hA.1 b q2).asymm
  subst e
  rw [strict_uniq (W := W) (fun r => ?_) hA.2 hB.2]
  refine ⟨fun hr => ?_, fun hr => ?_⟩
  ·
   rcases List.mem_cons.1 ((h r).1 (List.mem_cons_of_mem _ hr)) with q | q
   ·
    subst q; exact absurd (hA.1 _ hr) Ll.irrefl
   ·
    exact q
  ·
   rcases List.mem_cons.1 ((h r).2 (List.mem_cons_of_mem _ hr)) with q | q
   ·
    subst q; exact absurd (hB.1 _ hr) Ll.irrefl
   ·
    exact q
end Go.Proofs.Ytjknpaplgclflaa.V
namespace Go.Proofs.Ytjknpaplgclflaa.V
open Go Go.RowKit Go.Proofs.Ytjknpaplgclflaa.D Go.Proofs.Ytjknpaplgclflaa.P
open Go.Sort (swp insInner insOuter insertionSort siftDown heapBuild heapPop heapSort scanUp scanDown partLoop partition partEqLoop partitionEqual scanSorted shiftDown shiftUp partialIns partialInsertionSort reverseLoop reverseRange SWO PermIn SortedIn)
noncomputable instance : Inhabited Value := ⟨Value.slice none 0 0⟩
variable {H : Value → Prop} {lt : Value → Value → Bool} {C : Value → Value → Option Int}
structure Cm (H : Value → Prop) (lt : Value → Value → Bool) (C : Value → Value → Option Int) : Prop where
 swo : SWO lt
 cmp : ∀ x y, H x → H y → ∃ c : Int, C x y = some c ∧ (c < 0 ↔ lt x y = true)
structure Al (H : Value → Prop) (N : Nat) (d : Array Value) : Prop where
 sz : d.size = N
 all : ∀ i, i < N → H d[i]!
theorem rdA {d : Array Value} {i : Nat} (h : i < d.size) : Ty.rd .raw d.toList (i : Int) = d[i]! := by
 show d.toList.getD ((i : Int)).toNat _ = _
 rw [Int.toNat_natCast, List.getD_eq_getElem?_getD, getElem!_pos d i h]
 simp [h]
theorem swpL (d : Array Value) (i j : Nat) : (d.toList.set i d[j]!).set j d[i]! = (swp d i j).toList := by
 unfold swp
 rw [Array.toList_setIfInBounds, Array.toList_setIfInBounds]
theorem Al.swp {N : Nat} {d : Array Value} (h : Al H N d) {i j : Nat} (hi : i < N) (hj : j < N) : Al H N (swp d i j) where
 sz := (Go.Sort.swp_size d i j).trans h.sz
 all := fun k hk => by
  rw [Go.Sort.swp_get d (by rw [h.sz]; exact hi) (by rw [h.sz]; exact hj)]
  split
  ·
   exact h.all i hi
  ·
   split
   ·
    exact h.all j hj
   ·
    exact h.all k hk
theorem wA {a b : Nat} (h : a + b ≤ 4000000000000000000) : wrapI ((a : Int) + (b : Int)) = ((a + b : Nat) : Int) := by rw [w64 (by omega) (by omega)]; omega
theorem wS {a b : Nat} (h : b ≤ a) (h2 : a ≤ 4000000000000000000) : wrapI ((a : Int) - (b : Int)) = ((a - b : Nat) : Int) := by rw [w64 (by omega) (by omega)]; omega
theorem wP {j : Nat} (h0 : 1 ≤ j) (h : j ≤ 4000000000000000000) : wrapI ((j : Int) - 1) = ((j - 1 : Nat) : Int) := by rw [w64 (by omega) (by omega)]; omega
theorem w2 {j : Nat} (h : j ≤ 4000000000000000000) : wrapI (2 * (j : Int)) = ((2 * j : Nat) : Int) := by rw [w64 (by omega) (by omega)]; omega
theorem map_id' {C : Value → Value → Option Int} : (fun z0 z1 => (C z0 z1).map fun z => z) = C := by funext a b; cases C a b <;> rfl
theorem insI {N : Nat} (hc : Cm H lt C) (hN : N ≤ 1000000000) {a : Nat} {b x8 : Int} : ∀ (j : Nat) (d : Array Value), j < N → Al H N d →
  _root_.Go.Proofs.Ytjknpaplgclflaa.R.slices_insertionSortCmpFunc_int64.l1 (a : Int) b C x8 (j : Int) d.toList = _root_.Go.Proofs.Ytjknpaplgclflaa.R.slices_insertionSortCmpFunc_int64.l0 (a : Int) b C (wrapI (x8 + 1)) (insInner lt a j d).toList ∧ Al H N (insInner lt a j d) := by
 intro j
 induction j with
 | zero =>
  intro d hj hd
  refine ⟨?_, hd⟩
  rw [_root_.Go.Proofs.Ytjknpaplgclflaa.R.slices_insertionSortCmpFunc_int64.l1_eq, if_neg (by omega)]
  rfl
 | succ j ih =>
  intro d hj hd
  have hs := hd.sz
  obtain ⟨c, c1, c2⟩ := hc.cmp _ _ (hd.all (j + 1) hj) (hd.all j (by omega))
  have w1 : wrapI (((j + 1 : Nat) : Int) - 1) = (j : Int) := by rw [w64 (by omega) (by omega)]; omega
  rw [_root_.Go.Proofs.Ytjknpaplgclflaa.R.slices_insertionSortCmpFunc_int64.l1_eq, w1, rdA (i := j + 1) (by omega), rdA (i := j) (by omega)]
  simp only [List.length_set, Array.length_toList, Int.toNat_natCast]
  rw [swpL]
  rw [hs]
  have e : insInner lt a (j + 1) d = if j + 1 > a && lt d[j + 1]! d[j]! then insInner lt a j (Go.Sort.swp d (j + 1) j) else d := rfl
  by_cases h1 : j + 1 > a
  ·
   by_cases h2 : lt d[j + 1]! d[j]! = true
   ·
    have h3 := c2.2 h2
    obtain ⟨i1, i2⟩ := ih (Go.Sort.swp d (j + 1) j) (by omega) (hd.swp hj (by omega))
    rw [e.trans (if_pos (by simp [h1, h2]))]
    refine ⟨?_, i2⟩
    (with_reducible repeat (first | refine go_pos (by first | assumption | omega | rfl | exact B_pos (by omega)) ?_ | refine go_neg (by first | assumption | omega | decide | exact B_not (by omega)) ?_ | refine go_bind (by first | assumption) ?_ | dsimp only))
    exact i1
   ·
    have h3 : ¬ c < 0 := fun k => h2 (c2.1 k)
    rw [e.trans (if_neg (by simp [h2]))]
    refine ⟨?_, hd⟩
    (with_reducible repeat (first | refine go_pos (by first | assumption | omega | rfl | exact B_pos (by omega)) ?_ | refine go_neg (by first | assumption | omega | decide | exact B_not (by omega)) ?_ | refine go_bind (by first | assumption) ?_ | dsimp only))
  ·
   rw [e.trans (if_neg (by simp; omega))]
   refine ⟨?_, hd⟩
   (with_reducible repeat (first | refine go_pos (by first | assumption | omega | rfl | exact B_pos (by omega)) ?_ | refine go_neg (by first | assumption | omega | decide | exact B_not (by omega)) ?_ | refine go_bind (by first | assumption) ?_ | dsimp only))
theorem insO {N : Nat} (hc : Cm H lt C) (hN : N ≤ 1000000000) {a b : Nat} (hb : b ≤ N) : ∀ (n i : Nat) (d : Array Value), b - i ≤ n → i ≤ N → Al H N d →
  _root_.Go.Proofs.Ytjknpaplgclflaa.R.slices_insertionSortCmpFunc_int64.l0 (a : Int) (b : Int) C (i : Int) d.toList = some (insOuter lt a b i d).toList := by
 intro n
 induction n with
 | zero =>
  intro i d hn hi hd
  rw [_root_.Go.Proofs.Ytjknpaplgclflaa.R.slices_insertionSortCmpFunc_int64.l0_eq, if_neg (by omega), insOuter, if_neg (by omega)]
 | succ n ih =>
  intro i d hn hi hd
  rw [_root_.Go.Proofs.Ytjknpaplgclflaa.R.slices_insertionSortCmpFunc_int64.l0_eq, insOuter]
  by_cases h : i < b
  ·
   obtain ⟨i1, i2⟩ := insI hc hN (a := a) (b := (b : Int)) (x8 := (i : Int)) i d (by omega) hd
   rw [if_pos (by omega), if_pos h, i1, wn (j := i) (by omega)]
   exact ih _ _ (by omega) (by omega) i2
  ·
   rw [if_neg (by omega), if_neg h]
theorem insS {N : Nat} (hc : Cm H lt C) (hN : N ≤ 1000000000) {a b : Nat} (hab : a ≤ b) (hb : b ≤ N) {d : Array Value} (hd : Al H N d) :
  ∃ d', _root_.Go.Proofs.Ytjknpaplgclflaa.R.slices_insertionSortCmpFunc_int64.f d.toList (a : Int) (b : Int) C = some d'.toList ∧ PermIn a b d d' ∧ SortedIn lt a b d' := by
 have h := Go.Sort.insertionSort_holds (lt := lt) hc.swo d a b hab (by rw [hd.sz]; exact hb)
 refine ⟨_, ?_, h.1, h.2⟩
 by_cases e : a + 1 ≤ N
 ·
  rw [_root_.Go.Proofs.Ytjknpaplgclflaa.R.slices_insertionSortCmpFunc_int64.f_eq, wn (j := a) (by omega)]
  exact insO hc hN hb _ _ d (Nat.le_refl _) e hd
 ·
  rw [_root_.Go.Proofs.Ytjknpaplgclflaa.R.slices_insertionSortCmpFunc_int64.f_eq, wn (j := a) (by omega), _root_.Go.Proofs.Ytjknpaplgclflaa.R.slices_insertionSortCmpFunc_int64.l0_eq, if_neg (by omega)]
  unfold insertionSort
  rw [insOuter, if_neg (by omega)]
theorem siftL {N : Nat} (hc : Cm H lt C) (hN : N ≤ 1000000000) {hi first : Nat} (hf : first + hi ≤ N) : ∀ (n root : Nat) (d : Array Value), hi - root ≤ n → root ≤ N → Al H N d →
  _root_.Go.Proofs.Ytjknpaplgclflaa.R.slices_siftDownCmpFunc_int64.l0 (hi : Int) (first : Int) C (root : Int) d.toList = some (siftDown lt hi first root d).toList ∧ Al H N (siftDown lt hi first root d) := by
 intro n
 induction n with
 | zero =>
  intro root d hn hr hd
  rw [_root_.Go.Proofs.Ytjknpaplgclflaa.R.slices_siftDownCmpFunc_int64.l0_eq, w2 (by omega), wn (j := 2 * root) (by omega), if_pos (by omega), siftDown, dif_pos (by omega)]
  exact ⟨rfl, hd⟩
 | succ n ih =>
  intro root d hn hr hd
  rw [_root_.Go.Proofs.Ytjknpaplgclflaa.R.slices_siftDownCmpFunc_int64.l0_eq, w2 (by omega), wn (j := 2 * root) (by omega)]
  by_cases h0 : 2 * root + 1 ≥ hi
  ·
   rw [if_pos (by omega), siftDown, dif_pos h0]
   exact ⟨rfl, hd⟩
  rw [if_neg (by omega)]
  have hs := hd.sz
  have e1 : first + (2 * root + 1) + 1 = first + (2 * root + 2) := by omega
  have e2 : 2 * root + 1 + 1 = 2 * root + 2 := rfl
  rw [wn (j := 2 * root + 1) (by omega), wA (a := first) (b := 2 * root + 1) (by omega), wn (j := first + (2 * root + 1)) (by omega), wA (a := first) (b := root) (by omega), wA (a := first) (b := 2 * root + 1 + 1) (by omega), e1, e2]
  rw [rdA (i := first + root) (by omega), rdA (i := first + (2 * root + 1)) (by omega)]
  simp only [List.length_set, Array.length_toList, Int.toNat_natCast]
  obtain ⟨c, c1, c2⟩ := hc.cmp _ _ (hd.all (first + root) (by omega)) (hd.all (first + (2 * root + 1)) (by omega))
  obtain ⟨a1, a2⟩ := ih (2 * root + 1) (Go.Sort.swp d (first + root) (first + (2 * root + 1))) (by omega) (by omega) (hd.swp (by omega) (by omega))
  by_cases h1 : 2 * root + 2 < hi
  ·
   rw [rdA (i := first + (2 * root + 2)) (by omega), swpL, swpL]
   obtain ⟨x, x1, x2⟩ := hc.cmp _ _ (hd.all (first + (2 * root + 1)) (by omega)) (hd.all (first + (2 * root + 2)) (by omega))
   obtain ⟨y, y1, y2⟩ := hc.cmp _ _ (hd.all (first + root) (by omega)) (hd.all (first + (2 * root + 2)) (by omega))
   by_cases h2 : lt d[first + (2 * root + 1)]! d[first + (2 * root + 2)]! = true
   ·
    have h3 := x2.2 h2
    by_cases h4 : lt d[first + root]! d[first + (2 * root + 2)]! = true
    ·
     have h5 := y2.2 h4
     obtain ⟨b1, b2⟩ := ih (2 * root + 2) (Go.Sort.swp d (first + root) (first + (2 * root + 2))) (by omega) (by omega) (hd.swp (by omega) (by omega))
     have e : siftDown lt hi first root d = siftDown lt hi first (2 * root + 2) (Go.Sort.swp d (first + root) (first + (2 * root + 2))) := by
      rw [siftDown, dif_neg h0, e1, if_pos (by simp [h1, h2]), if_neg (by simp [h4]), dif_pos h1]
     rw [e]
     refine ⟨?_, b2⟩
     (with_reducible repeat (first | refine go_pos (by first | assumption | omega | rfl | exact B_pos (by omega)) ?_ | refine go_neg (by first | assumption | omega | decide | exact B_not (by omega)) ?_ | refine go_bind (by first | assumption) ?_ | dsimp only))
     exact b1
    ·
     have h5 : ¬ y < 0 := fun k => h4 (y2.1 k)
     have e : siftDown lt hi first root d = d := by
      rw [siftDown, dif_neg h0, e1, if_pos (by simp [h1, h2]), if_pos (by simp [h4])]
     rw [e]
     refine ⟨?_, hd⟩
     (with_reducible repeat (first | refine go_pos (by first | assumption | omega | rfl | exact B_pos (by omega)) ?_ | refine go_neg (by first | assumption | omega | decide | exact B_not (by omega)) ?_ | refine go_bind (by first | assumption) ?_ | dsimp only))
   ·
    have h3 : ¬ x < 0 := fun k => h2 (x2.1 k)
    by_cases h4 : lt d[first + root]! d[first + (2 * root + 1)]! = true
    ·
     have h5 := c2.2 h4
     have e : siftDown lt hi first root d = siftDown lt hi first (2 * root + 1) (Go.Sort.swp d (first + root) (first + (2 * root + 1))) := by
      rw [siftDown, dif_neg h0, e1, if_neg (by simp [h2]), if_neg (by simp [h4])]
     rw [e]
     refine ⟨?_, a2⟩
     (with_reducible repeat (first | refine go_pos (by first | assumption | omega | rfl | exact B_pos (by omega)) ?_ | refine go_neg (by first | assumption | omega | decide | exact B_not (by omega)) ?_ | refine go_bind (by first | assumption) ?_ | dsimp only))
     exact a1
    ·
     have h5 : ¬ c < 0 := fun k => h4 (c2.1 k)
     have e : siftDown lt hi first root d = d := by
      rw [siftDown, dif_neg h0, e1, if_neg (by simp [h2]), if_pos (by simp [h4])]
     rw [e]
     refine ⟨?_, hd⟩
     (with_reducible repeat (first | refine go_pos (by first | assumption | omega | rfl | exact B_pos (by omega)) ?_ | refine go_neg (by first | assumption | omega | decide | exact B_not (by omega)) ?_ | refine go_bind (by first | assumption) ?_ | dsimp only))
  ·
   rw [if_neg (c := ((2 * root + 2 : Nat) : Int) < (hi : Int)) (by omega), swpL]
   by_cases h4 : lt d[first + root]! d[first + (2 * root + 1)]! = true
   ·
    have h5 := c2.2 h4
    have e : siftDown lt hi first root d = siftDown lt hi first (2 * root + 1) (Go.Sort.swp d (first + root) (first + (2 * root + 1))) := by
     rw [siftDown, dif_neg h0, e1, if_neg (by simp [h1]), if_neg (by simp [h4])]
    rw [e]
    refine ⟨?_, a2⟩
    (with_reducible repeat (first | refine go_pos (by first | assumption | omega | rfl | exact B_pos (by omega)) ?_ | refine go_neg (by first | assumption | omega | decide | exact B_not (by omega)) ?_ | refine go_bind (by first | assumption) ?_ | dsimp only))
    exact a1
   ·
    have h5 : ¬ c < 0 := fun k => h4 (c2.1 k)
    have e : siftDown lt hi first root d = d := by
     rw [siftDown, dif_neg h0, e1, if_neg (by simp [h1]), if_pos (by simp [h4])]
    rw [e]
    refine ⟨?_, hd⟩
    (with_reducible repeat (first | refine go_pos (by first | assumption | omega | rfl | exact B_pos (by omega)) ?_ | refine go_neg (by first | assumption | omega | decide | exact B_not (by omega)) ?_ | refine go_bind (by first | assumption) ?_ | dsimp only))
theorem siftF {N : Nat} (hc : Cm H lt C) (hN : N ≤ 1000000000) {hi first root : Nat} (hf : first + hi ≤ N) (hr : root ≤ N) {d : Array Value} (hd : Al H N d) :
  _root_.Go.Proofs.Ytjknpaplgclflaa.R.slices_siftDownCmpFunc_int64.f d.toList (root : Int) (hi : Int) (first : Int) C = some (siftDown lt hi first root d).toList ∧ Al H N (siftDown lt hi first root d) := by
 rw [_root_.Go.Proofs.Ytjknpaplgclflaa.R.slices_siftDownCmpFunc_int64.f_eq]
 exact siftL hc hN hf _ root d (Nat.le_refl _) hr hd
theorem heapB {N : Nat} (hc : Cm H lt C) (hN : N ≤ 1000000000) {hi first : Nat} {x9 : Int} (hf : first + hi ≤ N) : ∀ (k : Nat) (d : Array Value), k ≤ N → Al H N d →
  _root_.Go.Proofs.Ytjknpaplgclflaa.R.slices_heapSortCmpFunc_int64.l0 C (first : Int) x9 (hi : Int) ((k : Int) - 1) d.toList = _root_.Go.Proofs.Ytjknpaplgclflaa.R.slices_heapSortCmpFunc_int64.l1 C (first : Int) x9 (wrapI ((hi : Int) - 1)) (heapBuild lt hi first k d).toList ∧ Al H N (heapBuild lt hi first k d) := by
 intro k
 induction k with
 | zero =>
  intro d _ hd
  refine ⟨?_, hd⟩
  rw [_root_.Go.Proofs.Ytjknpaplgclflaa.R.slices_heapSortCmpFunc_int64.l0_eq, if_neg (by omega)]
  rfl
 | succ k ih =>
  intro d hk hd
  obtain ⟨s1, s2⟩ := siftF hc hN (root := k) hf (by omega) hd
  obtain ⟨i1, i2⟩ := ih _ (by omega) s2
  refine ⟨?_, i2⟩
  rw [show ((k + 1 : Nat) : Int) - 1 = (k : Int) by omega, _root_.Go.Proofs.Ytjknpaplgclflaa.R.slices_heapSortCmpFunc_int64.l0_eq, if_pos (by omega), map_id', s1, Option.bind_some, w64 (by omega) (by omega)]
  exact i1
theorem heapP {N : Nat} (hc : Cm H lt C) (hN : N ≤ 1000000000) {first : Nat} : ∀ (k : Nat) (d : Array Value), first + k ≤ N → Al H N d →
  _root_.Go.Proofs.Ytjknpaplgclflaa.R.slices_heapSortCmpFunc_int64.l1 C (first : Int) 0 ((k : Int) - 1) d.toList = some (heapPop lt first k d).toList := by
 intro k
 induction k with
 | zero =>
  intro d _ hd
  rw [_root_.Go.Proofs.Ytjknpaplgclflaa.R.slices_heapSortCmpFunc_int64.l1_eq, if_neg (by omega)]
  rfl
 | succ k ih =>
  intro d hk hd
  have hs := hd.sz
  obtain ⟨s1, s2⟩ := siftF hc hN (hi := k) (first := first) (root := 0) (d := Go.Sort.swp d first (first + k)) (by omega) (by omega) (hd.swp (by omega) (by omega))
  have i1 := ih _ (by omega) s2
  rw [Int.natCast_zero] at s1
  rw [show ((k + 1 : Nat) : Int) - 1 = (k : Int) by omega, _root_.Go.Proofs.Ytjknpaplgclflaa.R.slices_heapSortCmpFunc_int64.l1_eq, wA (a := first) (b := k) (by omega), map_id', rdA (i := first) (by omega), rdA (i := first + k) (by omega)]
  simp only [List.length_set, Array.length_toList, Int.toNat_natCast]
  rw [swpL, s1, Option.bind_some, w64 (x := (k : Int) - 1) (by omega) (by omega)]
  (with_reducible repeat (first | refine go_pos (by first | assumption | omega | rfl | exact B_pos (by omega)) ?_ | refine go_neg (by first | assumption | omega | decide | exact B_not (by omega)) ?_ | refine go_bind (by first | assumption) ?_ | dsimp only))
  exact i1
theorem heapS {N : Nat} (hc : Cm H lt C) (hN : N ≤ 1000000000) {a b : Nat} (hab : a < b) (hb : b ≤ N) {d : Array Value} (hd : Al H N d) :
  ∃ d', _root_.Go.Proofs.Ytjknpaplgclflaa.R.slices_heapSortCmpFunc_int64.f d.toList (a : Int) (b : Int) C = some d'.toList ∧ PermIn a b d d' ∧ SortedIn lt a b d' := by
 have h := Go.Sort.heapSort_holds (lt := lt) hc.swo d a b (by omega) (by rw [hd.sz]; exact hb)
 refine ⟨_, ?_, h.1, h.2⟩
 have t : ((b - a - 1 : Nat) : Int).tdiv 2 = (((b - a - 1) / 2 + 1 : Nat) : Int) - 1 := by
  rw [Int.tdiv_eq_ediv_of_nonneg (by omega)]
  omega
 obtain ⟨h1, h2⟩ := heapB hc hN (hi := b - a) (first := a) (x9 := 0) (by omega) ((b - a - 1) / 2 + 1) d (by omega) hd
 rw [_root_.Go.Proofs.Ytjknpaplgclflaa.R.slices_heapSortCmpFunc_int64.f_eq, wS (a := b) (b := a) (by omega) (by omega), wP (j := b - a) (by omega) (by omega), t, w64 (by omega) (by omega), h1, w64 (by omega) (by omega), heapP hc hN (b - a) _ (by omega) h2]
 rfl
theorem revL {N : Nat} (hN : N ≤ 1000000000) : ∀ (n i j : Nat) (d : Array Value), j - i ≤ n → j < N → i ≤ N → Al H N d →
  _root_.Go.Proofs.Ytjknpaplgclflaa.R.slices_reverseRangeCmpFunc_int64.l0 (i : Int) (j : Int) d.toList = some (reverseLoop i j d).toList := by
 intro n
 induction n with
 | zero =>
  intro i j d hn hj hi hd
  rw [_root_.Go.Proofs.Ytjknpaplgclflaa.R.slices_reverseRangeCmpFunc_int64.l0_eq, if_neg (by omega), reverseLoop, if_neg (by omega)]
 | succ n ih =>
  intro i j d hn hj hi hd
  have hs := hd.sz
  rw [_root_.Go.Proofs.Ytjknpaplgclflaa.R.slices_reverseRangeCmpFunc_int64.l0_eq, reverseLoop]
  by_cases h : i < j
  ·
   rw [if_pos h, rdA (i := i) (by omega), rdA (i := j) (by omega), wn (j := i) (by omega), wP (j := j) (by omega) (by omega)]
   simp only [List.length_set, Array.length_toList, Int.toNat_natCast]
   rw [swpL]
   have := ih (i + 1) (j - 1) (Go.Sort.swp d i j) (by omega) (by omega) (by omega) (hd.swp (by omega) (by omega))
   (with_reducible repeat (first | refine go_pos (by first | assumption | omega | rfl | exact B_pos (by omega)) ?_ | refine go_neg (by first | assumption | omega | decide | exact B_not (by omega)) ?_ | refine go_bind (by first | assumption) ?_ | dsimp only))
   exact this
  ·
   rw [if_neg h, if_neg (by omega)]
theorem revS {N : Nat} (hN : N ≤ 1000000000) {a b : Nat} (hab : a < b) (hb : b ≤ N) {d : Array Value} (hd : Al H N d) :
  ∃ d', _root_.Go.Proofs.Ytjknpaplgclflaa.R.slices_reverseRangeCmpFunc_int64.f d.toList (a : Int) (b : Int) C = some d'.toList ∧ PermIn a b d d' := by
 refine ⟨_, ?_, Go.Sort.reverseRange_holds d a b (by omega) (by rw [hd.sz]; exact hb)⟩
 rw [_root_.Go.Proofs.Ytjknpaplgclflaa.R.slices_reverseRangeCmpFunc_int64.f_eq, wP (j := b) (by omega) (by omega)]
 exact revL hN _ a (b - 1) d (Nat.le_refl _) (by omega) (by omega) hd
end Go.Proofs.Ytjknpaplgclflaa.V
namespace Go.Proofs.Ytjknpaplgclflaa.V
open Go Go.RowKit Go.Proofs.Ytjknpaplgclflaa.D Go.Proofs.Ytjknpaplgclflaa.P
open Go.Sort (swp insInner insOuter insertionSort siftDown heapBuild heapPop heapSort scanUp scanDown partLoop partition partEqLoop partitionEqual scanSorted shiftDown shiftUp partialIns partialInsertionSort reverseLoop reverseRange SWO PermIn SortedIn)
variable {H : Value → Prop} {lt : Value → Value → Bool} {C : Value → Value → Option Int}
theorem partU_1 {N : Nat} (hc : Cm H lt C) (hN : N ≤ 1000000000) {a : Nat} (ha : a < N) {d : Array Value} (hd : Al H N d) {j : Nat} (hj : j < N) : ∀ (n i : Nat), j + 1 - i ≤ n → i ≤ N + 1 →
  _root_.Go.Proofs.Ytjknpaplgclflaa.R.slices_partitionCmpFunc_int64.l0 (a : Int) C (i : Int) (j : Int) d.toList = _root_.Go.Proofs.Ytjknpaplgclflaa.R.slices_partitionCmpFunc_int64.l1 (a : Int) C ((scanUp (fun x => lt x d[a]!) d j i : Nat) : Int) (j : Int) d.toList := by
 intro n
 induction n with
 | zero =>
  intro i hn hi
  rw [_root_.Go.Proofs.Ytjknpaplgclflaa.R.slices_partitionCmpFunc_int64.l0_eq, if_neg (by omega), scanUp, if_neg (by simp; omega)]
 | succ n ih =>
  intro i hn hi
  have hs := hd.sz
  by_cases h : i ≤ j
  ·
   obtain ⟨c, c1, c2⟩ := hc.cmp _ _ (hd.all i (by omega)) (hd.all a ha)
   rw [_root_.Go.Proofs.Ytjknpaplgclflaa.R.slices_partitionCmpFunc_int64.l0_eq, rdA (i := i) (by omega), rdA (i := a) (by omega), wn (j := i) (by omega)]
   simp only [List.length_set, Array.length_toList, Int.toNat_natCast, swpL, Nat.add_sub_cancel]
   by_cases h2 : lt d[i]! d[a]! = true
   ·
    have h3 := c2.2 h2
    have i1 := ih (i + 1) (by omega) (by omega)
    have e : scanUp (fun x => lt x d[a]!) d j i = scanUp (fun x => lt x d[a]!) d j (i + 1) := by rw [scanUp, if_pos (by simp [h, h2])]
    rw [e]
    (with_reducible repeat (first | refine go_pos (by first | assumption | omega | rfl | exact B_pos (by omega)) ?_ | refine go_neg (by first | assumption | omega | decide | exact B_not (by omega)) ?_ | refine go_bind (by first | assumption) ?_ | dsimp only))
    exact i1
   ·
    have h3 : ¬ c < 0 := fun k => h2 (c2.1 k)
    have e : scanUp (fun x => lt x d[a]!) d j i = i := by rw [scanUp, if_neg (by simp [h2])]
    rw [e]
    (with_reducible repeat (first | refine go_pos (by first | assumption | omega | rfl | exact B_pos (by omega)) ?_ | refine go_neg (by first | assumption | omega | decide | exact B_not (by omega)) ?_ | refine go_bind (by first | assumption) ?_ | dsimp only))
  ·
   rw [_root_.Go.Proofs.Ytjknpaplgclflaa.R.slices_partitionCmpFunc_int64.l0_eq, if_neg (by omega), scanUp, if_neg (by simp; omega)]
theorem partD_1 {N : Nat} (hc : Cm H lt C) (hN : N ≤ 1000000000) {a : Nat} (ha : a < N) {d : Array Value} (hd : Al H N d) {i : Nat} (i1 : 1 ≤ i) (i2 : i ≤ N + 1) : ∀ (j : Nat), j < N →
  (scanDown (fun x => !lt x d[a]!) d i j ≤ j) ∧
  _root_.Go.Proofs.Ytjknpaplgclflaa.R.slices_partitionCmpFunc_int64.l1 (a : Int) C (i : Int) (j : Int) d.toList = if i > scanDown (fun x => !lt x d[a]!) d i j then some (((scanDown (fun x => !lt x d[a]!) d i j : Nat) : Int), true, (swp d (scanDown (fun x => !lt x d[a]!) d i j) a).toList)
   else _root_.Go.Proofs.Ytjknpaplgclflaa.R.slices_partitionCmpFunc_int64.l2 (a : Int) C ((i + 1 : Nat) : Int) ((scanDown (fun x => !lt x d[a]!) d i j - 1 : Nat) : Int) (swp d i (scanDown (fun x => !lt x d[a]!) d i j)).toList := by
 intro j
 induction j with
 | zero =>
  intro hj
  have hs := hd.sz
  have e : scanDown (fun x => !lt x d[a]!) d i 0 = 0 := rfl
  rw [e, if_pos (by omega)]
  refine ⟨Nat.le_refl _, ?_⟩
  rw [_root_.Go.Proofs.Ytjknpaplgclflaa.R.slices_partitionCmpFunc_int64.l1_eq, if_neg (by omega), if_pos (by omega), rdA (i := 0) (by omega), rdA (i := a) (by omega)]
  simp only [List.length_set, Array.length_toList, Int.toNat_natCast, swpL, Nat.add_sub_cancel]
  (with_reducible repeat (first | refine go_pos (by first | assumption | omega | rfl | exact B_pos (by omega)) ?_ | refine go_neg (by first | assumption | omega | decide | exact B_not (by omega)) ?_ | refine go_bind (by first | assumption) ?_ | dsimp only))
 | succ j ih =>
  intro hj
  have hs := hd.sz
  obtain ⟨k1, k2⟩ := ih (by omega)
  have e : scanDown (fun x => !lt x d[a]!) d i (j + 1) = if i ≤ j + 1 && !lt d[j + 1]! d[a]! then scanDown (fun x => !lt x d[a]!) d i j else j + 1 := rfl
  by_cases h : i ≤ j + 1
  ·
   obtain ⟨c, c1, c2⟩ := hc.cmp _ _ (hd.all (j + 1) (by omega)) (hd.all a ha)
   by_cases h2 : lt d[j + 1]! d[a]! = true
   ·
    have h3 := c2.2 h2
    rw [e.trans (if_neg (by simp [h2])), if_neg (by omega)]
    refine ⟨Nat.le_refl _, ?_⟩
    rw [_root_.Go.Proofs.Ytjknpaplgclflaa.R.slices_partitionCmpFunc_int64.l1_eq, rdA (i := j + 1) (by omega), rdA (i := i) (by omega), rdA (i := a) (by omega), wn (j := i) (by omega), wP (j := j + 1) (by omega) (by omega)]
    simp only [List.length_set, Array.length_toList, Int.toNat_natCast, swpL, Nat.add_sub_cancel]
    (with_reducible repeat (first | refine go_pos (by first | assumption | omega | rfl | exact B_pos (by omega)) ?_ | refine go_neg (by first | assumption | omega | decide | exact B_not (by omega)) ?_ | refine go_bind (by first | assumption) ?_ | dsimp only))
   ·
    have h3 : ¬ c < 0 := fun k => h2 (c2.1 k)
    rw [e.trans (if_pos (by simp [h, h2])), ← k2]
    refine ⟨by omega, ?_⟩
    rw [_root_.Go.Proofs.Ytjknpaplgclflaa.R.slices_partitionCmpFunc_int64.l1_eq, rdA (i := j + 1) (by omega), rdA (i := i) (by omega), rdA (i := a) (by omega), wP (j := j + 1) (by omega) (by omega)]
    simp only [List.length_set, Array.length_toList, Int.toNat_natCast, swpL, Nat.add_sub_cancel]
    (with_reducible repeat (first | refine go_pos (by first | assumption | omega | rfl | exact B_pos (by omega)) ?_ | refine go_neg (by first | assumption | omega | decide | exact B_not (by omega)) ?_ | refine go_bind (by first | assumption) ?_ | dsimp only))
  ·
   rw [e.trans (if_neg (by simp; omega)), if_pos (by omega)]
   refine ⟨Nat.le_refl _, ?_⟩
   rw [_root_.Go.Proofs.Ytjknpaplgclflaa.R.slices_partitionCmpFunc_int64.l1_eq, if_neg (by omega), if_pos (by omega), rdA (i := j + 1) (by omega), rdA (i := a) (by omega)]
   simp only [List.length_set, Array.length_toList, Int.toNat_natCast, swpL, Nat.add_sub_cancel]
   (with_reducible repeat (first | refine go_pos (by first | assumption | omega | rfl | exact B_pos (by omega)) ?_ | refine go_neg (by first | assumption | omega | decide | exact B_not (by omega)) ?_ | refine go_bind (by first | assumption) ?_ | dsimp only))
theorem partU_2 {N : Nat} (hc : Cm H lt C) (hN : N ≤ 1000000000) {a : Nat} (ha : a < N) {d : Array Value} (hd : Al H N d) {j : Nat} (hj : j < N) : ∀ (n i : Nat), j + 1 - i ≤ n → i ≤ N + 1 →
  _root_.Go.Proofs.Ytjknpaplgclflaa.R.slices_partitionCmpFunc_int64.l3 (a : Int) C (i : Int) (j : Int) d.toList = _root_.Go.Proofs.Ytjknpaplgclflaa.R.slices_partitionCmpFunc_int64.l4 (a : Int) C ((scanUp (fun x => lt x d[a]!) d j i : Nat) : Int) (j : Int) d.toList := by
 intro n
 induction n with
 | zero =>
  intro i hn hi
  rw [_root_.Go.Proofs.Ytjknpaplgclflaa.R.slices_partitionCmpFunc_int64.l3_eq, if_neg (by omega), scanUp, if_neg (by simp; omega)]
 | succ n ih =>
  intro i hn hi
  have hs := hd.sz
  by_cases h : i ≤ j
  ·
   obtain ⟨c, c1, c2⟩ := hc.cmp _ _ (hd.all i (by omega)) (hd.all a ha)
   rw [_root_.Go.Proofs.Ytjknpaplgclflaa.R.slices_partitionCmpFunc_int64.l3_eq, rdA (i := i) (by omega), rdA (i := a) (by omega), wn (j := i) (by omega)]
   simp only [List.length_set, Array.length_toList, Int.toNat_natCast, swpL, Nat.add_sub_cancel]
   by_cases h2 : lt d[i]! d[a]! = true
   ·
    have h3 := c2.2 h2
    have i1 := ih (i + 1) (by omega) (by omega)
    have e : scanUp (fun x => lt x d[a]!) d j i = scanUp (fun x => lt x d[a]!) d j (i + 1) := by rw [scanUp, if_pos (by simp [h, h2])]
    rw [e]
    (with_reducible repeat (first | refine go_pos (by first | assumption | omega | rfl | exact B_pos (by omega)) ?_ | refine go_neg (by first | assumption | omega | decide | exact B_not (by omega)) ?_ | refine go_bind (by first | assumption) ?_ | dsimp only))
    exact i1
   ·
    have h3 : ¬ c < 0 := fun k => h2 (c2.1 k)
    have e : scanUp (fun x => lt x d[a]!) d j i = i := by rw [scanUp, if_neg (by simp [h2])]
    rw [e]
    (with_reducible repeat (first | refine go_pos (by first | assumption | omega | rfl | exact B_pos (by omega)) ?_ | refine go_neg (by first | assumption | omega | decide | exact B_not (by omega)) ?_ | refine go_bind (by first | assumption) ?_ | dsimp only))
  ·
   rw [_root_.Go.Proofs.Ytjknpaplgclflaa.R.slices_partitionCmpFunc_int64.l3_eq, if_neg (by omega), scanUp, if_neg (by simp; omega)]
theorem partD_2 {N : Nat} (hc : Cm H lt C) (hN : N ≤ 1000000000) {a : Nat} (ha : a < N) {d : Array Value} (hd : Al H N d) {i : Nat} (i1 : 1 ≤ i) (i2 : i ≤ N + 1) : ∀ (j : Nat), j < N →
  (scanDown (fun x => !lt x d[a]!) d i j ≤ j) ∧
  _root_.Go.Proofs.Ytjknpaplgclflaa.R.slices_partitionCmpFunc_int64.l4 (a : Int) C (i : Int) (j : Int) d.toList = if i > scanDown (fun x => !lt x d[a]!) d i j then some (((scanDown (fun x => !lt x d[a]!) d i j : Nat) : Int), false, (swp d (scanDown (fun x => !lt x d[a]!) d i j) a).toList)
   else _root_.Go.Proofs.Ytjknpaplgclflaa.R.slices_partitionCmpFunc_int64.l2 (a : Int) C ((i + 1 : Nat) : Int) ((scanDown (fun x => !lt x d[a]!) d i j - 1 : Nat) : Int) (swp d i (scanDown (fun x => !lt x d[a]!) d i j)).toList := by
 intro j
 induction j with
 | zero =>
  intro hj
  have hs := hd.sz
  have e : scanDown (fun x => !lt x d[a]!) d i 0 = 0 := rfl
  rw [e, if_pos (by omega)]
  refine ⟨Nat.le_refl _, ?_⟩
  rw [_root_.Go.Proofs.Ytjknpaplgclflaa.R.slices_partitionCmpFunc_int64.l4_eq, if_neg (by omega), if_pos (by omega), rdA (i := 0) (by omega), rdA (i := a) (by omega)]
  simp only [List.length_set, Array.length_toList, Int.toNat_natCast, swpL, Nat.add_sub_cancel]
  (with_reducible repeat (first | refine go_pos (by first | assumption | omega | rfl | exact B_pos (by omega)) ?_ | refine go_neg (by first | assumption | omega | decide | exact B_not (by omega)) ?_ | refine go_bind (by first | assumption) ?_ | dsimp only))
 | succ j ih =>
  intro hj
  have hs := hd.sz
  obtain ⟨k1, k2⟩ := ih (by omega)
  have e : scanDown (fun x => !lt x d[a]!) d i (j + 1) = if i ≤ j + 1 && !lt d[j + 1]! d[a]! then scanDown (fun x => !lt x d[a]!) d i j else j + 1 := rfl
  by_cases h : i ≤ j + 1
  ·
   obtain ⟨c, c1, c2⟩ := hc.cmp _ _ (hd.all (j + 1) (by omega)) (hd.all a ha)
   by_cases h2 : lt d[j + 1]! d[a]! = true
   ·
    have h3 := c2.2 h2
    rw [e.trans (if_neg (by simp [h2])), if_neg (by omega)]
    refine ⟨Nat.le_refl _, ?_⟩
    rw [_root_.Go.Proofs.Ytjknpaplgclflaa.R.slices_partitionCmpFunc_int64.l4_eq, rdA (i := j + 1) (by omega), rdA (i := i) (by omega), rdA (i := a) (by omega), wn (j := i) (by omega), wP (j := j + 1) (by omega) (by omega)]
    simp only [List.length_set, Array.length_toList, Int.toNat_natCast, swpL, Nat.add_sub_cancel]
    (with_reducible repeat (first | refine go_pos (by first | assumption | omega | rfl | exact B_pos (by omega)) ?_ | refine go_neg (by first | assumption | omega | decide | exact B_not (by omega)) ?_ | refine go_bind (by first | assumption) ?_ | dsimp only))
   ·
    have h3 : ¬ c < 0 := fun k => h2 (c2.1 k)
    rw [e.trans (if_pos (by simp [h, h2])), ← k2]
    refine ⟨by omega, ?_⟩
    rw [_root_.Go.Proofs.Ytjknpaplgclflaa.R.slices_partitionCmpFunc_int64.l4_eq, rdA (i := j + 1) (by omega), rdA (i := i) (by omega), rdA (i := a) (by omega), wP (j := j + 1) (by omega) (by omega)]
    simp only [List.length_set, Array.length_toList, Int.toNat_natCast, swpL, Nat.add_sub_cancel]
    (with_reducible repeat (first | refine go_pos (by first | assumption | omega | rfl | exact B_pos (by omega)) ?_ | refine go_neg (by first | assumption | omega | decide | exact B_not (by omega)) ?_ | refine go_bind (by first | assumption) ?_ | dsimp only))
  ·
   rw [e.trans (if_neg (by simp; omega)), if_pos (by omega)]
   refine ⟨Nat.le_refl _, ?_⟩
   rw [_root_.Go.Proofs.Ytjknpaplgclflaa.R.slices_partitionCmpFunc_int64.l4_eq, if_neg (by omega), if_pos (by omega), rdA (i := j + 1) (by omega), rdA (i := a) (by omega)]
   simp only [List.length_set, Array.length_toList, Int.toNat_natCast, swpL, Nat.add_sub_cancel]
   (with_reducible repeat (first | refine go_pos (by first | assumption | omega | rfl | exact B_pos (by omega)) ?_ | refine go_neg (by first | assumption | omega | decide | exact B_not (by omega)) ?_ | refine go_bind (by first | assumption) ?_ | dsimp only))
theorem partL {N : Nat} (hc : Cm H lt C) (hN : N ≤ 1000000000) {a : Nat} (ha : a < N) : ∀ (n i j : Nat) (d : Array Value), j + 1 - i ≤ n → 1 ≤ i → i ≤ N + 1 → j < N → Al H N d →
  _root_.Go.Proofs.Ytjknpaplgclflaa.R.slices_partitionCmpFunc_int64.l2 (a : Int) C (i : Int) (j : Int) d.toList = some (((partLoop lt a i j d).1 : Int), false, (swp (partLoop lt a i j d).2 (partLoop lt a i j d).1 a).toList) := by
 intro n
 induction n with
 | zero =>
  intro i j d hn hi hi2 hj hd
  have u := partU_2 hc hN ha hd hj _ i (Nat.le_refl _) hi2
  have su := Go.Sort.scanUp_spec (fun x => lt x d[a]!) d j _ i rfl
  have su1 : scanUp (fun x => lt x d[a]!) d j i ≤ N + 1 := by
   by_cases h : i ≤ j + 1
   ·
    have := su.2.1 h; omega
   ·
    rw [scanUp, if_neg (by simp; omega)]; exact hi2
  obtain ⟨v1, v2⟩ := partD_2 hc hN ha hd (i := scanUp (fun x => lt x d[a]!) d j i) (by omega) su1 j hj
  rw [_root_.Go.Proofs.Ytjknpaplgclflaa.R.slices_partitionCmpFunc_int64.l2_eq, u, v2, Go.Sort.partLoop_eq]
  rw [if_pos (by omega), if_pos (by omega)]
 | succ n ih =>
  intro i j d hn hi hi2 hj hd
  have u := partU_2 hc hN ha hd hj _ i (Nat.le_refl _) hi2
  have su := Go.Sort.scanUp_spec (fun x => lt x d[a]!) d j _ i rfl
  have su1 : scanUp (fun x => lt x d[a]!) d j i ≤ N + 1 := by
   by_cases h : i ≤ j + 1
   ·
    have := su.2.1 h; omega
   ·
    rw [scanUp, if_neg (by simp; omega)]; exact hi2
  obtain ⟨v1, v2⟩ := partD_2 hc hN ha hd (i := scanUp (fun x => lt x d[a]!) d j i) (by omega) su1 j hj
  rw [_root_.Go.Proofs.Ytjknpaplgclflaa.R.slices_partitionCmpFunc_int64.l2_eq, u, v2, Go.Sort.partLoop_eq]
  by_cases h : scanUp (fun x => lt x d[a]!) d j i > scanDown (fun x => !lt x d[a]!) d (scanUp (fun x => lt x d[a]!) d j i) j
  ·
   rw [if_pos h, if_pos h]
  ·
   rw [if_neg h, if_neg h]
   exact ih _ _ _ (by omega) (by omega) (by omega) (by omega) (hd.swp (by omega) (by omega))
theorem partF {N : Nat} (hc : Cm H lt C) (hN : N ≤ 1000000000) {a b pivot : Nat} (hp1 : a ≤ pivot) (hp2 : pivot < b) (hb : b ≤ N) {d : Array Value} (hd : Al H N d) :
    _root_.Go.Proofs.Ytjknpaplgclflaa.R.slices_partitionCmpFunc_int64.f d.toList (a : Int) (b : Int) (pivot : Int) C = some (((partition lt d a b pivot).1 : Int), (partition lt d a b pivot).2.1, (partition lt d a b pivot).2.2.toList) := by
  have hs := hd.sz
  rw [_root_.Go.Proofs.Ytjknpaplgclflaa.R.slices_partitionCmpFunc_int64.f_eq, rdA (i := a) (by omega), rdA (i := pivot) (by omega), wn (j := a) (by omega), wP (j := b) (by omega) (by omega)]
  simp only [List.length_set, Array.length_toList, Int.toNat_natCast, swpL, Nat.add_sub_cancel]
  have hd2 := hd.swp (i := a) (j := pivot) (by omega) (by omega)
  obtain ⟨d2, hd2e⟩ : ∃ d2, d2 = Go.Sort.swp d a pivot := ⟨_, rfl⟩
  have e : partition lt d a b pivot = if scanUp (fun x => lt x d2[a]!) d2 (b - 1) (a + 1) > scanDown (fun x => !lt x d2[a]!) d2 (scanUp (fun x => lt x d2[a]!) d2 (b - 1) (a + 1)) (b - 1) then (scanDown (fun x => !lt x d2[a]!) d2 (scanUp (fun x => lt x d2[a]!) d2 (b - 1) (a + 1)) (b - 1), true, swp d2 (scanDown (fun x => !lt x d2[a]!) d2 (scanUp (fun x => lt x d2[a]!) d2 (b - 1) (a + 1)) (b - 1)) a) else
    ((partLoop lt a (scanUp (fun x => lt x d2[a]!) d2 (b - 1) (a + 1) + 1) (scanDown (fun x => !lt x d2[a]!) d2 (scanUp (fun x => lt x d2[a]!) d2 (b - 1) (a + 1)) (b - 1) - 1) (swp d2 (scanUp (fun x => lt x d2[a]!) d2 (b - 1) (a + 1)) (scanDown (fun x => !lt x d2[a]!) d2 (scanUp (fun x => lt x d2[a]!) d2 (b - 1) (a + 1)) (b - 1)))).1, false,
      swp (partLoop lt a (scanUp (fun x => lt x d2[a]!) d2 (b - 1) (a + 1) + 1) (scanDown (fun x => !lt x d2[a]!) d2 (scanUp (fun x => lt x d2[a]!) d2 (b - 1) (a + 1)) (b - 1) - 1) (swp d2 (scanUp (fun x => lt x d2[a]!) d2 (b - 1) (a + 1)) (scanDown (fun x => !lt x d2[a]!) d2 (scanUp (fun x => lt x d2[a]!) d2 (b - 1) (a + 1)) (b - 1)))).2 (partLoop lt a (scanUp (fun x => lt x d2[a]!) d2 (b - 1) (a + 1) + 1) (scanDown (fun x => !lt x d2[a]!) d2 (scanUp (fun x => lt x d2[a]!) d2 (b - 1) (a + 1)) (b - 1) - 1) (swp d2 (scanUp (fun x => lt x d2[a]!) d2 (b - 1) (a + 1)) (scanDown (fun x => !lt x d2[a]!) d2 (scanUp (fun x => lt x d2[a]!) d2 (b - 1) (a + 1)) (b - 1)))).1 a) := by rw [hd2e]; rfl
  rw [← hd2e] at hd2 ⊢
  have u := partU_1 hc hN (a := a) (by omega) hd2 (j := b - 1) (by omega) _ (a + 1) (Nat.le_refl _) (by omega)
  have su := Go.Sort.scanUp_spec (fun x => lt x d2[a]!) d2 (b - 1) _ (a + 1) rfl
  have su1 := su.2.1 (by omega)
  obtain ⟨v1, v2⟩ := partD_1 hc hN (a := a) (by omega) hd2 (i := scanUp (fun x => lt x d2[a]!) d2 (b - 1) (a + 1)) (by omega) (by omega) (b - 1) (by omega)
  rw [u, v2, e]
  by_cases h : scanUp (fun x => lt x d2[a]!) d2 (b - 1) (a + 1) > scanDown (fun x => !lt x d2[a]!) d2 (scanUp (fun x => lt x d2[a]!) d2 (b - 1) (a + 1)) (b - 1)
  · rw [if_pos h, if_pos h]
    (with_reducible repeat (first | refine go_pos (by first | assumption | omega | rfl | exact B_pos (by omega)) ?_ | refine go_neg (by first | assumption | omega | decide | exact B_not (by omega)) ?_ | refine go_bind (by first | assumption) ?_ | dsimp only))
  · rw [if_neg h, if_neg h]
    have := partL hc hN (a := a) (by omega) _ (scanUp (fun x => lt x d2[a]!) d2 (b - 1) (a + 1) + 1) (scanDown (fun x => !lt x d2[a]!) d2 (scanUp (fun x => lt x d2[a]!) d2 (b - 1) (a + 1)) (b - 1) - 1) _ (Nat.le_refl _) (by omega) (by omega) (by omega) (hd2.swp (i := scanUp (fun x => lt x d2[a]!) d2 (b - 1) (a + 1)) (j := scanDown (fun x => !lt x d2[a]!) d2 (scanUp (fun x => lt x d2[a]!) d2 (b - 1) (a + 1)) (b - 1)) (by omega) (by omega))
    (with_reducible repeat (first | refine go_pos (by first | assumption | omega | rfl | exact B_pos (by omega)) ?_ | refine go_neg (by first | assumption | omega | decide | exact B_not (by omega)) ?_ | refine go_bind (by first | assumption) ?_ | dsimp only))
    exact this
theorem peU {N : Nat} (hc : Cm H lt C) (hN : N ≤ 1000000000) {a : Nat} (ha : a < N) {d : Array Value} (hd : Al H N d) {j : Nat} (hj : j < N) : ∀ (n i : Nat), j + 1 - i ≤ n → i ≤ N + 1 →
  _root_.Go.Proofs.Ytjknpaplgclflaa.R.slices_partitionEqualCmpFunc_int64.l1 (a : Int) C (i : Int) (j : Int) d.toList = _root_.Go.Proofs.Ytjknpaplgclflaa.R.slices_partitionEqualCmpFunc_int64.l2 (a : Int) C ((scanUp (fun x => !lt d[a]! x) d j i : Nat) : Int) (j : Int) d.toList := by
 intro n
 induction n with
 | zero =>
  intro i hn hi
  rw [_root_.Go.Proofs.Ytjknpaplgclflaa.R.slices_partitionEqualCmpFunc_int64.l1_eq, if_neg (by omega), scanUp, if_neg (by simp; omega)]
 | succ n ih =>
  intro i hn hi
  have hs := hd.sz
  by_cases h : i ≤ j
  ·
   obtain ⟨c, c1, c2⟩ := hc.cmp _ _ (hd.all a ha) (hd.all i (by omega))
   rw [_root_.Go.Proofs.Ytjknpaplgclflaa.R.slices_partitionEqualCmpFunc_int64.l1_eq, rdA (i := i) (by omega), rdA (i := a) (by omega), wn (j := i) (by omega)]
   simp only [List.length_set, Array.length_toList, Int.toNat_natCast, swpL, Nat.add_sub_cancel]
   by_cases h2 : lt d[a]! d[i]! = true
   ·
    have h3 := c2.2 h2
    have e : scanUp (fun x => !lt d[a]! x) d j i = i := by rw [scanUp, if_neg (by simp [h2])]
    rw [e]
    (with_reducible repeat (first | refine go_pos (by first | assumption | omega | rfl | exact B_pos (by omega)) ?_ | refine go_neg (by first | assumption | omega | decide | exact B_not (by omega)) ?_ | refine go_bind (by first | assumption) ?_ | dsimp only))
   ·
    have h3 : ¬ c < 0 := fun k => h2 (c2.1 k)
    have i1 := ih (i + 1) (by omega) (by omega)
    have e : scanUp (fun x => !lt d[a]! x) d j i = scanUp (fun x => !lt d[a]! x) d j (i + 1) := by rw [scanUp, if_pos (by simp [h, h2])]
    rw [e]
    (with_reducible repeat (first | refine go_pos (by first | assumption | omega | rfl | exact B_pos (by omega)) ?_ | refine go_neg (by first | assumption | omega | decide | exact B_not (by omega)) ?_ | refine go_bind (by first | assumption) ?_ | dsimp only))
    exact i1
  ·
   rw [_root_.Go.Proofs.Ytjknpaplgclflaa.R.slices_partitionEqualCmpFunc_int64.l1_eq, if_neg (by omega), scanUp, if_neg (by simp; omega)]
theorem peD {N : Nat} (hc : Cm H lt C) (hN : N ≤ 1000000000) {a : Nat} (ha : a < N) {d : Array Value} (hd : Al H N d) {i : Nat} (i1 : 1 ≤ i) (i2 : i ≤ N + 1) : ∀ (j : Nat), j < N →
  (scanDown (fun x => lt d[a]! x) d i j ≤ j) ∧
  _root_.Go.Proofs.Ytjknpaplgclflaa.R.slices_partitionEqualCmpFunc_int64.l2 (a : Int) C (i : Int) (j : Int) d.toList = if i > scanDown (fun x => lt d[a]! x) d i j then some ((i : Int), d.toList)
   else _root_.Go.Proofs.Ytjknpaplgclflaa.R.slices_partitionEqualCmpFunc_int64.l0 (a : Int) C ((i + 1 : Nat) : Int) ((scanDown (fun x => lt d[a]! x) d i j - 1 : Nat) : Int) (swp d i (scanDown (fun x => lt d[a]! x) d i j)).toList := by
 intro j
 induction j with
 | zero =>
  intro hj
  have hs := hd.sz
  have e : scanDown (fun x => lt d[a]! x) d i 0 = 0 := rfl
  rw [e, if_pos (by omega)]
  refine ⟨Nat.le_refl _, ?_⟩
  rw [_root_.Go.Proofs.Ytjknpaplgclflaa.R.slices_partitionEqualCmpFunc_int64.l2_eq, if_neg (by omega), if_pos (by omega)]
 | succ j ih =>
  intro hj
  have hs := hd.sz
  obtain ⟨k1, k2⟩ := ih (by omega)
  have e : scanDown (fun x => lt d[a]! x) d i (j + 1) = if i ≤ j + 1 && lt d[a]! d[j + 1]! then scanDown (fun x => lt d[a]! x) d i j else j + 1 := rfl
  by_cases h : i ≤ j + 1
  ·
   obtain ⟨c, c1, c2⟩ := hc.cmp _ _ (hd.all a ha) (hd.all (j + 1) (by omega))
   by_cases h2 : lt d[a]! d[j + 1]! = true
   ·
    have h3 := c2.2 h2
    rw [e.trans (if_pos (by simp [h, h2])), ← k2]
    refine ⟨by omega, ?_⟩
    rw [_root_.Go.Proofs.Ytjknpaplgclflaa.R.slices_partitionEqualCmpFunc_int64.l2_eq, rdA (i := j + 1) (by omega), rdA (i := i) (by omega), rdA (i := a) (by omega), wP (j := j + 1) (by omega) (by omega)]
    simp only [List.length_set, Array.length_toList, Int.toNat_natCast, swpL, Nat.add_sub_cancel]
    (with_reducible repeat (first | refine go_pos (by first | assumption | omega | rfl | exact B_pos (by omega)) ?_ | refine go_neg (by first | assumption | omega | decide | exact B_not (by omega)) ?_ | refine go_bind (by first | assumption) ?_ | dsimp only))
   ·
    have h3 : ¬ c < 0 := fun k => h2 (c2.1 k)
    rw [e.trans (if_neg (by simp [h2])), if_neg (by omega)]
    refine ⟨Nat.le_refl _, ?_⟩
    rw [_root_.Go.Proofs.Ytjknpaplgclflaa.R.slices_partitionEqualCmpFunc_int64.l2_eq, rdA (i := j + 1) (by omega), rdA (i := i) (by omega), rdA (i := a) (by omega), wn (j := i) (by omega), wP (j := j + 1) (by omega) (by omega)]
    simp only [List.length_set, Array.length_toList, Int.toNat_natCast, swpL, Nat.add_sub_cancel]
    (with_reducible repeat (first | refine go_pos (by first | assumption | omega | rfl | exact B_pos (by omega)) ?_ | refine go_neg (by first | assumption | omega | decide | exact B_not (by omega)) ?_ | refine go_bind (by first | assumption) ?_ | dsimp only))
  ·
   rw [e.trans (if_neg (by simp; omega)), if_pos (by omega)]
   refine ⟨Nat.le_refl _, ?_⟩
   rw [_root_.Go.Proofs.Ytjknpaplgclflaa.R.slices_partitionEqualCmpFunc_int64.l2_eq, if_neg (by omega), if_pos (by omega)]
theorem peL {N : Nat} (hc : Cm H lt C) (hN : N ≤ 1000000000) {a : Nat} (ha : a < N) : ∀ (n i j : Nat) (d : Array Value), j + 1 - i ≤ n → 1 ≤ i → i ≤ N + 1 → j < N → Al H N d →
  _root_.Go.Proofs.Ytjknpaplgclflaa.R.slices_partitionEqualCmpFunc_int64.l0 (a : Int) C (i : Int) (j : Int) d.toList = some (((partEqLoop lt a i j d).1 : Int), (partEqLoop lt a i j d).2.toList) := by
 intro n
 induction n with
 | zero =>
  intro i j d hn hi hi2 hj hd
  have u := peU hc hN ha hd hj _ i (Nat.le_refl _) hi2
  have su := Go.Sort.scanUp_spec (fun x => !lt d[a]! x) d j _ i rfl
  have su1 : scanUp (fun x => !lt d[a]! x) d j i ≤ N + 1 := by
   by_cases h : i ≤ j + 1
   ·
    have := su.2.1 h; omega
   ·
    rw [scanUp, if_neg (by simp; omega)]; exact hi2
  obtain ⟨v1, v2⟩ := peD hc hN ha hd (i := scanUp (fun x => !lt d[a]! x) d j i) (by omega) su1 j hj
  rw [_root_.Go.Proofs.Ytjknpaplgclflaa.R.slices_partitionEqualCmpFunc_int64.l0_eq, u, v2, Go.Sort.partEqLoop_eq]
  rw [if_pos (by omega), if_pos (by omega)]
 | succ n ih =>
  intro i j d hn hi hi2 hj hd
  have u := peU hc hN ha hd hj _ i (Nat.le_refl _) hi2
  have su := Go.Sort.scanUp_spec (fun x => !lt d[a]! x) d j _ i rfl
  have su1 : scanUp (fun x => !lt d[a]! x) d j i ≤ N + 1 := by
   by_cases h : i ≤ j + 1
   ·
    have := su.2.1 h; omega
   ·
    rw [scanUp, if_neg (by simp; omega)]; exact hi2
  obtain ⟨v1, v2⟩ := peD hc hN ha hd (i := scanUp (fun x => !lt d[a]! x) d j i) (by omega) su1 j hj
  rw [_root_.Go.Proofs.Ytjknpaplgclflaa.R.slices_partitionEqualCmpFunc_int64.l0_eq, u, v2, Go.Sort.partEqLoop_eq]
  by_cases h : scanUp (fun x => !lt d[a]! x) d j i > scanDown (fun x => lt d[a]! x) d (scanUp (fun x => !lt d[a]! x) d j i) j
  ·
   rw [if_pos h, if_pos h]
  ·
   rw [if_neg h, if_neg h]
   exact ih _ _ _ (by omega) (by omega) (by omega) (by omega) (hd.swp (by omega) (by omega))
theorem peF {N : Nat} (hc : Cm H lt C) (hN : N ≤ 1000000000) {a b pivot : Nat} (hp1 : a ≤ pivot) (hp2 : pivot < b) (hb : b ≤ N) {d : Array Value} (hd : Al H N d) :
  _root_.Go.Proofs.Ytjknpaplgclflaa.R.slices_partitionEqualCmpFunc_int64.f d.toList (a : Int) (b : Int) (pivot : Int) C = some (((partitionEqual lt d a b pivot).1 : Int), (partitionEqual lt d a b pivot).2.toList) := by
 have hs := hd.sz
 rw [_root_.Go.Proofs.Ytjknpaplgclflaa.R.slices_partitionEqualCmpFunc_int64.f_eq, rdA (i := a) (by omega), rdA (i := pivot) (by omega), wn (j := a) (by omega), wP (j := b) (by omega) (by omega)]
 simp only [List.length_set, Array.length_toList, Int.toNat_natCast, swpL, Nat.add_sub_cancel]
 have := peL hc hN (a := a) (by omega) _ (a + 1) (b - 1) _ (Nat.le_refl _) (by omega) (by omega) (by omega) (hd.swp (i := a) (j := pivot) (by omega) (by omega))
 (with_reducible repeat (first | refine go_pos (by first | assumption | omega | rfl | exact B_pos (by omega)) ?_ | refine go_neg (by first | assumption | omega | decide | exact B_not (by omega)) ?_ | refine go_bind (by first | assumption) ?_ | dsimp only))
 exact this
end Go.Proofs.Ytjknpaplgclflaa.V
namespace Go.Proofs.Ytjknpaplgclflaa.V
open Go Go.RowKit Go.Proofs.Ytjknpaplgclflaa.D Go.Proofs.Ytjknpaplgclflaa.P
open Go.Sort (swp insInner insOuter insertionSort siftDown heapBuild heapPop heapSort scanUp scanDown partLoop partition partEqLoop partitionEqual scanSorted shiftDown shiftUp partialIns partialInsertionSort reverseLoop reverseRange SWO PermIn SortedIn fixDown fixUp)
variable {H : Value → Prop} {lt : Value → Value → Bool} {C : Value → Value → Option Int}
theorem Al.perm {N a b : Nat} {d d' : Array Value} (hd : Al H N d) (hb : b ≤ N) (h : PermIn a b d d') : Al H N d' where
 sz := h.1.trans hd.sz
 all := fun i hi => by
  by_cases k : a ≤ i ∧ i < b
  ·
   exact Go.Sort.permIn_all d d' a b H (by rw [hd.sz]; exact hb) h (fun j h1 h2 => hd.all j (by omega)) i k.1 k.2
  ·
   rw [h.2.1 i (by omega)]; exact hd.all i hi
theorem psDown {N : Nat} (hc : Cm H lt C) (hN : N ≤ 1000000000) {x1 x2 x9 x10 : Int} : ∀ (j : Nat) (d : Array Value), j < N → Al H N d →
  _root_.Go.Proofs.Ytjknpaplgclflaa.R.slices_partialInsertionSortCmpFunc_int64.l2 x1 x2 C x9 x10 (j : Int) d.toList = _root_.Go.Proofs.Ytjknpaplgclflaa.R.slices_partialInsertionSortCmpFunc_int64.j3 x1 x2 C x9 x10 (shiftDown lt j d).toList ∧ Al H N (shiftDown lt j d) := by
 intro j
 induction j with
 | zero =>
  intro d hj hd
  refine ⟨?_, hd⟩
  rw [_root_.Go.Proofs.Ytjknpaplgclflaa.R.slices_partialInsertionSortCmpFunc_int64.l2_eq, if_neg (by omega)]
  rfl
 | succ j ih =>
  intro d hj hd
  have hs := hd.sz
  obtain ⟨c, c1, c2⟩ := hc.cmp _ _ (hd.all (j + 1) hj) (hd.all j (by omega))
  have e : shiftDown lt (j + 1) d = if !lt d[j + 1]! d[j]! then d else shiftDown lt j (Go.Sort.swp d (j + 1) j) := rfl
  have w1 : wrapI (((j + 1 : Nat) : Int) - 1) = (j : Int) := by rw [w64 (by omega) (by omega)]; omega
  rw [_root_.Go.Proofs.Ytjknpaplgclflaa.R.slices_partialInsertionSortCmpFunc_int64.l2_eq, w1, rdA (i := j + 1) (by omega), rdA (i := j) (by omega)]
  simp only [List.length_set, Array.length_toList, Int.toNat_natCast, swpL, Nat.add_sub_cancel]
  by_cases h2 : lt d[j + 1]! d[j]! = true
  ·
   have h3 := c2.2 h2
   obtain ⟨i1, i2⟩ := ih (Go.Sort.swp d (j + 1) j) (by omega) (hd.swp hj (by omega))
   rw [e.trans (if_neg (by simp [h2]))]
   refine ⟨?_, i2⟩
   (with_reducible repeat (first | refine go_pos (by first | assumption | omega | rfl | exact B_pos (by omega)) ?_ | refine go_neg (by first | assumption | omega | decide | exact B_not (by omega)) ?_ | refine go_bind (by first | assumption) ?_ | dsimp only))
   exact i1
  ·
   have h3 : ¬ c < 0 := fun k => h2 (c2.1 k)
   rw [e.trans (if_pos (by simp [h2]))]
   refine ⟨?_, hd⟩
   (with_reducible repeat (first | refine go_pos (by first | assumption | omega | rfl | exact B_pos (by omega)) ?_ | refine go_neg (by first | assumption | omega | decide | exact B_not (by omega)) ?_ | refine go_bind (by first | assumption) ?_ | dsimp only))
theorem psUp {N : Nat} (hc : Cm H lt C) (hN : N ≤ 1000000000) {x1 x9 x10 : Int} {b : Nat} (hb : b ≤ N) : ∀ (n j : Nat) (d : Array Value), b - j ≤ n → 1 ≤ j → j ≤ N + 1 → Al H N d →
  _root_.Go.Proofs.Ytjknpaplgclflaa.R.slices_partialInsertionSortCmpFunc_int64.l4 x1 (b : Int) C x9 x10 (j : Int) d.toList = _root_.Go.Proofs.Ytjknpaplgclflaa.R.slices_partialInsertionSortCmpFunc_int64.l0 x1 (b : Int) C x9 (wrapI (x10 + 1)) (shiftUp lt b j d).toList ∧ Al H N (shiftUp lt b j d) := by
 intro n
 induction n with
 | zero =>
  intro j d hn h1 hj hd
  rw [_root_.Go.Proofs.Ytjknpaplgclflaa.R.slices_partialInsertionSortCmpFunc_int64.l4_eq, if_neg (by omega), shiftUp, if_neg (by omega)]
  exact ⟨rfl, hd⟩
 | succ n ih =>
  intro j d hn h1 hj hd
  have hs := hd.sz
  by_cases h : j < b
  ·
   obtain ⟨c, c1, c2⟩ := hc.cmp _ _ (hd.all j (by omega)) (hd.all (j - 1) (by omega))
   rw [_root_.Go.Proofs.Ytjknpaplgclflaa.R.slices_partialInsertionSortCmpFunc_int64.l4_eq, wP (j := j) (by omega) (by omega), wn (j := j) (by omega), rdA (i := j) (by omega), rdA (i := j - 1) (by omega)]
   simp only [List.length_set, Array.length_toList, Int.toNat_natCast, swpL, Nat.add_sub_cancel]
   by_cases h2 : lt d[j]! d[j - 1]! = true
   ·
    have h3 := c2.2 h2
    obtain ⟨i1, i2⟩ := ih (j + 1) (Go.Sort.swp d j (j - 1)) (by omega) (by omega) (by omega) (hd.swp (by omega) (by omega))
    have e : shiftUp lt b j d = shiftUp lt b (j + 1) (Go.Sort.swp d j (j - 1)) := by rw [shiftUp, if_pos h, if_neg (by simp [h2])]
    rw [e]
    refine ⟨?_, i2⟩
    (with_reducible repeat (first | refine go_pos (by first | assumption | omega | rfl | exact B_pos (by omega)) ?_ | refine go_neg (by first | assumption | omega | decide | exact B_not (by omega)) ?_ | refine go_bind (by first | assumption) ?_ | dsimp only))
    exact i1
   ·
    have h3 : ¬ c < 0 := fun k => h2 (c2.1 k)
    have e : shiftUp lt b j d = d := by rw [shiftUp, if_pos h, if_pos (by simp [h2])]
    rw [e]
    refine ⟨?_, hd⟩
    (with_reducible repeat (first | refine go_pos (by first | assumption | omega | rfl | exact B_pos (by omega)) ?_ | refine go_neg (by first | assumption | omega | decide | exact B_not (by omega)) ?_ | refine go_bind (by first | assumption) ?_ | dsimp only))
  ·
   rw [_root_.Go.Proofs.Ytjknpaplgclflaa.R.slices_partialInsertionSortCmpFunc_int64.l4_eq, if_neg (by omega), shiftUp, if_neg h]
   exact ⟨rfl, hd⟩
theorem psAfter {N : Nat} (hc : Cm H lt C) (hN : N ≤ 1000000000) {a b : Nat} (hb : b ≤ N) {x10 : Int} {i : Nat} (hai : a < i) (hib : i ≤ b) {d : Array Value} (hd : Al H N d)
  (hst : i < b → lt d[i]! d[i - 1]! = true) :
  (i = b → _root_.Go.Proofs.Ytjknpaplgclflaa.R.slices_partialInsertionSortCmpFunc_int64.l1 (a : Int) (b : Int) C (i : Int) x10 d.toList = some (true, d.toList)) ∧
  (i < b → b - a < 50 → _root_.Go.Proofs.Ytjknpaplgclflaa.R.slices_partialInsertionSortCmpFunc_int64.l1 (a : Int) (b : Int) C (i : Int) x10 d.toList = some (false, d.toList)) ∧
  (i < b → ¬ b - a < 50 → _root_.Go.Proofs.Ytjknpaplgclflaa.R.slices_partialInsertionSortCmpFunc_int64.l1 (a : Int) (b : Int) C (i : Int) x10 d.toList = _root_.Go.Proofs.Ytjknpaplgclflaa.R.slices_partialInsertionSortCmpFunc_int64.l0 (a : Int) (b : Int) C (i : Int) (wrapI (x10 + 1)) (fixUp lt b i (fixDown lt a i (Go.Sort.swp d i (i - 1)))).toList ∧ Al H N (fixUp lt b i (fixDown lt a i (Go.Sort.swp d i (i - 1))))) := by
 have hs := hd.sz
 refine ⟨fun h => ?_, fun h h50 => ?_, fun h h50 => ?_⟩
 ·
  rw [_root_.Go.Proofs.Ytjknpaplgclflaa.R.slices_partialInsertionSortCmpFunc_int64.l1_eq, if_neg (by omega), if_pos (by omega)]
 ·
  obtain ⟨c, c1, c2⟩ := hc.cmp _ _ (hd.all i (by omega)) (hd.all (i - 1) (by omega))
  have h3 := c2.2 (hst h)
  rw [_root_.Go.Proofs.Ytjknpaplgclflaa.R.slices_partialInsertionSortCmpFunc_int64.l1_eq, wP (j := i) (by omega) (by omega), wS (a := b) (b := a) (by omega) (by omega), rdA (i := i) (by omega), rdA (i := i - 1) (by omega)]
  simp only [List.length_set, Array.length_toList, Int.toNat_natCast, swpL, Nat.add_sub_cancel]
  (with_reducible repeat (first | refine go_pos (by first | assumption | omega | rfl | exact B_pos (by omega)) ?_ | refine go_neg (by first | assumption | omega | decide | exact B_not (by omega)) ?_ | refine go_bind (by first | assumption) ?_ | dsimp only))
 ·
  obtain ⟨c, c1, c2⟩ := hc.cmp _ _ (hd.all i (by omega)) (hd.all (i - 1) (by omega))
  have h3 := c2.2 (hst h)
  have hd1 := hd.swp (i := i) (j := i - 1) (by omega) (by omega)
  have up : ∀ d2 : Array Value, Al H N d2 → _root_.Go.Proofs.Ytjknpaplgclflaa.R.slices_partialInsertionSortCmpFunc_int64.j3 (a : Int) (b : Int) C (i : Int) x10 d2.toList = _root_.Go.Proofs.Ytjknpaplgclflaa.R.slices_partialInsertionSortCmpFunc_int64.l0 (a : Int) (b : Int) C (i : Int) (wrapI (x10 + 1)) (fixUp lt b i d2).toList ∧ Al H N (fixUp lt b i d2) := fun d2 h2 => by
   unfold fixUp
   rw [_root_.Go.Proofs.Ytjknpaplgclflaa.R.slices_partialInsertionSortCmpFunc_int64.j3_eq, wS (a := b) (b := i) (by omega) (by omega), wn (j := i) (by omega)]
   by_cases k : b - i ≥ 2
   ·
    rw [if_pos (by omega), if_pos k]
    exact psUp hc hN hb _ (i + 1) d2 (Nat.le_refl _) (by omega) (by omega) h2
   ·
    rw [if_neg (by omega), if_neg k]
    exact ⟨rfl, h2⟩
  have dn : (if ((i - a : Nat) : Int) ≥ 2 then _root_.Go.Proofs.Ytjknpaplgclflaa.R.slices_partialInsertionSortCmpFunc_int64.l2 (a : Int) (b : Int) C (i : Int) x10 ((i - 1 : Nat) : Int) (Go.Sort.swp d i (i - 1)).toList else _root_.Go.Proofs.Ytjknpaplgclflaa.R.slices_partialInsertionSortCmpFunc_int64.j3 (a : Int) (b : Int) C (i : Int) x10 (Go.Sort.swp d i (i - 1)).toList)
    = _root_.Go.Proofs.Ytjknpaplgclflaa.R.slices_partialInsertionSortCmpFunc_int64.j3 (a : Int) (b : Int) C (i : Int) x10 (fixDown lt a i (Go.Sort.swp d i (i - 1))).toList ∧ Al H N (fixDown lt a i (Go.Sort.swp d i (i - 1))) := by
   unfold fixDown
   by_cases k : i - a ≥ 2
   ·
    rw [if_pos (by omega), if_pos k]
    exact psDown hc hN (i - 1) _ (by omega) hd1
   ·
    rw [if_neg (by omega), if_neg k]
    exact ⟨rfl, hd1⟩
  obtain ⟨u1, u2⟩ := up _ dn.2
  refine ⟨?_, u2⟩
  rw [_root_.Go.Proofs.Ytjknpaplgclflaa.R.slices_partialInsertionSortCmpFunc_int64.l1_eq, wP (j := i) (by omega) (by omega), wS (a := b) (b := a) (by omega) (by omega), wS (a := i) (b := a) (by omega) (by omega), rdA (i := i) (by omega), rdA (i := i - 1) (by omega)]
  simp only [List.length_set, Array.length_toList, Int.toNat_natCast, swpL, Nat.add_sub_cancel]
  rw [dn.1, u1]
  (with_reducible repeat (first | refine go_pos (by first | assumption | omega | rfl | exact B_pos (by omega)) ?_ | refine go_neg (by first | assumption | omega | decide | exact B_not (by omega)) ?_ | refine go_bind (by first | assumption) ?_ | dsimp only))
theorem psScan {N : Nat} (hc : Cm H lt C) (hN : N ≤ 1000000000) {a b : Nat} (hb : b ≤ N) {x10 : Int} {d : Array Value} (hd : Al H N d) : ∀ (n i : Nat), b - i ≤ n → a < i → i ≤ b →
  _root_.Go.Proofs.Ytjknpaplgclflaa.R.slices_partialInsertionSortCmpFunc_int64.l1 (a : Int) (b : Int) C (i : Int) x10 d.toList = _root_.Go.Proofs.Ytjknpaplgclflaa.R.slices_partialInsertionSortCmpFunc_int64.l1 (a : Int) (b : Int) C ((scanSorted lt d b i : Nat) : Int) x10 d.toList ∧ i ≤ scanSorted lt d b i ∧ scanSorted lt d b i ≤ b ∧ (scanSorted lt d b i < b → lt d[scanSorted lt d b i]! d[scanSorted lt d b i - 1]! = true) := by
 intro n
 induction n with
 | zero =>
  intro i hn hi hib
  have e : scanSorted lt d b i = i := by rw [scanSorted, if_neg (by simp; omega)]
  rw [e]
  exact ⟨rfl, Nat.le_refl _, hib, fun h => by omega⟩
 | succ n ih =>
  intro i hn hi hib
  have hs := hd.sz
  by_cases h : i < b
  ·
   by_cases h2 : lt d[i]! d[i - 1]! = true
   ·
    have e : scanSorted lt d b i = i := by rw [scanSorted, if_neg (by simp [h2])]
    rw [e]
    exact ⟨rfl, Nat.le_refl _, hib, fun _ => h2⟩
   ·
    obtain ⟨c, c1, c2⟩ := hc.cmp _ _ (hd.all i (by omega)) (hd.all (i - 1) (by omega))
    have h3 : ¬ c < 0 := fun k => h2 (c2.1 k)
    have e : scanSorted lt d b i = scanSorted lt d b (i + 1) := by rw [scanSorted, if_pos (by simp [h, h2])]
    obtain ⟨i1, i2, i3, i4⟩ := ih (i + 1) (by omega) (by omega) (by omega)
    rw [e]
    refine ⟨?_, by omega, i3, i4⟩
    rw [← i1]
    conv => lhs; rw [_root_.Go.Proofs.Ytjknpaplgclflaa.R.slices_partialInsertionSortCmpFunc_int64.l1_eq]
    rw [wP (j := i) (by omega) (by omega), wn (j := i) (by omega), rdA (i := i) (by omega), rdA (i := i - 1) (by omega)]
    simp only [List.length_set, Array.length_toList, Int.toNat_natCast, swpL, Nat.add_sub_cancel]
    (with_reducible repeat (first | refine go_pos (by first | assumption | omega | rfl | exact B_pos (by omega)) ?_ | refine go_neg (by first | assumption | omega | decide | exact B_not (by omega)) ?_ | refine go_bind (by first | assumption) ?_ | dsimp only))
  ·
   have e : scanSorted lt d b i = i := by rw [scanSorted, if_neg (by simp; omega)]
   rw [e]
   exact ⟨rfl, Nat.le_refl _, hib, fun k => absurd k h⟩
theorem psMain {N : Nat} (hc : Cm H lt C) (hN : N ≤ 1000000000) {a b : Nat} (hb : b ≤ N) : ∀ (s k i : Nat) (d : Array Value), k + s = 5 → a < i → i ≤ b → Al H N d →
  _root_.Go.Proofs.Ytjknpaplgclflaa.R.slices_partialInsertionSortCmpFunc_int64.l0 (a : Int) (b : Int) C (i : Int) (k : Int) d.toList = some ((partialIns lt a b s i d).2, (partialIns lt a b s i d).1.toList) := by
 intro s
 induction s with
 | zero =>
  intro k i d hk hi hib hd
  rw [_root_.Go.Proofs.Ytjknpaplgclflaa.R.slices_partialInsertionSortCmpFunc_int64.l0_eq, if_neg (by omega)]
  rfl
 | succ s ih =>
  intro k i d hk hi hib hd
  obtain ⟨s1, s2, s3, s4⟩ := psScan hc hN hb (x10 := (k : Int)) hd _ i (Nat.le_refl _) hi hib
  rw [_root_.Go.Proofs.Ytjknpaplgclflaa.R.slices_partialInsertionSortCmpFunc_int64.l0_eq, if_pos (by omega), s1, Go.Sort.partialIns_succ]
  obtain ⟨a1, a2, a3⟩ := psAfter hc hN hb (x10 := (k : Int)) (a := a) (i := scanSorted lt d b i) (by omega) s3 hd s4
  by_cases h : scanSorted lt d b i = b
  ·
   rw [if_pos h, a1 h]
  ·
   rw [if_neg h]
   by_cases h2 : b - a < 50
   ·
    rw [if_pos h2, a2 (by omega) h2]
   ·
    rw [if_neg h2]
    obtain ⟨u1, u2⟩ := a3 (by omega) h2
    rw [u1, wn (j := k) (by omega)]
    exact ih _ _ _ (by omega) (by omega) s3 u2
theorem psF {N : Nat} (hc : Cm H lt C) (hN : N ≤ 1000000000) {a b : Nat} (hab : a < b) (hb : b ≤ N) {d : Array Value} (hd : Al H N d) :
  _root_.Go.Proofs.Ytjknpaplgclflaa.R.slices_partialInsertionSortCmpFunc_int64.f d.toList (a : Int) (b : Int) C = some ((partialInsertionSort lt d a b).2, (partialInsertionSort lt d a b).1.toList) := by
 rw [_root_.Go.Proofs.Ytjknpaplgclflaa.R.slices_partialInsertionSortCmpFunc_int64.f_eq, wn (j := a) (by omega)]
 exact psMain hc hN hb 5 0 (a + 1) d rfl (by omega) (by omega) hd
theorem ord2 {N : Nat} (hc : Cm H lt C) {d : Array Value} (hd : Al H N d) {a b : Nat} (ha : a < N) (hb : b < N) (s : Int) :
  ∃ (x y : Nat) (s' : Int), _root_.Go.Proofs.Ytjknpaplgclflaa.R.slices_order2CmpFunc_int64.f d.toList (a : Int) (b : Int) s C = some ((x : Int), (y : Int), s') ∧ ((x = a ∧ y = b) ∨ (x = b ∧ y = a)) := by
 have hs := hd.sz
 obtain ⟨c, c1, c2⟩ := hc.cmp _ _ (hd.all b hb) (hd.all a ha)
 rw [_root_.Go.Proofs.Ytjknpaplgclflaa.R.slices_order2CmpFunc_int64.f_eq, rdA (i := a) (by omega), rdA (i := b) (by omega)]
 simp only [List.length_set, Array.length_toList, Int.toNat_natCast, swpL, Nat.add_sub_cancel]
 by_cases h : c < 0
 ·
  refine ⟨b, a, wrapI (s + 1), ?_, .inr ⟨rfl, rfl⟩⟩
  (with_reducible repeat (first | refine go_pos (by first | assumption | omega | rfl | exact B_pos (by omega)) ?_ | refine go_neg (by first | assumption | omega | decide | exact B_not (by omega)) ?_ | refine go_bind (by first | assumption) ?_ | dsimp only))
 ·
  refine ⟨a, b, s, ?_, .inl ⟨rfl, rfl⟩⟩
  (with_reducible repeat (first | refine go_pos (by first | assumption | omega | rfl | exact B_pos (by omega)) ?_ | refine go_neg (by first | assumption | omega | decide | exact B_not (by omega)) ?_ | refine go_bind (by first | assumption) ?_ | dsimp only))
theorem med {N : Nat} (hc : Cm H lt C) {d : Array Value} (hd : Al H N d) {a b c : Nat} (ha : a < N) (hb : b < N) (hcN : c < N) (s : Int) :
  ∃ (x : Nat) (s' : Int), _root_.Go.Proofs.Ytjknpaplgclflaa.R.slices_medianCmpFunc_int64.f d.toList (a : Int) (b : Int) (c : Int) s C = some ((x : Int), s') ∧ (x = a ∨ x = b ∨ x = c) := by
 obtain ⟨x1, y1, s1, e1, k1⟩ := ord2 hc hd ha hb s
 obtain ⟨x2, y2, s2, e2, k2⟩ := ord2 hc hd (a := y1) (b := c) (by omega) hcN s1
 obtain ⟨x3, y3, s3, e3, k3⟩ := ord2 hc hd (a := x1) (b := x2) (by omega) (by omega) s2
 refine ⟨y3, s3, ?_, by omega⟩
 rw [_root_.Go.Proofs.Ytjknpaplgclflaa.R.slices_medianCmpFunc_int64.f_eq, map_id', e1]
 dsimp only [Option.bind_some]
 rw [e2]
 dsimp only [Option.bind_some]
 rw [e3]
 rfl
theorem medA {N : Nat} (hc : Cm H lt C) (hN : N ≤ 1000000000) {d : Array Value} (hd : Al H N d) {a : Nat} (h1 : 1 ≤ a) (ha : a + 1 < N) (s : Int) :
  ∃ (x : Nat) (s' : Int), _root_.Go.Proofs.Ytjknpaplgclflaa.R.slices_medianAdjacentCmpFunc_int64.f d.toList (a : Int) s C = some ((x : Int), s') ∧ (x = a - 1 ∨ x = a ∨ x = a + 1) := by
 obtain ⟨x, s', e, k⟩ := med hc hd (a := a - 1) (b := a) (c := a + 1) (by omega) (by omega) ha s
 refine ⟨x, s', ?_, k⟩
 rw [_root_.Go.Proofs.Ytjknpaplgclflaa.R.slices_medianAdjacentCmpFunc_int64.f_eq, map_id', wP (j := a) (by omega) (by omega), wn (j := a) (by omega), e]
 rfl
theorem pivF {N : Nat} (hc : Cm H lt C) (hN : N ≤ 1000000000) {a b : Nat} (hab : a < b) (hb : b ≤ N) {d : Array Value} (hd : Al H N d) :
  ∃ (x : Nat) (h : Int), _root_.Go.Proofs.Ytjknpaplgclflaa.R.slices_choosePivotCmpFunc_int64.f d.toList (a : Int) (b : Int) C = some ((x : Int), h) ∧ a ≤ x ∧ x < b := by
 have t4 : ((b - a : Nat) : Int).tdiv 4 = ((((b - a) / 4 : Nat)) : Int) := by rw [Int.tdiv_eq_ediv_of_nonneg (by omega)]; omega
 have m1 : ∀ q : Nat, q ≤ N → ∀ k : Nat, k ≤ 3 → wrapI ((q : Int) * (k : Int)) = ((q * k : Nat) : Int) := fun q hq k hk => by
  have : q * k ≤ N * 3 := Nat.mul_le_mul hq hk
  rw [w64 (by omega) (by rw [← Int.natCast_mul]; omega), Int.natCast_mul]
 have e1 := m1 ((b - a) / 4) (by omega) 1 (by omega)
 have e2 := m1 ((b - a) / 4) (by omega) 2 (by omega)
 have e3 := m1 ((b - a) / 4) (by omega) 3 (by omega)
 rw [_root_.Go.Proofs.Ytjknpaplgclflaa.R.slices_choosePivotCmpFunc_int64.f_eq, wS (a := b) (b := a) (by omega) (by omega), t4, w64 (x := (((b - a) / 4 : Nat) : Int)) (by omega) (by omega)]
 rw [show (((b - a) / 4 : Nat) : Int) * 1 = (((b - a) / 4 : Nat) : Int) * ((1 : Nat) : Int) from rfl, show (((b - a) / 4 : Nat) : Int) * 2 = (((b - a) / 4 : Nat) : Int) * ((2 : Nat) : Int) from rfl, show (((b - a) / 4 : Nat) : Int) * 3 = (((b - a) / 4 : Nat) : Int) * ((3 : Nat) : Int) from rfl, e1, e2, e3,
  wA (a := a) (b := (b - a) / 4 * 1) (by omega), wA (a := a) (b := (b - a) / 4 * 2) (by omega), wA (a := a) (b := (b - a) / 4 * 3) (by omega), map_id']
 have fin : ∀ (x : Nat) (s : Int), ∃ h : Int, (if s = 0 then some ((x : Int), (1 : Int)) else (if s = 12 then some ((x : Int), 2) else some ((x : Int), 0))) = some ((x : Int), h) := fun x s => by
  by_cases h : s = 0
  ·
   exact ⟨1, by rw [if_pos h]⟩
  ·
   by_cases h2 : s = 12
   ·
    exact ⟨2, by rw [if_neg h, if_pos h2]⟩
   ·
    exact ⟨0, by rw [if_neg h, if_neg h2]⟩
 by_cases h8 : b - a ≥ 8
 ·
  rw [if_pos (by omega)]
  by_cases h50 : b - a ≥ 50
  ·
   rw [if_pos (by omega)]
   obtain ⟨x1, s1, f1, k1⟩ := medA hc hN hd (a := a + (b - a) / 4 * 1) (by omega) (by omega) 0
   obtain ⟨x2, s2, f2, k2⟩ := medA hc hN hd (a := a + (b - a) / 4 * 2) (by omega) (by omega) s1
   obtain ⟨x3, s3, f3, k3⟩ := medA hc hN hd (a := a + (b - a) / 4 * 3) (by omega) (by omega) s2
   obtain ⟨x4, s4, f4, k4⟩ := med hc hd (a := x1) (b := x2) (c := x3) (by omega) (by omega) (by omega) s3
   obtain ⟨h, fh⟩ := fin x4 s4
   refine ⟨x4, h, ?_, by omega, by omega⟩
   rw [f1]
   dsimp only [Option.bind_some]
   rw [f2]
   dsimp only [Option.bind_some]
   rw [f3]
   dsimp only [Option.bind_some]
   rw [f4]
   dsimp only [Option.bind_some]
   exact fh
  ·
   rw [if_neg (by omega)]
   obtain ⟨x4, s4, f4, k4⟩ := med hc hd (a := a + (b - a) / 4 * 1) (b := a + (b - a) / 4 * 2) (c := a + (b - a) / 4 * 3) (by omega) (by omega) (by omega) 0
   obtain ⟨h, fh⟩ := fin x4 s4
   refine ⟨x4, h, ?_, by omega, by omega⟩
   rw [f4]
   dsimp only [Option.bind_some]
   exact fh
 ·
  rw [if_neg (by omega)]
  exact ⟨a + (b - a) / 4 * 2, 1, rfl, by omega, by omega⟩
theorem wr_id {x : Int} (h0 : 0 ≤ x) (h1 : x < 18446744073709551616) : wr .u64 x = x := by
 show hid _ = _
 rw [hid_eq]
 simp [IntKind.wrap, IntKind.bits, IntKind.signed]
 omega
theorem and_bd (x : Int) {m : Nat} (hm : m < 18446744073709551616) : ∃ o : Nat, andI .u64 x (m : Int) = (o : Int) ∧ o ≤ m := by
 have hlt : (BitVec.ofInt 64 x &&& BitVec.ofInt 64 (m : Int)).toNat ≤ m := by
  rw [BitVec.toNat_and]
  refine Nat.le_trans Nat.and_le_right ?_
  rw [BitVec.toNat_ofInt]
  omega
 refine ⟨(BitVec.ofInt 64 x &&& BitVec.ofInt 64 (m : Int)).toNat, ?_, hlt⟩
 show hid _ = _
 rw [hid_eq]
 show wr .u64 (((BitVec.ofInt 64 x &&& BitVec.ofInt 64 (m : Int)).toNat : Nat) : Int) = _
 exact wr_id (by omega) (by omega)
theorem brkL {N : Nat} (hN : N ≤ 1000000000) {a b m : Nat} (h8 : 8 ≤ b - a) (hb : b ≤ N) (m0 : 1 ≤ m) (m1 : m ≤ 2 * (b - a)) : ∀ (n i : Nat) (d : Array Value) (r : Int), a + (b - a) / 4 * 2 + 2 - i ≤ n → a ≤ i → i ≤ a + (b - a) / 4 * 2 + 2 → Al H N d →
  ∃ d', _root_.Go.Proofs.Ytjknpaplgclflaa.R.slices_breakPatternsCmpFunc_int64.l0 (a : Int) ((b - a : Nat) : Int) (m : Int) (i : Int) d.toList r = some d'.toList ∧ PermIn a b d d' := by
 have t4 : ((b - a : Nat) : Int).tdiv 4 = ((((b - a) / 4 : Nat)) : Int) := by rw [Int.tdiv_eq_ediv_of_nonneg (by omega)]; omega
 have e2 : wrapI ((((b - a) / 4 : Nat) : Int) * 2) = (((b - a) / 4 * 2 : Nat) : Int) := by rw [w64 (by omega) (by omega)]; omega
 have e3 : wrapI (((a + (b - a) / 4 * 2 : Nat) : Int) + 1) = ((a + (b - a) / 4 * 2 + 1 : Nat) : Int) := wn (by omega)
 intro n
 induction n with
 | zero =>
  intro i d r hn hi hi2 hd
  refine ⟨d, ?_, Go.Sort.permIn_refl d a b⟩
  rw [_root_.Go.Proofs.Ytjknpaplgclflaa.R.slices_breakPatternsCmpFunc_int64.l0_eq, t4, w64 (x := (((b - a) / 4 : Nat) : Int)) (by omega) (by omega), e2, wA (a := a) (b := (b - a) / 4 * 2) (by omega), e3, if_neg (by omega)]
 | succ n ih =>
  intro i d r hn hi hi2 hd
  have hs := hd.sz
  by_cases h : i ≤ a + (b - a) / 4 * 2 + 1
  ·
   have hib : i < b := by omega
   obtain ⟨r1, hr⟩ : ∃ r1, _root_.Go.Proofs.Ytjknpaplgclflaa.R.slices_xorshift_Next.f r = some (r1, r1) := ⟨_, _root_.Go.Proofs.Ytjknpaplgclflaa.R.slices_xorshift_Next.f_eq r⟩
   obtain ⟨o, ho, om⟩ := and_bd r1 (m := m - 1) (by omega)
   have wm : wr .u64 ((m : Int) - 1) = ((m - 1 : Nat) : Int) := by rw [wr_id (by omega) (by omega)]; omega
   rw [_root_.Go.Proofs.Ytjknpaplgclflaa.R.slices_breakPatternsCmpFunc_int64.l0_eq, t4, w64 (x := (((b - a) / 4 : Nat) : Int)) (by omega) (by omega), e2, wA (a := a) (b := (b - a) / 4 * 2) (by omega), e3, if_pos (by omega), hr]
   dsimp only [Option.bind_some]
   rw [wm, ho, w64 (x := (o : Int)) (by omega) (by omega), wn (j := i) (by omega), rdA (i := i) (by omega)]
   by_cases h2 : o ≥ b - a
   ·
    rw [if_pos (by omega), wS (a := o) (b := b - a) (by omega) (by omega), wA (a := a) (b := o - (b - a)) (by omega), rdA (i := a + (o - (b - a))) (by omega)]
    simp only [List.length_set, Array.length_toList, Int.toNat_natCast, swpL, Nat.add_sub_cancel]
    obtain ⟨d', d1, d2⟩ := ih (i + 1) (Go.Sort.swp d i (a + (o - (b - a)))) r1 (by omega) (by omega) (by omega) (hd.swp (by omega) (by omega))
    refine ⟨d', ?_, Go.Sort.permIn_trans _ _ _ a b (Go.Sort.swp_permIn d a b i (a + (o - (b - a))) hi hib (by omega) (by omega) (by omega)) d2⟩
    (with_reducible repeat (first | refine go_pos (by first | assumption | omega | rfl | exact B_pos (by omega)) ?_ | refine go_neg (by first | assumption | omega | decide | exact B_not (by omega)) ?_ | refine go_bind (by first | assumption) ?_ | dsimp only))
    exact d1
   ·
    rw [if_neg (by omega), wA (a := a) (b := o) (by omega), rdA (i := a + o) (by omega)]
    simp only [List.length_set, Array.length_toList, Int.toNat_natCast, swpL, Nat.add_sub_cancel]
    obtain ⟨d', d1, d2⟩ := ih (i + 1) (Go.Sort.swp d i (a + o)) r1 (by omega) (by omega) (by omega) (hd.swp (by omega) (by omega))
    refine ⟨d', ?_, Go.Sort.permIn_trans _ _ _ a b (Go.Sort.swp_permIn d a b i (a + o) hi hib (by omega) (by omega) (by omega)) d2⟩
    (with_reducible repeat (first | refine go_pos (by first | assumption | omega | rfl | exact B_pos (by omega)) ?_ | refine go_neg (by first | assumption | omega | decide | exact B_not (by omega)) ?_ | refine go_bind (by first | assumption) ?_ | dsimp only))
    exact d1
  ·
   refine ⟨d, ?_, Go.Sort.permIn_refl d a b⟩
   rw [_root_.Go.Proofs.Ytjknpaplgclflaa.R.slices_breakPatternsCmpFunc_int64.l0_eq, t4, w64 (x := (((b - a) / 4 : Nat) : Int)) (by omega) (by omega), e2, wA (a := a) (b := (b - a) / 4 * 2) (by omega), e3, if_neg (by omega)]
theorem npow {L : Nat} (h0 : 0 < L) (h1 : L ≤ 1000000000) : ∃ m : Nat, _root_.Go.Proofs.Ytjknpaplgclflaa.R.slices_nextPowerOfTwo.f (L : Int) = some (m : Int) ∧ 1 ≤ m ∧ m ≤ 2 * L := by
 obtain ⟨b1, b2, b3⟩ := Lib.bitLenAux_bounds 64 L (by omega) (by omega)
 have e : Lib.bitLenAux 64 L - 1 + 1 = Lib.bitLenAux 64 L := by omega
 have hp : 2 ^ Lib.bitLenAux 64 L ≤ 2 * L := by rw [← e, Nat.pow_succ]; omega
 have hk : Lib.bitLenAux 64 L ≤ 64 := by
  have := Lib.bitLenAux_le 64 L 64 (by omega)
  exact this
 refine ⟨2 ^ Lib.bitLenAux 64 L, ?_, Nat.one_le_two_pow, hp⟩
 rw [_root_.Go.Proofs.Ytjknpaplgclflaa.R.slices_nextPowerOfTwo.f_eq, wr_id (by omega) (by omega)]
 unfold _root_.Go.Proofs.Ytjknpaplgclflaa.R.bits_Len.f
 rw [if_pos (by omega), Option.bind_some, if_neg (by omega)]
 congr 1
 show hid _ = _
 rw [hid_eq, Int.toNat_natCast]
 show wr .u64 (1 * 2 ^ (min ((Lib.bitLenAux 64 L : Int)).toNat 64)) = _
 rw [Int.toNat_natCast, Nat.min_eq_left hk, Int.one_mul, show (2 : Int) ^ Lib.bitLenAux 64 L = ((2 ^ Lib.bitLenAux 64 L : Nat) : Int) by rw [Int.natCast_pow]; rfl]
 exact wr_id (by omega) (by omega)
theorem brkF {N : Nat} (hN : N ≤ 1000000000) {a b : Nat} (hab : a < b) (hb : b ≤ N) {d : Array Value} (hd : Al H N d) :
  ∃ d', _root_.Go.Proofs.Ytjknpaplgclflaa.R.slices_breakPatternsCmpFunc_int64.f d.toList (a : Int) (b : Int) C = some d'.toList ∧ PermIn a b d d' := by
 rw [_root_.Go.Proofs.Ytjknpaplgclflaa.R.slices_breakPatternsCmpFunc_int64.f_eq, wS (a := b) (b := a) (by omega) (by omega)]
 by_cases h8 : 8 ≤ b - a
 ·
  have t4 : ((b - a : Nat) : Int).tdiv 4 = ((((b - a) / 4 : Nat)) : Int) := by rw [Int.tdiv_eq_ediv_of_nonneg (by omega)]; omega
  have e2 : wrapI ((((b - a) / 4 : Nat) : Int) * 2) = (((b - a) / 4 * 2 : Nat) : Int) := by rw [w64 (by omega) (by omega)]; omega
  obtain ⟨m, n1, n2, n3⟩ := npow (L := b - a) (by omega) (by omega)
  rw [if_pos (by omega), n1, Option.bind_some, t4, w64 (x := (((b - a) / 4 : Nat) : Int)) (by omega) (by omega), e2, wA (a := a) (b := (b - a) / 4 * 2) (by omega), wP (j := a + (b - a) / 4 * 2) (by omega) (by omega)]
  exact brkL hN h8 hb n2 n3 _ (a + (b - a) / 4 * 2 - 1) d _ (Nat.le_refl _) (by omega) (by omega) hd
 ·
  rw [if_neg (by omega)]
  exact ⟨d, rfl, Go.Sort.permIn_refl d a b⟩
end Go.Proofs.Ytjknpaplgclflaa.V
