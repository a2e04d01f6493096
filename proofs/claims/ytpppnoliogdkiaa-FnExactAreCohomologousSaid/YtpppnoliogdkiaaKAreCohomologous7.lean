/- What the proof of the law AreCohomologous stands on, part 7: words, each Go function's Lean function, and that the Go code comes to its answers; no condition. (Packed by wip/myprint/pack.py out of what the kit's printer wrote, its words among it, partly by our patches of it, and out of texts of this session.) -/
import Derived.Test.YtpppnoliogdkiaaRows
import Derived.WalkKit
import Derived.ProofKit
import Derived.KernelRfl
import Derived.Test.YtpppnoliogdkiaaKAreCohomologous4
import Derived.Test.YtpppnoliogdkiaaKAreCohomologous5
import Derived.Test.YtpppnoliogdkiaaKAreCohomologous6
set_option linter.unusedVariables false
set_option linter.unusedSimpArgs false
set_option maxHeartbeats 4000000
set_option maxRecDepth 20000
namespace Go.Proofs.Ytpppnoliogdkiaa.V
open Go.RowKit Go.Proofs.Ytpppnoliogdkiaa.D Go.Proofs.Ytpppnoliogdkiaa.P
section
variable {m : Int} {W : Nat} {p : List (List Int)} {M : Vc → Prop} {G G' : Vc → Prop}
theorem Pst.lead (m0 : 0 < m) (h : Pst m W p [] M) : Lead m W p M := by
  have e : ∀ k g, GT W p [] k g → Sp m W (Rws W p k) g := fun k g hg => by
    rcases hg with hg | ⟨s, hs, _⟩
    · exact .gen hg
    · cases hs
  exact lead_of m0 h.inv.tab (fun j hj hr => (h.inv.how j hj hr).mono (e _)) fun x => by
    rw [← h.spn x]
    exact ⟨fun hx => hx.mono fun g hg => .gen (.inl hg), fun hx => hx.mono (e 0)⟩
theorem Pst.add {r : List Int} (h : Pst m W p [] (Sp m W G)) (hr : r.length = W ∧ AllIn m r) (hG : ∀ g, G' g ↔ G g ∨ g = V r) : Pst m W p [r] (Sp m W G') where
  inv := ⟨h.inv.tab, fun s hs => by rw [List.mem_singleton] at hs; subst hs; exact hr, fun j hj hn => (h.inv.how j hj hn).mono fun g hg => by
    rcases hg with hg | ⟨s, hs, _⟩
    · exact .gen (.inl hg)
    · cases hs⟩
  spn := fun x => by
    constructor
    · intro hx
      refine hx.mono fun g hg => ?_
      rcases hg with hg | ⟨s, hs, _, rfl⟩
      · exact ((h.spn g).1 (.gen (.inl hg))).mono fun g hg => .gen ((hG g).2 (.inl hg))
      · rw [List.mem_singleton] at hs
        subst hs
        exact .gen ((hG _).2 (.inr rfl))
    · intro hx
      refine hx.mono fun g hg => ?_
      rcases (hG g).1 hg with hg | rfl
      · refine ((h.spn g).2 (.gen hg)).mono fun g hg => ?_
        rcases hg with hg | ⟨s, hs, _⟩
        · exact .gen (.inl hg)
        · cases hs
      · exact .gen (.inr ⟨r, List.mem_singleton.2 rfl, fun i hi => by omega, rfl⟩)
theorem row_repl (n : Nat) (i : Int) : row (List.replicate n ([] : List Int)) i = [] := by
  simp only [row, List.getD_eq_getElem?_getD, List.getElem?_replicate]
  split <;> rfl
theorem Pst.none (hG : ∀ g, ¬ G g) : Pst m W (List.replicate W []) [] (Sp m W G) where
  inv := ⟨⟨List.length_replicate, fun j _ => .inl (row_repl _ _)⟩, fun s hs => (by cases hs), fun j _ hn => absurd (row_repl _ _) hn⟩
  spn := fun x => by
    constructor
    · intro hx
      refine hx.mono fun g hg => ?_
      rcases hg with ⟨j, _, _, hn, _⟩ | ⟨s, hs, _⟩
      · exact absurd (row_repl _ _) hn
      · cases hs
    · intro hx
      exact hx.mono fun g hg => absurd hg (hG g)
def Gn (f : Nat → List Int) (k : Nat) : Vc → Prop := fun g => ∃ i : Nat, i < k ∧ g = V (f i)
theorem Gn_succ {f : Nat → List Int} {k : Nat} (g : Vc) : Gn f (k + 1) g ↔ Gn f k g ∨ g = V (f k) := by
  constructor
  · rintro ⟨i, hi, rfl⟩
    by_cases e : i = k
    · exact .inr (by rw [e])
    · exact .inl ⟨i, by omega, rfl⟩
  · rintro (⟨i, hi, rfl⟩ | rfl)
    · exact ⟨i, by omega, rfl⟩
    · exact ⟨k, by omega, rfl⟩
theorem Reduced_ (m2 : 2 ≤ m) (m12 : m ≤ 12) (hW : W ≤ 100000) {X : List (List Int)} (hX : X.length ≤ 1000000) (hr : ∀ i : Nat, i < X.length → (row X (i : Int)).length = W ∧ AllIn m (row X (i : Int))) :
    ∃ p, spec_l04Reduced.f X (W : Int) m = some p ∧ Pst m W p [] (Sp m W (Gn (fun i => row X (i : Int)) X.length)) := by
  rw [spec_l04Reduced.f_eq, Int.toNat_natCast]
  have key : ∀ k, k ≤ X.length → ∃ p, spec_l04Reduced.l0 X m 0 (List.replicate W []) = spec_l04Reduced.l0 X m (k : Int) p ∧ Pst m W p [] (Sp m W (Gn (fun i => row X (i : Int)) k)) := by
    intro k
    induction k with
    | zero => exact fun _ => ⟨_, rfl, Pst.none fun g ⟨i, hi, _⟩ => by omega⟩
    | succ k ih =>
      intro hk
      obtain ⟨p, h1, h2⟩ := ih (by omega)
      obtain ⟨p', h3, h4⟩ := Insert_ m2 m12 hW (h2.add (hr k (by omega)) Gn_succ)
      refine ⟨p', ?_, h4⟩
      rw [h1, spec_l04Reduced.l0_eq, wn (j := k) (by omega)]
      ((with_reducible repeat (first | refine go_pos (by first | assumption | omega | rfl | exact B_pos (by omega)) ?_ | refine go_neg (by first | assumption | omega | decide | exact B_not (by omega)) ?_ | refine go_bind (by first | assumption) ?_ | dsimp only)); first | done | (with_reducible rfl) | simp (disch := omega) only [w64] | (show False; done))
  obtain ⟨p, h1, h2⟩ := key X.length (Nat.le_refl _)
  refine ⟨p, ?_, h2⟩
  (with_reducible repeat (first | refine go_pos (by first | assumption | omega | rfl | exact B_pos (by omega)) ?_ | refine go_neg (by first | assumption | omega | decide | exact B_not (by omega)) ?_ | refine go_bind (by first | assumption) ?_ | dsimp only))
  rw [h1, spec_l04Reduced.l0_eq]
  ((with_reducible repeat (first | refine go_pos (by first | assumption | omega | rfl | exact B_pos (by omega)) ?_ | refine go_neg (by first | assumption | omega | decide | exact B_not (by omega)) ?_ | refine go_bind (by first | assumption) ?_ | dsimp only)); first | done | (with_reducible rfl) | simp (disch := omega) only [w64] | (show False; done))
theorem rd_take {r : List Int} {A i : Nat} (h : i < A) : rd (r.take A) (i : Int) = rd r (i : Int) := by
  simp [rd, List.getD_eq_getElem?_getD, List.getElem?_take, h]
theorem rd_drop {r : List Int} {A i : Nat} : rd (r.drop A) (i : Int) = rd r ((A + i : Nat) : Int) := by
  simp only [rd, Int.toNat_natCast, List.getD_eq_getElem?_getD, List.getElem?_drop]
theorem Lead.first {A B : Nat} {q : List (List Int)} (h : Lead m (A + B) p M) (m0 : 0 < m) (hl : q.length = A) (hr : ∀ j : Nat, j < A → row q (j : Int) = (row p (j : Int)).take A) :
    Lead m A q (fun x => ∃ y, M y ∧ ∀ i, i < A → m ∣ y i - x i) := by
  have hP : ∀ j : Nat, j < A → row p (j : Int) ≠ [] → PRow m A j (row q (j : Int)) := fun j hj hn => by
    have k := h.tab.prow (show j < A + B by omega) hn
    rw [hr j hj]
    refine ⟨by rw [List.length_take, k.len]; omega, k.ent.take _, fun i hi => by rw [rd_take (by omega)]; exact k.zero i hi, ?_, ?_, ?_⟩ <;> rw [rd_take hj]
    · exact k.pos
    · exact k.lt
    · exact k.dvd
  have hE : ∀ j : Nat, j < A → (row q (j : Int) = [] ↔ row p (j : Int) = []) := fun j hj => by
    constructor
    · intro e
      by_cases hn : row p (j : Int) = []
      · exact hn
      · exact absurd e (hP j hj hn).ne
    · intro e; rw [hr j hj, e]; simp
  have hdv : ∀ j : Nat, j < A → dv m q j = dv m p j := fun j hj => by
    unfold dv
    by_cases hn : row p (j : Int) = []
    · rw [if_pos hn, if_pos ((hE j hj).2 hn)]
    · rw [if_neg hn, if_neg fun e => hn ((hE j hj).1 e), hr j hj, rd_take hj]
  exact {
    tab := ⟨hl, fun j hj => by
      by_cases hn : row p (j : Int) = []
      · exact .inl ((hE j hj).2 hn)
      · exact .inr (hP j hj hn)⟩
    sub := ⟨⟨_, h.sub.zero, fun i _ => dvd_same rfl⟩, fun x y ⟨x', hx, ex⟩ ⟨y', hy, ey⟩ c => ⟨_, h.sub.lin _ _ hx hy c, fun i hi => by
      have := Int.dvd_add (ex i hi) (Int.dvd_mul_of_dvd_right (b := c) (ey i hi))
      rw [Int.mul_sub] at this
      rwa [show ∀ a b c d : Int, a + c - (b + d) = a - b + (c - d) from fun a b c d => by omega]⟩,
      fun x y ⟨x', hx, ex⟩ e => ⟨x', hx, fun i hi => by
        have := Int.dvd_add (ex i hi) (e i hi)
        rwa [show ∀ a b c : Int, a - b + (b - c) = a - c from fun a b c => by omega] at this⟩⟩
    own := fun j hj hn => ⟨V (row p (j : Int)), h.own j (by omega) fun e => hn ((hE j hj).2 e), fun i hi => by
      refine dvd_same ?_
      show rd (row p (j : Int)) (i : Int) = rd (row q (j : Int)) (i : Int)
      rw [hr j hj, rd_take hi]⟩
    lead := fun x ⟨y, hy, e⟩ j hj hz => by
      have := h.lead y hy j (by omega) fun i hi => by
        have := Int.dvd_add (e i (by omega)) (hz i hi)
        rwa [show ∀ a b : Int, a - b + b = a from fun a b => by omega] at this
      rw [hdv j hj]
      have hd := (dv_bd m0 h.tab (show j < A + B by omega)).2.2
      have := Int.dvd_sub this (Int.dvd_trans hd (e j hj))
      rwa [show ∀ a b : Int, a - (a - b) = b from fun a b => by omega] at this }
def pad (A : Nat) (x : Vc) : Vc := fun i => if i < A then 0 else x (i - A)
theorem Lead.last {A B : Nat} {q : List (List Int)} (h : Lead m (A + B) p M) (m0 : 0 < m) (hl : q.length = B) (hr : ∀ j : Nat, j < B → row q (j : Int) = (row p ((A + j : Nat) : Int)).drop A) :
    Lead m B q (fun x => M (pad A x)) := by
  have hP : ∀ j : Nat, j < B → row p ((A + j : Nat) : Int) ≠ [] → PRow m B j (row q (j : Int)) := fun j hj hn => by
    have k := h.tab.prow (show A + j < A + B by omega) hn
    rw [hr j hj]
    refine ⟨by rw [List.length_drop, k.len]; omega, k.ent.drop _, fun i hi => by rw [rd_drop]; exact k.zero _ (by omega), ?_, ?_, ?_⟩ <;> rw [rd_drop]
    · exact k.pos
    · exact k.lt
    · exact k.dvd
  have hE : ∀ j : Nat, j < B → (row q (j : Int) = [] ↔ row p ((A + j : Nat) : Int) = []) := fun j hj => by
    constructor
    · intro e
      by_cases hn : row p ((A + j : Nat) : Int) = []
      · exact hn
      · exact absurd e (hP j hj hn).ne
    · intro e; rw [hr j hj, e]; simp
  have hdv : ∀ j : Nat, j < B → dv m q j = dv m p (A + j) := fun j hj => by
    unfold dv
    by_cases hn : row p ((A + j : Nat) : Int) = []
    · rw [if_pos hn, if_pos ((hE j hj).2 hn)]
    · rw [if_neg hn, if_neg fun e => hn ((hE j hj).1 e), hr j hj, rd_drop]
  have hpad : ∀ (x y : Vc) (c : Int), pad A (fun i => x i + c * y i) = fun i => pad A x i + c * pad A y i := fun x y c => by
    funext i
    unfold pad
    by_cases h : i < A
    · simp [h]
    · simp [h]
  exact {
    tab := ⟨hl, fun j hj => by
      by_cases hn : row p ((A + j : Nat) : Int) = []
      · exact .inl ((hE j hj).2 hn)
      · exact .inr (hP j hj hn)⟩
    sub := ⟨h.sub.alike _ _ h.sub.zero fun i _ => dvd_same (by unfold pad; simp), fun x y hx hy c => by rw [hpad]; exact h.sub.lin _ _ hx hy c,
      fun x y hx e => h.sub.alike _ _ hx fun i hi => by
        unfold pad
        by_cases k : i < A
        · simp [k]
        · simp only [k, if_false]
          exact e (i - A) (by omega)⟩
    own := fun j hj hn => by
      have hn' : row p ((A + j : Nat) : Int) ≠ [] := fun e => hn ((hE j hj).2 e)
      refine h.sub.alike _ _ (h.own (A + j) (by omega) hn') fun i hi => dvd_same ?_
      unfold pad
      by_cases k : i < A
      · simp only [k, if_true]
        exact (h.tab.prow (show A + j < A + B by omega) hn').zero i (by omega)
      · simp only [k, if_false]
        show rd (row p ((A + j : Nat) : Int)) (i : Int) = rd (row q (j : Int)) ((i - A : Nat) : Int)
        rw [hr j hj, rd_drop, show A + (i - A) = i by omega]
    lead := fun x hx j hj hz => by
      have := h.lead _ hx (A + j) (by omega) fun i hi => by
        unfold pad
        by_cases k : i < A
        · simp [k]
        · simp only [k, if_false]
          exact hz _ (by omega)
      rw [hdv j hj]
      unfold pad at this
      rw [if_neg (by omega), show A + j - A = j by omega] at this
      exact this }
theorem rd_app_left {a b : List Int} {i : Nat} (h : i < a.length) : rd (a ++ b) (i : Int) = rd a (i : Int) := by
  simp [rd, List.getD_eq_getElem?_getD, List.getElem?_append, h]
theorem first_span {A B k : Nat} {f e : Nat → List Int} (hf : ∀ i, i < k → (f i).length = A) (hM : Lead m (A + B) p (Sp m (A + B) (Gn (fun i => f i ++ e i) k))) (hL : Sub m A (fun x => ∃ y, Sp m (A + B) (Gn (fun i => f i ++ e i) k) y ∧ ∀ i, i < A → m ∣ y i - x i)) (x : Vc) :
    (∃ y, Sp m (A + B) (Gn (fun i => f i ++ e i) k) y ∧ ∀ i, i < A → m ∣ y i - x i) ↔ Sp m A (Gn f k) x := by
  constructor
  · rintro ⟨y, hy, h⟩
    refine .alike ?_ h
    have hs : Sub m (A + B) (Sp m A (Gn f k)) := ⟨.nil, fun x y hx hy c => hx.plus (hy.mul c), fun x y hx h => .alike hx fun i hi => h i (by omega)⟩
    refine hs.all (fun g hg => ?_) hy
    obtain ⟨i, hi, rfl⟩ := hg
    refine .alike (.gen ⟨i, hi, rfl⟩) fun j hj => dvd_same ?_
    show rd (f i) (j : Int) = rd (f i ++ e i) (j : Int)
    rw [rd_app_left (by rw [hf i hi]; exact hj)]
  · intro hx
    refine hL.all (fun g hg => ?_) hx
    obtain ⟨i, hi, rfl⟩ := hg
    refine ⟨_, .gen ⟨i, hi, rfl⟩, fun j hj => dvd_same ?_⟩
    show rd (f i ++ e i) (j : Int) = rd (f i) (j : Int)
    rw [rd_app_left (by rw [hf i hi]; exact hj)]
end
end Go.Proofs.Ytpppnoliogdkiaa.V
set_option linter.unusedVariables false
set_option linter.unusedSimpArgs false
set_option maxHeartbeats 4000000
set_option maxRecDepth 20000
namespace Go.Proofs.Ytpppnoliogdkiaa.V
open Go.RowKit Go.Proofs.Ytpppnoliogdkiaa.D Go.Proofs.Ytpppnoliogdkiaa.P
def unitC (c i : Nat) : List Int := (List.replicate c (0 : Int)).set i 1
theorem unitC_length (c i : Nat) : (unitC c i).length = c := by simp [unitC]
theorem unitC_in {m : Int} (m2 : 2 ≤ m) (c i : Nat) : AllIn m (unitC c i) := allIn_of fun x hx => by
  rcases List.mem_or_eq_of_mem_set hx with h | h
  · rw [List.mem_replicate] at h; omega
  · omega
theorem bdL_length (g : List (List Int)) (m : Int) (u v : List Int) (d : Nat) : (bdL g m u v d).length = (cells g ((d + 1 : Nat) : Int)).toNat := by rw [bdL, List.length_map, List.length_range]
theorem bdL_in {m : Int} (m2 : 2 ≤ m) (g : List (List Int)) (u v : List Int) (d : Nat) : AllIn m (bdL g m u v d) := allIn_of fun x hx => by
  obtain ⟨i, _, rfl⟩ := List.mem_map.1 hx
  exact ⟨Int.emod_nonneg _ (by omega), Int.emod_lt_of_pos _ (by omega)⟩
noncomputable def bdU (g : List (List Int)) (m : Int) (u : List Int) (e i : Nat) : List Int := bdL g m u (unitC (cells g (e : Int)).toNat i) e
noncomputable def bdG (g : List (List Int)) (m : Int) (u : List Int) : Nat → Vc → Prop
  | 0 => fun _ => False
  | e + 1 => Gn (bdU g m u e) (cells g (e : Int)).toNat
noncomputable def bdA (g : List (List Int)) (m : Int) (u : List Int) (e i : Nat) : List Int := bdU g m u e i ++ unitC (cells g (e : Int)).toNat i
noncomputable def nB (g : List (List Int)) (e : Nat) : Nat := (cells g (e : Int)).toNat
theorem unitCo {g : List (List Int)} (hg : Grp g) {m : Int} (m2 : 2 ≤ m) {e : Nat} (he : e ≤ 3) (i : Nat) : Co g m e (unitC (cells g (e : Int)).toNat i) := by
  have hb := cells_bd hg (d := (e : Int)) (by omega)
  exact ⟨⟨by omega, by omega⟩, by rw [unitC_length]; omega, unitC_in m2 _ _⟩
theorem newSpan_ (m : Int) {c : Nat} (hc : c ≤ 100000) : impl_newSpan.f m (c : Int) = some (m, List.replicate c []) := by
  rw [impl_newSpan.f_eq, Int.toNat_natCast]
  ((with_reducible repeat (first | refine go_pos (by first | assumption | omega | rfl | exact B_pos (by omega)) ?_ | refine go_neg (by first | assumption | omega | decide | exact B_not (by omega)) ?_ | refine go_bind (by first | assumption) ?_ | dsimp only)); first | done | (with_reducible rfl) | simp (disch := omega) only [w64] | (show False; done))
theorem nA_bd {g : List (List Int)} (hg : Grp g) {e : Nat} (he : e ≤ 4) : nB g e ≤ 16807 ∧ ((nB g e : Nat) : Int) = cells g (e : Int) := by
  have hb := cells_bd hg (d := (e : Int)) (by omega)
  unfold nB
  omega
theorem boundings_ {g : List (List Int)} (hg : Grp g) {m : Int} {u : List Int} (hm : Mdl g m u) {n : Nat} (hn : n ≤ 3) :
    ∃ p, impl_boundings.f g m u (n : Int) = some (m, p) ∧ Pst m (nB g n) p [] (Sp m (nB g n) (bdG g m u n)) := by
  have m2 := hm.m2; have m12 := hm.m12
  obtain ⟨b1, b2⟩ := nA_bd hg (e := n) (by omega)
  have hc := cells_ hg (d := (n : Int)) (by omega) (by omega)
  have hN := newSpan_ m (c := nB g n) (by omega)
  rw [b2] at hN
  rw [impl_boundings.f_eq, hc, Option.bind_some, hN, Option.bind_some]
  cases n with
  | zero =>
    refine ⟨_, if_pos rfl, Pst.none fun g h => h⟩
  | succ e =>
    obtain ⟨c1, c2⟩ := nA_bd hg (e := e) (by omega)
    have w : wrapI (((e + 1 : Nat) : Int) - 1) = (e : Int) := by rw [w64 (by omega) (by omega)]; omega
    have hc2 := cells_ hg (d := (e : Int)) (by omega) (by omega)
    have hz := zero_ hg (n := e) (by omega)
    rw [← show nB g e = (cells g (e : Int)).toNat from rfl] at hz
    rw [w, hc2, Option.bind_some, if_neg (by omega), ← c2]
    have key : ∀ k, k ≤ nB g e → ∃ p, impl_boundings.l0 ((e + 1 : Nat) : Int) ((nB g e : Nat) : Int) 0 g m u m (List.replicate (nB g (e + 1)) []) = impl_boundings.l0 ((e + 1 : Nat) : Int) ((nB g e : Nat) : Int) (k : Int) g m u m p ∧ Pst m (nB g (e + 1)) p [] (Sp m (nB g (e + 1)) (Gn (bdU g m u e) k)) := by
      intro k
      induction k with
      | zero => exact fun _ => ⟨_, rfl, Pst.none fun g ⟨i, hi, _⟩ => by omega⟩
      | succ k ih =>
        intro hk
        obtain ⟨p, h1, h2⟩ := ih (by omega)
        have hl : (List.replicate (nB g e) (0 : Int)).length = nB g e := List.length_replicate
        have hB := boundary_ hg hm (unitCo hg m2 (e := e) (by omega) k)
        have hB : impl_boundary.f g m u (e : Int) ((List.replicate (nB g e) (0 : Int)).set k 1) = some (((e + 1 : Nat) : Int), bdU g m u e k) := hB
        obtain ⟨p', h3, h4⟩ := put_ m2 m12 (show nB g (e + 1) ≤ 100000 by omega) (h2.add (r := bdU g m u e k) ⟨bdL_length .., bdL_in m2 _ _ _ _⟩ Gn_succ)
        refine ⟨p', ?_, h4⟩
        rw [h1, impl_boundings.l0_eq, w, wn (j := k) (by omega), Int.toNat_natCast]
        ((with_reducible repeat (first | refine go_pos (by first | assumption | omega | rfl | exact B_pos (by omega)) ?_ | refine go_neg (by first | assumption | omega | decide | exact B_not (by omega)) ?_ | refine go_bind (by first | assumption) ?_ | dsimp only)); first | done | (with_reducible rfl) | simp (disch := omega) only [w64] | (show False; done))
    obtain ⟨p, h1, h2⟩ := key _ (Nat.le_refl _)
    refine ⟨p, ?_, h2⟩
    have e1 : (cells g ((e + 1 : Nat) : Int)).toNat = nB g (e + 1) := rfl
    rw [h1, impl_boundings.l0_eq]
    ((with_reducible repeat (first | refine go_pos (by first | assumption | omega | rfl | exact B_pos (by omega)) ?_ | refine go_neg (by first | assumption | omega | decide | exact B_not (by omega)) ?_ | refine go_bind (by first | assumption) ?_ | dsimp only)); first | done | (with_reducible rfl) | simp (disch := omega) only [w64] | (show False; done))
def rowsFrom (p : List (List Int)) (A B : Nat) : List (List Int) := (List.range B).map fun j : Nat => (row p ((A + j : Nat) : Int)).drop A
def rowsTo (p : List (List Int)) (A : Nat) : List (List Int) := (List.range A).map fun j : Nat => (row p (j : Int)).take A
theorem rowsFrom_row {p : List (List Int)} {A B j : Nat} (h : j < B) : row (rowsFrom p A B) (j : Int) = (row p ((A + j : Nat) : Int)).drop A := by
  rw [row_get (by simpa [rowsFrom] using h)]
  simp [rowsFrom]
theorem rowsTo_row {p : List (List Int)} {A j : Nat} (h : j < A) : row (rowsTo p A) (j : Int) = (row p (j : Int)).take A := by
  rw [row_get (by simpa [rowsTo] using h)]
  simp [rowsTo]
theorem rows_step (F : Nat → List Int) (B k : Nat) (h : k < B) : ((List.range k).map F ++ List.replicate (B - k) []).set k (F k) = (List.range (k + 1)).map F ++ List.replicate (B - (k + 1)) [] := by
  rw [List.set_append, if_neg (by simp), List.length_map, List.length_range, Nat.sub_self, show B - k = (B - (k + 1)) + 1 by omega, List.replicate_succ, List.set_cons_zero, List.range_succ, List.map_append]
  simp
theorem rows_stay (F : Nat → List Int) (B k : Nat) (h : k < B) (e : F k = []) : (List.range k).map F ++ List.replicate (B - k) [] = (List.range (k + 1)).map F ++ List.replicate (B - (k + 1)) [] := by
  rw [show B - k = (B - (k + 1)) + 1 by omega, List.replicate_succ, List.range_succ, List.map_append, List.map_singleton, e]
  simp
theorem rowz_len (F : Nat → List Int) (B k : Nat) (h : k ≤ B) : ((List.range k).map F ++ List.replicate (B - k) []).length = B := by simp; omega
noncomputable def coM (g : List (List Int)) (m : Int) (u : List Int) (n : Nat) : Vc → Prop := fun x => Sp m (nB g (n + 1) + nB g n) (Gn (bdA g m u n) (nB g n)) (pad (nB g (n + 1)) x)
theorem rowsFrom_lead {m : Int} {p : List (List Int)} {A B : Nat} {M : Vc → Prop} (m0 : 0 < m) (h : Lead m (A + B) p M) : Lead m B (rowsFrom p A B) (fun x => M (pad A x)) :=
  h.last m0 (by simp [rowsFrom]) fun j hj => rowsFrom_row hj
theorem Sides_ {g : List (List Int)} (hg : Grp g) {m : Int} {u : List Int} (hm : Mdl g m u) {n : Nat} (hn : n ≤ 3) : spec_l04Sides.f g m u (n : Int) = some ((List.range (nB g n)).map (bdA g m u n)) := by
  have m2 := hm.m2
  obtain ⟨b1, b2⟩ := nA_bd hg (e := n) (by omega)
  obtain ⟨c1, c2⟩ := nA_bd hg (e := n + 1) (by omega)
  have hc := Cells_ hg (d := (n : Int)) (by omega) (by omega)
  have hc2 := Cells_ hg (d := ((n + 1 : Nat) : Int)) (by omega) (by omega)
  rw [← b2] at hc
  rw [← c2] at hc2
  have hz : spec_l03Zero.f g (n : Int) = some ((n : Int), List.replicate (nB g n) 0) := by
    rw [spec_l03Zero.f_eq, hc, Option.bind_some, Int.toNat_natCast]
    ((with_reducible repeat (first | refine go_pos (by first | assumption | omega | rfl | exact B_pos (by omega)) ?_ | refine go_neg (by first | assumption | omega | decide | exact B_not (by omega)) ?_ | refine go_bind (by first | assumption) ?_ | dsimp only)); first | done | (with_reducible rfl) | simp (disch := omega) only [w64] | (show False; done))
  have l3 : ∀ x : List Int, ([x] : List (List Int)).length = 1 := fun _ => rfl
  have l2 : ∀ x : Int, ([x] : List Int).length = 1 := fun _ => rfl
  rw [spec_l04Sides.f_eq, hc, Option.bind_some]
  have loop := up (nB g n) (fun k => spec_l04Sides.l0 (n : Int) ((nB g n : Nat) : Int) (k : Int) g m u ((List.range k).map (bdA g m u n))) (fun k hk => by
    have hl : (List.replicate (nB g n) (0 : Int)).length = nB g n := List.length_replicate
    have bl : (bdU g m u n k).length = nB g (n + 1) := bdL_length ..
    have ul : ((List.replicate (nB g n) (0 : Int)).set k 1).length = nB g n := by simp
    have hCo := unitCo hg m2 (e := n) (by omega) k
    have inner := up (nB g (n + 1)) (fun j => spec_l04Sides.l1 (n : Int) ((nB g n : Nat) : Int) (k : Int) (j : Int) g m u ((List.range k).map (bdA g m u n)) (n : Int) ((bdU g m u n k).take j) ((List.replicate (nB g n) (0 : Int)).set k 1)) (fun j hj => by
      have hL := (cell_list hg (n := n + 1) (i := j) (by omega) (by omega)).2
      have hll := lst_length ((g.length : Int) - 1) (n + 1) j
      obtain ⟨hx, _⟩ := lst_grp hg (n := n + 1) (i := j) (by omega)
      have hS := Side_ hg hm hCo hx hll
      have hS : spec_l03Side.f g m u (n : Int) ((List.replicate (nB g n) (0 : Int)).set k 1) (lst ((g.length : Int) - 1) (n + 1) j) = some (rd (bdU g m u n k) (j : Int)) := by
        rw [rd_get (by omega)]
        simp only [bdU, bdL, List.getElem_map, List.getElem_range]
        exact hS
      have tl : ((bdU g m u n k).take j).length = j := by rw [List.length_take]; omega
      rw [take_rd (by omega), spec_l04Sides.l1_eq, wn (j := n) (by omega), wn (j := j) (by omega)]
      (with_reducible repeat (first | refine go_pos (by first | assumption | omega | rfl | exact B_pos (by omega)) ?_ | refine go_neg (by first | assumption | omega | decide | exact B_not (by omega)) ?_ | refine go_bind (by first | assumption) ?_ | dsimp only))
      rw [l2]
      ((with_reducible repeat (first | refine go_pos (by first | assumption | omega | rfl | exact B_pos (by omega)) ?_ | refine go_neg (by first | assumption | omega | decide | exact B_not (by omega)) ?_ | refine go_bind (by first | assumption) ?_ | dsimp only)); first | done | (with_reducible rfl) | simp (disch := omega) only [w64] | (show False; done)))
    simp only [Int.natCast_zero, List.take_zero] at inner
    rw [List.take_of_length_le (by omega)] at inner
    have ml : ((List.range k).map (bdA g m u n)).length = k := by simp
    rw [spec_l04Sides.l0_eq, Int.toNat_natCast]
    (with_reducible repeat (first | refine go_pos (by first | assumption | omega | rfl | exact B_pos (by omega)) ?_ | refine go_neg (by first | assumption | omega | decide | exact B_not (by omega)) ?_ | refine go_bind (by first | assumption) ?_ | dsimp only))
    rw [inner, spec_l04Sides.l1_eq, wn (j := n) (by omega), wn (j := k) (by omega), l3]
    (with_reducible repeat (first | refine go_pos (by first | assumption | omega | rfl | exact B_pos (by omega)) ?_ | refine go_neg (by first | assumption | omega | decide | exact B_not (by omega)) ?_ | refine go_bind (by first | assumption) ?_ | dsimp only))
    rw [List.range_succ, List.map_append, List.map_singleton]
    rfl)
  simp only [Int.natCast_zero, List.range_zero, List.map_nil] at loop
  rw [loop, spec_l04Sides.l0_eq]
  ((with_reducible repeat (first | refine go_pos (by first | assumption | omega | rfl | exact B_pos (by omega)) ?_ | refine go_neg (by first | assumption | omega | decide | exact B_not (by omega)) ?_ | refine go_bind (by first | assumption) ?_ | dsimp only)); first | done | (with_reducible rfl) | simp (disch := omega) only [w64] | (show False; done))
theorem bdA_len {g : List (List Int)} {m : Int} {u : List Int} {n k : Nat} : (bdA g m u n k).length = nB g (n + 1) + nB g n := by
  show (bdU g m u n k ++ unitC (nB g n) k).length = _
  rw [List.length_append, unitC_length]
  show (bdL _ _ _ _ _).length + _ = _
  rw [bdL_length]
  rfl
theorem Split_ {g : List (List Int)} (hg : Grp g) {m : Int} {u : List Int} (hm : Mdl g m u) {n : Nat} (hn : n ≤ 3) :
    ∃ p, spec_l04Split.f g m u (n : Int) = some (rowsTo p (nB g (n + 1)), rowsFrom p (nB g (n + 1)) (nB g n), p) ∧ Lead m (nB g (n + 1) + nB g n) p (Sp m (nB g (n + 1) + nB g n) (Gn (bdA g m u n) (nB g n))) := by
  have m2 := hm.m2; have m12 := hm.m12
  obtain ⟨b1, b2⟩ := nA_bd hg (e := n) (by omega)
  obtain ⟨c1, c2⟩ := nA_bd hg (e := n + 1) (by omega)
  have hc := Cells_ hg (d := (n : Int)) (by omega) (by omega)
  have hc2 := Cells_ hg (d := ((n + 1 : Nat) : Int)) (by omega) (by omega)
  rw [← b2] at hc
  rw [← c2] at hc2
  obtain ⟨A, hA⟩ : ∃ A, A = nB g (n + 1) := ⟨_, rfl⟩
  obtain ⟨B, hB⟩ : ∃ B, B = nB g n := ⟨_, rfl⟩
  have hX : ((List.range (nB g n)).map (bdA g m u n)).length = nB g n := by simp
  have hXr : ∀ i : Nat, i < nB g n → row ((List.range (nB g n)).map (bdA g m u n)) (i : Int) = bdA g m u n i := fun i hi => by
    rw [row_get (by omega)]; simp
  obtain ⟨p, h1, h2⟩ := Reduced_ m2 m12 (W := nB g (n + 1) + nB g n) (by omega) (X := (List.range (nB g n)).map (bdA g m u n)) (by omega) (fun i hi => by
    rw [hXr i (by omega)]
    exact ⟨bdA_len, (bdL_in m2 _ _ _ _).append (unitC_in m2 _ _)⟩)
  have hM : Sp m (nB g (n + 1) + nB g n) (Gn (fun i => row ((List.range (nB g n)).map (bdA g m u n)) (i : Int)) ((List.range (nB g n)).map (bdA g m u n)).length) = Sp m (nB g (n + 1) + nB g n) (Gn (bdA g m u n) (nB g n)) := by
    congr 1
    funext x
    apply propext
    rw [hX]
    constructor
    · rintro ⟨i, hi, rfl⟩; exact ⟨i, hi, congrArg V (hXr i hi)⟩
    · rintro ⟨i, hi, rfl⟩; exact ⟨i, hi, (congrArg V (hXr i hi)).symm⟩
  rw [hM] at h2
  have h3 := h2.lead (by omega)
  refine ⟨p, ?_, h3⟩
  have ht := h3.tab
  have hl := ht.len
  have w : wrapI ((nB g (n + 1) : Int) + (nB g n : Int)) = ((nB g (n + 1) + nB g n : Nat) : Int) := by rw [w64 (by omega) (by omega)]; omega
  have hSd := Sides_ hg hm hn
  rw [spec_l04Split.f_eq, wn (j := n) (by omega), hc2, Option.bind_some, hc, Option.bind_some, hSd, Option.bind_some, w, h1, Option.bind_some, Int.toNat_natCast, Int.toNat_natCast]
  (with_reducible repeat (first | refine go_pos (by first | assumption | omega | rfl | exact B_pos (by omega)) ?_ | refine go_neg (by first | assumption | omega | decide | exact B_not (by omega)) ?_ | refine go_bind (by first | assumption) ?_ | dsimp only))
  rw [← hA, ← hB] at hl ht w ⊢
  obtain ⟨F, hF⟩ : ∃ F : Nat → List Int, F = fun j : Nat => (row p (j : Int)).take A := ⟨_, rfl⟩
  obtain ⟨H, hH⟩ : ∃ H : Nat → List Int, H = fun j : Nat => (row p ((A + j : Nat) : Int)).drop A := ⟨_, rfl⟩
  have loop1 := up A (fun k => spec_l04Split.l0 (A : Int) (B : Int) (k : Int) p ((List.range k).map F ++ List.replicate (A - k) []) (List.replicate B [])) (fun k hk => by
    have rl := rowz_len F A k (by omega)
    have hFk : F k = (row p (k : Int)).take A := by rw [hF]
    rw [spec_l04Split.l0_eq, wn (j := k) (by omega), w]
    simp only [Int.toNat_natCast]
    rw [← hFk]
    by_cases hr : row p (k : Int) = []
    · have e0 : ((row p (k : Int)).length : Int) = 0 := by rw [hr]; rfl
      rw [← rows_stay F A k hk (by rw [hFk, hr]; simp)]
      ((with_reducible repeat (first | refine go_pos (by first | assumption | omega | rfl | exact B_pos (by omega)) ?_ | refine go_neg (by first | assumption | omega | decide | exact B_not (by omega)) ?_ | refine go_bind (by first | assumption) ?_ | dsimp only)); first | done | (with_reducible rfl) | simp (disch := omega) only [w64] | (show False; done))
    · have hP := ht.prow (show k < A + B by omega) hr
      have e1 := hP.len
      rw [← rows_step F A k hk]
      ((with_reducible repeat (first | refine go_pos (by first | assumption | omega | rfl | exact B_pos (by omega)) ?_ | refine go_neg (by first | assumption | omega | decide | exact B_not (by omega)) ?_ | refine go_bind (by first | assumption) ?_ | dsimp only)); first | done | (with_reducible rfl) | simp (disch := omega) only [w64] | (show False; done)))
  have loop2 := up B (fun k => spec_l04Split.l0 (A : Int) (B : Int) ((A + k : Nat) : Int) p ((List.range A).map F) ((List.range k).map H ++ List.replicate (B - k) [])) (fun k hk => by
    have rl := rowz_len H B k (by omega)
    have hw : wrapI (((A + k : Nat) : Int) - (A : Int)) = (k : Int) := by rw [w64 (by omega) (by omega)]; omega
    have hHk : H k = (row p ((A + k : Nat) : Int)).drop A := by rw [hH]
    rw [show A + (k + 1) = A + k + 1 from rfl, spec_l04Split.l0_eq, wn (j := A + k) (by omega), w, hw]
    simp only [Int.toNat_natCast]
    rw [← hHk]
    by_cases hr : row p ((A + k : Nat) : Int) = []
    · have e0 : ((row p ((A + k : Nat) : Int)).length : Int) = 0 := by rw [hr]; rfl
      rw [← rows_stay H B k hk (by rw [hHk, hr]; simp)]
      ((with_reducible repeat (first | refine go_pos (by first | assumption | omega | rfl | exact B_pos (by omega)) ?_ | refine go_neg (by first | assumption | omega | decide | exact B_not (by omega)) ?_ | refine go_bind (by first | assumption) ?_ | dsimp only)); first | done | (with_reducible rfl) | simp (disch := omega) only [w64] | (show False; done))
    · have hP := ht.prow (show A + k < A + B by omega) hr
      have e1 := hP.len
      rw [← rows_step H B k hk]
      ((with_reducible repeat (first | refine go_pos (by first | assumption | omega | rfl | exact B_pos (by omega)) ?_ | refine go_neg (by first | assumption | omega | decide | exact B_not (by omega)) ?_ | refine go_bind (by first | assumption) ?_ | dsimp only)); first | done | (with_reducible rfl) | simp (disch := omega) only [w64] | (show False; done)))
  rw [List.range_zero, List.map_nil, List.nil_append, Nat.sub_zero, Nat.sub_self, List.replicate_zero, List.append_nil] at loop1
  rw [List.range_zero, List.map_nil, List.nil_append, Nat.sub_zero, Nat.add_zero, Nat.sub_self, List.replicate_zero, List.append_nil] at loop2
  rw [show rowsFrom p A B = (List.range B).map H by rw [hH]; rfl, show rowsTo p A = (List.range A).map F by rw [hF]; rfl]
  refine (loop1.trans loop2).trans ?_
  rw [spec_l04Split.l0_eq, w]
  ((with_reducible repeat (first | refine go_pos (by first | assumption | omega | rfl | exact B_pos (by omega)) ?_ | refine go_neg (by first | assumption | omega | decide | exact B_not (by omega)) ?_ | refine go_bind (by first | assumption) ?_ | dsimp only)); first | done | (with_reducible rfl) | simp (disch := omega) only [w64] | (show False; done))
theorem Both_ {g : List (List Int)} (hg : Grp g) {m : Int} {u : List Int} (hm : Mdl g m u) {n : Nat} (hn : n ≤ 3) :
    ∃ p q, spec_l04Both.f g m u (n : Int) = some (p, q) ∧ Lead m (nB g n) p (Sp m (nB g n) (bdG g m u n)) ∧ Lead m (nB g n) q (coM g m u n) := by
  have m2 := hm.m2
  obtain ⟨b1, b2⟩ := nA_bd hg (e := n) (by omega)
  have hc := Cells_ hg (d := (n : Int)) (by omega) (by omega)
  rw [← b2] at hc
  obtain ⟨p, h1, h2⟩ := Split_ hg hm hn
  rw [spec_l04Both.f_eq, h1, Option.bind_some, hc, Option.bind_some, Int.toNat_natCast]
  cases n with
  | zero =>
    refine ⟨_, _, ?_, (Pst.none (G := bdG g m u 0) fun g h => h).lead (by omega), rowsFrom_lead (by omega) h2⟩
    ((with_reducible repeat (first | refine go_pos (by first | assumption | omega | rfl | exact B_pos (by omega)) ?_ | refine go_neg (by first | assumption | omega | decide | exact B_not (by omega)) ?_ | refine go_bind (by first | assumption) ?_ | dsimp only)); first | done | (with_reducible rfl) | simp (disch := omega) only [w64] | (show False; done))
  | succ e =>
    obtain ⟨p', h3, h4⟩ := Split_ hg hm (n := e) (by omega)
    have w : wrapI (((e + 1 : Nat) : Int) - 1) = (e : Int) := by rw [w64 (by omega) (by omega)]; omega
    have h5 := h4.first (q := rowsTo p' (nB g (e + 1))) (by omega) (by simp [rowsTo]) fun j hj => rowsTo_row hj
    refine ⟨rowsTo p' (nB g (e + 1)), _, ?_, ?_, rowsFrom_lead (by omega) h2⟩
    · rw [w]
      ((with_reducible repeat (first | refine go_pos (by first | assumption | omega | rfl | exact B_pos (by omega)) ?_ | refine go_neg (by first | assumption | omega | decide | exact B_not (by omega)) ?_ | refine go_bind (by first | assumption) ?_ | dsimp only)); first | done | (with_reducible rfl) | simp (disch := omega) only [w64] | (show False; done))
    · have : (fun x => ∃ y, Sp m (nB g (e + 1) + nB g e) (Gn (bdA g m u e) (nB g e)) y ∧ ∀ i, i < nB g (e + 1) → m ∣ y i - x i) = Sp m (nB g (e + 1)) (bdG g m u (e + 1)) := by
        funext x
        exact propext (first_span (fun i hi => bdL_length ..) h4 h5.sub x)
      rw [this] at h5
      exact h5
end Go.Proofs.Ytpppnoliogdkiaa.V
set_option linter.unusedVariables false
set_option linter.unusedSimpArgs false
set_option maxHeartbeats 4000000
set_option maxRecDepth 20000
namespace Go.Proofs.Ytpppnoliogdkiaa.V
open Go.RowKit Go.Proofs.Ytpppnoliogdkiaa.D Go.Proofs.Ytpppnoliogdkiaa.P
def lc (p : List (List Int)) (t : List Int) : Nat → Vc
  | 0 => fun _ => 0
  | k + 1 => fun i => lc p t k i + rd t (k : Int) * rd (row p (k : Int)) (i : Int)
theorem lc_succ (p : List (List Int)) (t : List Int) (k i : Nat) : lc p t (k + 1) i = lc p t k i + rd t (k : Int) * rd (row p (k : Int)) (i : Int) := rfl
structure Least0 (m : Int) (W k : Nat) (p : List (List Int)) (M : Vc → Prop) (x y t : List Int) : Prop where
  len : y.length = W
  ent : AllIn m y
  dif : M fun i => rd x (i : Int) - rd y (i : Int)
  lt : ∀ j : Nat, j < k → rd y (j : Int) < dv m p j
  tlen : t.length = W
  tbd : ∀ j : Nat, j < W → 0 ≤ rd t (j : Int) ∧ rd t (j : Int) ≤ 12
  tnil : ∀ j : Nat, row p (j : Int) = [] → rd t (j : Int) = 0
  tak : ∀ i : Nat, i < W → m ∣ rd x (i : Int) - rd y (i : Int) - lc p t k i
theorem lc_congr {p : List (List Int)} {t t' : List Int} : ∀ k, (∀ j : Nat, j < k → rd t (j : Int) = rd t' (j : Int)) → lc p t k = lc p t' k := by
  intro k
  induction k with
  | zero => intro _; rfl
  | succ k ih =>
    intro h
    funext i
    rw [lc, lc, ih fun j hj => h j (by omega), h k (by omega)]
theorem rd_set_same {t : List Int} {j : Nat} {x : Int} (h : j < t.length) : rd (t.set j x) (j : Int) = x := by
  rw [rd_get (by rw [List.length_set]; exact h)]; simp
theorem rd_set_ne {t : List Int} {i j : Nat} {x : Int} (h : i ≠ j) : rd (t.set j x) (i : Int) = rd t (i : Int) := by
  simp only [rd, Int.toNat_natCast, List.getD_eq_getElem?_getD, List.getElem?_set, if_neg (show ¬ j = i from fun e => h e.symm)]
theorem Least0.begin {m : Int} {W : Nat} {p : List (List Int)} {M : Vc → Prop} (hM : Lead m W p M) {x : List Int} (hx : x.length = W) (ha : AllIn m x) : Least0 m W 0 p M x x (List.replicate W 0) where
  len := hx
  ent := ha
  dif := hM.sub.alike _ _ hM.sub.zero fun i _ => dvd_same (by simp)
  lt := fun j hj => by omega
  tlen := List.length_replicate
  tbd := fun j _ => by rw [rd_zeros]; omega
  tnil := fun j _ => rd_zeros _ _
  tak := fun i _ => dvd_same (by simp [lc])
theorem Least0.skip {m : Int} {W k : Nat} {p : List (List Int)} {M : Vc → Prop} {x y t : List Int} (h : Least0 m W k p M x y t) (hk : k < W) (hr : row p (k : Int) = []) : Least0 m W (k + 1) p M x y t :=
  { h with
    lt := fun j hj => by
      by_cases e : j = k
      · subst e
        rw [show dv m p j = m from if_pos hr]
        exact (h.ent j (by omega) (by rw [h.len]; omega)).2
      · exact h.lt j (by omega)
    tak := fun i hi => by
      rw [lc_succ, h.tnil k hr, Int.zero_mul, Int.add_zero]
      exact h.tak i hi }
theorem Least0.take {m : Int} {W k : Nat} {p : List (List Int)} {M : Vc → Prop} {x y t : List Int} (m2 : 2 ≤ m) (m12 : m ≤ 12) (hM : Lead m W p M) (h : Least0 m W k p M x y t) (hk : k < W) (hr : row p (k : Int) ≠ []) :
    Least0 m W (k + 1) p M x (mix m 1 y (-(rd y (k : Int) / rd (row p (k : Int)) (k : Int))) (row p (k : Int))) (t.set k (rd y (k : Int) / rd (row p (k : Int)) (k : Int))) := by
  have hP := hM.tab.prow hk hr
  have p0 := hP.pos
  have p1 := hP.lt
  have yl := h.len
  have tl := h.tlen
  obtain ⟨y0, y1⟩ := h.ent k (by omega) (by omega)
  obtain ⟨q, hq⟩ : ∃ q, q = rd y (k : Int) / rd (row p (k : Int)) (k : Int) := ⟨_, rfl⟩
  rw [← hq]
  have hmod := Int.mul_ediv_add_emod (rd y (k : Int)) (rd (row p (k : Int)) (k : Int))
  rw [← hq] at hmod
  have r0 := Int.emod_nonneg (rd y (k : Int)) (show rd (row p (k : Int)) (k : Int) ≠ 0 by omega)
  have r1 := Int.emod_lt_of_pos (rd y (k : Int)) p0
  have q0 : 0 ≤ q := by rw [hq]; exact Int.ediv_nonneg y0 (by omega)
  have q1 : q ≤ rd y (k : Int) := by rw [hq]; exact Int.ediv_le_self _ y0
  have hy : ∀ i : Nat, i < W → m ∣ 1 * rd y (i : Int) + (-q) * rd (row p (k : Int)) (i : Int) - rd (mix m 1 y (-q) (row p (k : Int))) (i : Int) := fun i hi => mix_dvd (by omega)
  refine ⟨by rw [mix_length]; exact yl, mix_in (by omega), ?_, fun j hj => ?_, by rw [List.length_set]; exact tl, fun j hj => ?_, fun j hn => ?_, fun i hi => ?_⟩
  · refine hM.sub.alike _ _ (hM.sub.lin _ _ h.dif (hM.own k hk hr) q) fun i hi => ?_
    obtain ⟨z, hz⟩ := hy i hi
    refine ⟨-z, ?_⟩
    rw [Int.mul_neg, ← hz, Int.neg_mul]
    show rd x (i : Int) - rd y (i : Int) + q * rd (row p (k : Int)) (i : Int) - (rd x (i : Int) - rd (mix m 1 y (-q) (row p (k : Int))) (i : Int)) = _
    omega
  · by_cases e : j = k
    · subst e
      rw [mix_rd (by omega), show dv m p j = rd (row p (j : Int)) (j : Int) from if_neg hr, show 1 * rd y (j : Int) + -q * rd (row p (j : Int)) (j : Int) = rd y (j : Int) % rd (row p (j : Int)) (j : Int) by rw [Int.neg_mul, Int.mul_comm q]; omega, Int.emod_eq_of_lt r0 (by omega)]
      exact r1
    · obtain ⟨a0, a1⟩ := h.ent j (by omega) (by omega)
      rw [mix_rd (by omega), hP.zero j (by omega), Int.mul_zero, Int.add_zero, Int.one_mul, Int.emod_eq_of_lt a0 a1]
      exact h.lt j (by omega)
  · by_cases e : j = k
    · subst e; rw [rd_set_same (by omega)]; omega
    · rw [rd_set_ne e]; exact h.tbd j hj
  · have e : j ≠ k := fun e => hr (e ▸ hn)
    rw [rd_set_ne e]; exact h.tnil j hn
  · rw [lc_succ, rd_set_same (by omega), lc_congr k fun j hj => rd_set_ne (show j ≠ k by omega)]
    obtain ⟨z, hz⟩ := hy i hi
    obtain ⟨z', hz'⟩ := h.tak i hi
    refine ⟨z' + z, ?_⟩
    rw [Int.mul_add, ← hz, ← hz', Int.neg_mul]
    omega
theorem Least0.fin {m : Int} {W : Nat} {p : List (List Int)} {M : Vc → Prop} {x y t : List Int} (h : Least0 m W W p M x y t) : Least m W p M x y := ⟨h.len, h.ent, h.dif, h.lt⟩
theorem rest_ {m : Int} (m2 : 2 ≤ m) (m12 : m ≤ 12) {W : Nat} (hW : W ≤ 100000) {p : List (List Int)} {M : Vc → Prop} (hM : Lead m W p M) {x : List Int} (hx : x.length = W) (ha : AllIn m x) :
    ∃ y t, impl_span_rest.f m p x = some (y, t, m, p) ∧ Least0 m W W p M x y t := by
  have hl := hM.tab.len
  rw [impl_span_rest.f_eq, hl, Int.toNat_natCast]
  have key : ∀ k, k ≤ W → ∃ y t, impl_span_rest.l0 (W : Int) 0 m p x (List.replicate W 0) = impl_span_rest.l0 (W : Int) (k : Int) m p y t ∧ Least0 m W k p M x y t := by
    intro k
    induction k with
    | zero => exact fun _ => ⟨_, _, rfl, Least0.begin hM hx ha⟩
    | succ k ih =>
      intro hk
      obtain ⟨y, t, h1, h2⟩ := ih (by omega)
      have yl := h2.len
      have tl := h2.tlen
      by_cases hr : row p (k : Int) = []
      · have e0 : (row p (k : Int)).length = 0 := by rw [hr]; rfl
        refine ⟨y, t, ?_, h2.skip (by omega) hr⟩
        rw [h1, impl_span_rest.l0_eq, wn (j := k) (by omega)]
        ((with_reducible repeat (first | refine go_pos (by first | assumption | omega | rfl | exact B_pos (by omega)) ?_ | refine go_neg (by first | assumption | omega | decide | exact B_not (by omega)) ?_ | refine go_bind (by first | assumption) ?_ | dsimp only)); first | done | (with_reducible rfl) | simp (disch := omega) only [w64] | (show False; done))
      · have hP := hM.tab.prow (show k < W by omega) hr
        have pl := hP.len
        have p0 := hP.pos
        obtain ⟨y0, y1⟩ := h2.ent k (by omega) (by omega)
        refine ⟨_, _, ?_, h2.take m2 m12 hM (by omega) hr⟩
        have hT : T p (k : Int) (k : Int) = rd (row p (k : Int)) (k : Int) := rfl
        have d0 : 0 ≤ rd y (k : Int) / rd (row p (k : Int)) (k : Int) := Int.ediv_nonneg y0 (by omega)
        have d1 : rd y (k : Int) / rd (row p (k : Int)) (k : Int) ≤ rd y (k : Int) := Int.ediv_le_self _ y0
        have e1 : wrapI (Int.tdiv (rd y (k : Int)) (rd (row p (k : Int)) (k : Int))) = rd y (k : Int) / rd (row p (k : Int)) (k : Int) := by rw [tdiv_nn y0]; exact w64 (by omega) (by omega)
        have hne : ¬ rd (row p (k : Int)) (k : Int) = 0 := by omega
        have hsl : (t.set k (rd y (k : Int) / rd (row p (k : Int)) (k : Int))).length = W := by rw [List.length_set]; exact tl
        have hc := combined m2 m12 (p := p) (x := 1) (y := -(rd y (k : Int) / rd (row p (k : Int)) (k : Int))) h2.ent hP.ent (by omega) (by omega) (by omega) (by omega) (by omega) (by omega)
        have e2 : wrapI (0 - rd y (k : Int) / rd (row p (k : Int)) (k : Int)) = -(rd y (k : Int) / rd (row p (k : Int)) (k : Int)) := by rw [w64 (by omega) (by omega)]; omega
        rw [h1, impl_span_rest.l0_eq, wn (j := k) (by omega), hT, e1, Int.toNat_natCast, rd_set_same (by omega), e2]
        ((with_reducible repeat (first | refine go_pos (by first | assumption | omega | rfl | exact B_pos (by omega)) ?_ | refine go_neg (by first | assumption | omega | decide | exact B_not (by omega)) ?_ | refine go_bind (by first | assumption) ?_ | dsimp only)); first | done | (with_reducible rfl) | simp (disch := omega) only [w64] | (show False; done))
  obtain ⟨y, t, h1, h2⟩ := key W (Nat.le_refl _)
  refine ⟨y, t, ?_, h2⟩
  (with_reducible repeat (first | refine go_pos (by first | assumption | omega | rfl | exact B_pos (by omega)) ?_ | refine go_neg (by first | assumption | omega | decide | exact B_not (by omega)) ?_ | refine go_bind (by first | assumption) ?_ | dsimp only))
  rw [h1, impl_span_rest.l0_eq]
  ((with_reducible repeat (first | refine go_pos (by first | assumption | omega | rfl | exact B_pos (by omega)) ?_ | refine go_neg (by first | assumption | omega | decide | exact B_not (by omega)) ?_ | refine go_bind (by first | assumption) ?_ | dsimp only)); first | done | (with_reducible rfl) | simp (disch := omega) only [w64] | (show False; done))
theorem mix_zero {m : Int} {y r : List Int} (ha : AllIn m y) : mix m 1 y (-0) r = y := by
  refine ext_rd (mix_length ..) fun i i0 i1 => ?_
  rw [mix_length] at i1
  obtain ⟨n, rfl⟩ := Int.eq_ofNat_of_zero_le i0
  obtain ⟨a0, a1⟩ := ha n (by omega) i1
  rw [mix_rd (by omega), show (1 : Int) * rd y (n : Int) + -0 * rd r (n : Int) = rd y (n : Int) by simp]
  exact Int.emod_eq_of_lt a0 a1
theorem Less_ {m : Int} (m2 : 2 ≤ m) (m12 : m ≤ 12) {W : Nat} (hW : W ≤ 100000) {p : List (List Int)} {M : Vc → Prop} (hM : Lead m W p M) {x : List Int} (hx : x.length = W) (ha : AllIn m x) :
    ∃ y, spec_l04Less.f x p m = some y ∧ Least m W p M x y := by
  have hl := hM.tab.len
  rw [spec_l04Less.f_eq, Own_ x (by omega), Option.bind_some]
  have key : ∀ k, k ≤ W → ∃ y t, spec_l04Less.l0 p m 0 x = spec_l04Less.l0 p m (k : Int) y ∧ Least0 m W k p M x y t := by
    intro k
    induction k with
    | zero => exact fun _ => ⟨_, _, rfl, Least0.begin hM hx ha⟩
    | succ k ih =>
      intro hk
      obtain ⟨y, t, h1, h2⟩ := ih (by omega)
      have yl := h2.len
      by_cases hr : row p (k : Int) = []
      · have e0 : ¬ ((row p (k : Int)).length : Int) > 0 := by rw [hr]; simp
        refine ⟨y, t, ?_, h2.skip (by omega) hr⟩
        rw [h1, spec_l04Less.l0_eq, wn (j := k) (by omega)]
        ((with_reducible repeat (first | refine go_pos (by first | assumption | omega | rfl | exact B_pos (by omega)) ?_ | refine go_neg (by first | assumption | omega | decide | exact B_not (by omega)) ?_ | refine go_bind (by first | assumption) ?_ | dsimp only)); first | done | (with_reducible rfl) | simp (disch := omega) only [w64] | (show False; done))
      · have e0 : ((row p (k : Int)).length : Int) > 0 := by have := List.length_pos_iff.2 hr; omega
        have hP := hM.tab.prow (show k < W by omega) hr
        have pl := hP.len
        have p0 := hP.pos
        obtain ⟨y0, y1⟩ := h2.ent k (by omega) (by omega)
        have hT : T p (k : Int) (k : Int) = rd (row p (k : Int)) (k : Int) := rfl
        have d0 : 0 ≤ rd y (k : Int) / rd (row p (k : Int)) (k : Int) := Int.ediv_nonneg y0 (by omega)
        have d1 : rd y (k : Int) / rd (row p (k : Int)) (k : Int) ≤ rd y (k : Int) := Int.ediv_le_self _ y0
        have e1 : wrapI (Int.tdiv (rd y (k : Int)) (rd (row p (k : Int)) (k : Int))) = rd y (k : Int) / rd (row p (k : Int)) (k : Int) := by rw [tdiv_nn y0]; exact w64 (by omega) (by omega)
        have hne : ¬ rd (row p (k : Int)) (k : Int) = 0 := by omega
        refine ⟨_, _, ?_, h2.take m2 m12 hM (by omega) hr⟩
        have hc := Mix_ m2 m12 (x := 1) (y := -(rd y (k : Int) / rd (row p (k : Int)) (k : Int))) h2.ent hP.ent (by omega) (by omega) (by omega) (by omega) (by omega) (by omega)
        have e2 : wrapI (0 - rd y (k : Int) / rd (row p (k : Int)) (k : Int)) = -(rd y (k : Int) / rd (row p (k : Int)) (k : Int)) := by rw [w64 (by omega) (by omega)]; omega
        rw [h1, spec_l04Less.l0_eq, wn (j := k) (by omega), hT, e1, e2]
        by_cases hge : rd y (k : Int) ≥ rd (row p (k : Int)) (k : Int)
        · ((with_reducible repeat (first | refine go_pos (by first | assumption | omega | rfl | exact B_pos (by omega)) ?_ | refine go_neg (by first | assumption | omega | decide | exact B_not (by omega)) ?_ | refine go_bind (by first | assumption) ?_ | dsimp only)); first | done | (with_reducible rfl) | simp (disch := omega) only [w64] | (show False; done))
        · have hz : rd y (k : Int) / rd (row p (k : Int)) (k : Int) = 0 := Int.ediv_eq_zero_of_lt y0 (by omega)
          rw [hz, mix_zero h2.ent]
          ((with_reducible repeat (first | refine go_pos (by first | assumption | omega | rfl | exact B_pos (by omega)) ?_ | refine go_neg (by first | assumption | omega | decide | exact B_not (by omega)) ?_ | refine go_bind (by first | assumption) ?_ | dsimp only)); first | done | (with_reducible rfl) | simp (disch := omega) only [w64] | (show False; done))
  obtain ⟨y, t, h1, h2⟩ := key W (Nat.le_refl _)
  refine ⟨y, ?_, h2.fin⟩
  rw [h1, spec_l04Less.l0_eq]
  ((with_reducible repeat (first | refine go_pos (by first | assumption | omega | rfl | exact B_pos (by omega)) ?_ | refine go_neg (by first | assumption | omega | decide | exact B_not (by omega)) ?_ | refine go_bind (by first | assumption) ?_ | dsimp only)); first | done | (with_reducible rfl) | simp (disch := omega) only [w64] | (show False; done))
theorem clone_ (x : List Int) (h : x.length ≤ 1000000) : slices_Clone_int64.f x = some x := by
  rw [slices_Clone_int64.f_eq, List.nil_append, show ([] : List Int).length = 0 from rfl]
  by_cases h0 : x.length = 0
  · have := List.eq_nil_of_length_eq_zero h0
    subst this
    ((with_reducible repeat (first | refine go_pos (by first | assumption | omega | rfl | exact B_pos (by omega)) ?_ | refine go_neg (by first | assumption | omega | decide | exact B_not (by omega)) ?_ | refine go_bind (by first | assumption) ?_ | dsimp only)); first | done | (with_reducible rfl) | simp (disch := omega) only [w64] | (show False; done))
  · ((with_reducible repeat (first | refine go_pos (by first | assumption | omega | rfl | exact B_pos (by omega)) ?_ | refine go_neg (by first | assumption | omega | decide | exact B_not (by omega)) ?_ | refine go_bind (by first | assumption) ?_ | dsimp only)); first | done | (with_reducible rfl) | simp (disch := omega) only [w64] | (show False; done))
theorem least_ {m : Int} (m2 : 2 ≤ m) (m12 : m ≤ 12) {W : Nat} (hW : W ≤ 100000) {p : List (List Int)} {M : Vc → Prop} (hM : Lead m W p M) (d : Int) {x : List Int} (hx : x.length = W) (ha : AllIn m x) :
    ∃ y, impl_span_least.f m p d x = some (d, y, m, p) ∧ Least m W p M x y := by
  obtain ⟨y, t, h1, h2⟩ := rest_ m2 m12 hW hM hx ha
  have hc := clone_ x (by omega)
  refine ⟨y, ?_, h2.fin⟩
  rw [impl_span_least.f_eq]
  ((with_reducible repeat (first | refine go_pos (by first | assumption | omega | rfl | exact B_pos (by omega)) ?_ | refine go_neg (by first | assumption | omega | decide | exact B_not (by omega)) ?_ | refine go_bind (by first | assumption) ?_ | dsimp only)); first | done | (with_reducible rfl) | simp (disch := omega) only [w64] | (show False; done))
def Zr (x : List Int) : Prop := ∀ i : Int, 0 ≤ i → i < x.length → rd x i = 0
theorem Zero_ (x : List Int) (hl : x.length ≤ 1000000) : spec_l04Zero.f x = some (B (Zr x)) := by
  rw [spec_l04Zero.f_eq]
  refine scanT x.length (fun i => spec_l04Zero.l0 x i) (fun i => rd x i = 0) (fun i i0 i1 _ => ?_) (fun _ => by (rw [spec_l04Zero.l0_eq]); ((with_reducible repeat (first | refine go_pos (by first | assumption | omega | rfl | exact B_pos (by omega)) ?_ | refine go_neg (by first | assumption | omega | decide | exact B_not (by omega)) ?_ | refine go_bind (by first | assumption) ?_ | dsimp only)); first | done | (with_reducible rfl) | simp (disch := omega) only [w64] | (show False; done)))
  refine ⟨fun h => ?_, fun h => ?_⟩ <;> (rw [spec_l04Zero.l0_eq]) <;> ((with_reducible repeat (first | refine go_pos (by first | assumption | omega | rfl | exact B_pos (by omega)) ?_ | refine go_neg (by first | assumption | omega | decide | exact B_not (by omega)) ?_ | refine go_bind (by first | assumption) ?_ | dsimp only)); first | done | (with_reducible rfl) | simp (disch := omega) only [w64] | (show False; done))
theorem isZero_ (x : List Int) (hl : x.length ≤ 1000000) : impl_isZero.f x = some (B (Zr x)) := by
  have hf : (fun z0 => (impl_isZero_1.f z0).map fun z => z) = (fun z0 : Int => some (!decide (z0 = 0))) := by
    funext z; rw [impl_isZero_1.f_eq]; rfl
  have hp : (fun z0 => (impl_span_put_1.f z0).map fun z => z) = (fun z0 : Int => some (!decide (z0 = 0))) := by
    funext z; rw [impl_span_put_1.f_eq]; rfl
  have hI := indexFunc x hl
  rw [hp] at hI
  have hC : (fun z0 => ((fun z0 : Int => some (!decide (z0 = 0))) z0).map fun z => z) = (fun z0 : Int => some (!decide (z0 = 0))) := rfl
  rw [impl_isZero.f_eq, hf, slices_ContainsFunc_int64.f_eq, hC]
  rcases hI with ⟨hz, h⟩ | ⟨j, hj, _, hne, h⟩
  · rw [h, B_pos (show Zr x from fun i i0 i1 => by
      obtain ⟨n, rfl⟩ := Int.eq_ofNat_of_zero_le i0
      exact hz n (by omega))]
    rfl
  · rw [h, B_neg (show ¬ Zr x from fun k => hne (k j (by omega) (by omega)))]
    simp
theorem Least.zero_iff {m : Int} (m0 : 0 < m) {W : Nat} {p : List (List Int)} {M : Vc → Prop} (hM : Lead m W p M) {x y : List Int} (h : Least m W p M x y) : Zr y ↔ M (V x) := by
  have yl := h.len
  constructor
  · intro hz
    refine hM.sub.alike _ _ h.dif fun i hi => ?_
    rw [hz i (by omega) (by omega)]
    exact dvd_same (by simp [V])
  · intro hx
    have hz : Least m W p M x (List.replicate W 0) := ⟨List.length_replicate, zeros_in m0 W, hM.sub.alike _ _ hx fun i hi => dvd_same (by rw [rd_zeros]; simp [V]), fun j hj => by rw [rd_zeros]; exact (dv_bd m0 hM.tab hj).1⟩
    rw [h.same m0 hM hM hz]
    exact fun i _ _ => rd_zeros _ _
end Go.Proofs.Ytpppnoliogdkiaa.V
set_option linter.unusedVariables false
set_option linter.unusedSimpArgs false
set_option maxHeartbeats 4000000
set_option maxRecDepth 20000
namespace Go.Proofs.Ytpppnoliogdkiaa.V
open Go.RowKit Go.Proofs.Ytpppnoliogdkiaa.D Go.Proofs.Ytpppnoliogdkiaa.P
theorem isRanked_ {g : List (List Int)} (hg : Grp g) {k : Nat} (hk : k ≤ 4) : impl_isRanked.f g (k : Int) = some (B (nB g k ≤ 49)) := by
  obtain ⟨b1, b2⟩ := nA_bd hg hk
  have hc := cells_ hg (d := (k : Int)) (by omega) (by omega)
  rw [impl_isRanked.f_eq, hc, Option.bind_some, ← b2, B_decide, B_congr (show ((nB g k : Nat) : Int) ≤ 49 ↔ nB g k ≤ 49 by omega)]
theorem Code04 {g : List (List Int)} (hg : Grp g) {m : Int} {u : List Int} (hm : Mdl g m u) (hu : u.length ≤ maxLen) {k : Nat} (hk : k ≤ 3) : spec_l04Code.f g m u (k : Int) = some (ite_ (nB g k ≤ 49) 0 3) := by
  have hS := Is_ g
  have hM := Is02 hg m u hu
  rw [B_pos hg] at hS
  rw [B_pos hm] at hM
  have hI := In_ (k : Int) 0 3
  rw [B_pos (show (0 : Int) ≤ (k : Int) ∧ (k : Int) ≤ 3 by omega)] at hI
  obtain ⟨b1, b2⟩ := nA_bd hg (e := k) (by omega)
  have hC := Cells_ hg (d := (k : Int)) (by omega) (by omega)
  rw [spec_l04Code.f_eq]
  by_cases h3 : nB g k ≤ 49
  · rw [ite_pos h3]; ((with_reducible repeat (first | refine go_pos (by first | assumption | omega | rfl | exact B_pos (by omega)) ?_ | refine go_neg (by first | assumption | omega | decide | exact B_not (by omega)) ?_ | refine go_bind (by first | assumption) ?_ | dsimp only)); first | done | (with_reducible rfl) | simp (disch := omega) only [w64] | (show False; done))
  · rw [ite_neg h3]; ((with_reducible repeat (first | refine go_pos (by first | assumption | omega | rfl | exact B_pos (by omega)) ?_ | refine go_neg (by first | assumption | omega | decide | exact B_not (by omega)) ?_ | refine go_bind (by first | assumption) ?_ | dsimp only)); first | done | (with_reducible rfl) | simp (disch := omega) only [w64] | (show False; done))
theorem co_codes2 (g : List (List Int)) (hl : g.length ≤ maxLen) (hr : ∀ r ∈ g, r.length ≤ maxLen) (m : Int) (u : List Int) (hu : u.length ≤ maxLen) (d : Int) (v : List Int) (hv : v.length ≤ maxLen) (d' : Int) (v' : List Int) (hv' : v'.length ≤ maxLen) :
    (Grp g ∧ Mdl g m u ∧ Co g m d v ∧ Co g m d' v' ∧ impl_cochainCode.f g m u [(d, v), (d', v')] = some 0 ∧ spec_l03Code.f g m u [(d, v), (d', v')] = some 0) ∨
    (¬ (Grp g ∧ Mdl g m u ∧ Co g m d v ∧ Co g m d' v') ∧ impl_cochainCode.f g m u [(d, v), (d', v')] = some 1 ∧ spec_l03Code.f g m u [(d, v), (d', v')] = some 1) := by
  have hA := areModules1 g hl hr m u hu
  have hS := Is_ g
  have w1 : wrapI (0 + 1) = 1 := w64 (by omega) (by omega)
  have w2 : wrapI (1 + 1) = 2 := w64 (by omega) (by omega)
  have l2 : ([(d, v), (d', v')] : List (Int × List Int)).length = 2 := rfl
  have r0 : Ty.rd (.pr (.int .i64) (.sl 2 (.int .i64))) [(d, v), (d', v')] 0 = (d, v) := rfl
  have r1 : Ty.rd (.pr (.int .i64) (.sl 2 (.int .i64))) [(d, v), (d', v')] 1 = (d', v') := rfl
  have stI : impl_cochainCode.l0 [(d, v), (d', v')] ((2 : Nat) : Int) 2 g m u = some 0 := by rw [impl_cochainCode.l0_eq]; exact if_neg (by simp)
  have stS : spec_l03Code.l0 [(d, v), (d', v')] 2 g m u = some 0 := by rw [spec_l03Code.l0_eq]; exact if_neg (by simp)
  rw [impl_cochainCode.f_eq, spec_l03Code.f_eq]
  by_cases h : GM g m u
  rotate_left
  · refine .inr ⟨fun k => h ⟨k.1, k.2.1⟩, ?_, ?_⟩
    · ((with_reducible repeat (first | refine go_pos (by first | assumption | omega | rfl | exact B_pos (by omega)) ?_ | refine go_neg (by first | assumption | omega | decide | exact B_not (by omega)) ?_ | refine go_bind (by first | assumption) ?_ | dsimp only)); first | done | (with_reducible rfl) | simp (disch := omega) only [w64] | (show False; done))
    · by_cases h1 : Grp g
      · have hM := Is02 h1 m u hu
        rw [B_neg fun k => h ⟨h1, k⟩] at hM
        ((with_reducible repeat (first | refine go_pos (by first | assumption | omega | rfl | exact B_pos (by omega)) ?_ | refine go_neg (by first | assumption | omega | decide | exact B_not (by omega)) ?_ | refine go_bind (by first | assumption) ?_ | dsimp only)); first | done | (with_reducible rfl) | simp (disch := omega) only [w64] | (show False; done))
      · ((with_reducible repeat (first | refine go_pos (by first | assumption | omega | rfl | exact B_pos (by omega)) ?_ | refine go_neg (by first | assumption | omega | decide | exact B_not (by omega)) ?_ | refine go_bind (by first | assumption) ?_ | dsimp only)); first | done | (with_reducible rfl) | simp (disch := omega) only [w64] | (show False; done))
  have hM := Is02 h.1 m u hu
  have hI := isCochain h.1 m u d v hv
  have hI' := isCochain h.1 m u d' v' hv'
  have hC := Is03 h.1 h.2 d v hv
  have hC' := Is03 h.1 h.2 d' v' hv'
  have hB : B (GM g m u) = true := B_pos h
  have hGr := h.1
  have hMd := h.2
  rw [l2, impl_cochainCode.l0_eq, spec_l03Code.l0_eq, l2, r0, w1]
  by_cases h2 : Co g m d v
  rotate_left
  · exact .inr ⟨fun k => h2 k.2.2.1, by ((with_reducible repeat (first | refine go_pos (by first | assumption | omega | rfl | exact B_pos (by omega)) ?_ | refine go_neg (by first | assumption | omega | decide | exact B_not (by omega)) ?_ | refine go_bind (by first | assumption) ?_ | dsimp only)); first | done | (with_reducible rfl) | simp (disch := omega) only [w64] | (show False; done)), by ((with_reducible repeat (first | refine go_pos (by first | assumption | omega | rfl | exact B_pos (by omega)) ?_ | refine go_neg (by first | assumption | omega | decide | exact B_not (by omega)) ?_ | refine go_bind (by first | assumption) ?_ | dsimp only)); first | done | (with_reducible rfl) | simp (disch := omega) only [w64] | (show False; done))⟩
  have kI : impl_cochainCode.l0 [(d, v), (d', v')] ((2 : Nat) : Int) 1 g m u = some (ite_ (Co g m d' v') 0 1) := by
    rw [impl_cochainCode.l0_eq, l2, r1, w2]
    by_cases h3 : Co g m d' v'
    · rw [ite_pos h3]; (with_reducible repeat (first | refine go_pos (by first | assumption | omega | rfl | exact B_pos (by omega)) ?_ | refine go_neg (by first | assumption | omega | decide | exact B_not (by omega)) ?_ | refine go_bind (by first | assumption) ?_ | dsimp only)); exact stI
    · rw [ite_neg h3]; ((with_reducible repeat (first | refine go_pos (by first | assumption | omega | rfl | exact B_pos (by omega)) ?_ | refine go_neg (by first | assumption | omega | decide | exact B_not (by omega)) ?_ | refine go_bind (by first | assumption) ?_ | dsimp only)); first | done | (with_reducible rfl) | simp (disch := omega) only [w64] | (show False; done))
  have kS : spec_l03Code.l0 [(d, v), (d', v')] 1 g m u = some (ite_ (Co g m d' v') 0 1) := by
    rw [spec_l03Code.l0_eq, l2, r1, w2]
    by_cases h3 : Co g m d' v'
    · rw [ite_pos h3]; (with_reducible repeat (first | refine go_pos (by first | assumption | omega | rfl | exact B_pos (by omega)) ?_ | refine go_neg (by first | assumption | omega | decide | exact B_not (by omega)) ?_ | refine go_bind (by first | assumption) ?_ | dsimp only)); exact stS
    · rw [ite_neg h3]; ((with_reducible repeat (first | refine go_pos (by first | assumption | omega | rfl | exact B_pos (by omega)) ?_ | refine go_neg (by first | assumption | omega | decide | exact B_not (by omega)) ?_ | refine go_bind (by first | assumption) ?_ | dsimp only)); first | done | (with_reducible rfl) | simp (disch := omega) only [w64] | (show False; done))
  by_cases h3 : Co g m d' v'
  · rw [ite_pos h3] at kI kS
    exact .inl ⟨h.1, h.2, h2, h3, by (with_reducible repeat (first | refine go_pos (by first | assumption | omega | rfl | exact B_pos (by omega)) ?_ | refine go_neg (by first | assumption | omega | decide | exact B_not (by omega)) ?_ | refine go_bind (by first | assumption) ?_ | dsimp only)); exact kI, by (with_reducible repeat (first | refine go_pos (by first | assumption | omega | rfl | exact B_pos (by omega)) ?_ | refine go_neg (by first | assumption | omega | decide | exact B_not (by omega)) ?_ | refine go_bind (by first | assumption) ?_ | dsimp only)); exact kS⟩
  · rw [ite_neg h3] at kI kS
    exact .inr ⟨fun k => h3 k.2.2.2, by (with_reducible repeat (first | refine go_pos (by first | assumption | omega | rfl | exact B_pos (by omega)) ?_ | refine go_neg (by first | assumption | omega | decide | exact B_not (by omega)) ?_ | refine go_bind (by first | assumption) ?_ | dsimp only)); exact kI, by (with_reducible repeat (first | refine go_pos (by first | assumption | omega | rfl | exact B_pos (by omega)) ?_ | refine go_neg (by first | assumption | omega | decide | exact B_not (by omega)) ?_ | refine go_bind (by first | assumption) ?_ | dsimp only)); exact kS⟩
theorem given2 {g : List (List Int)} (hl : g.length ≤ maxLen) (hr : ∀ r ∈ g, r.length ≤ maxLen) (m : Int) (u : List Int) (hu : u.length ≤ maxLen) (d : Int) (v : List Int) (hv : v.length ≤ maxLen) (d' : Int) (v' : List Int) (hv' : v'.length ≤ maxLen) :
    (∃ k : Nat, d = (k : Int) ∧ d' = (k : Int) ∧ k ≤ 3 ∧ Grp g ∧ Mdl g m u ∧ Co g m k v ∧ Co g m k v' ∧ nB g k ≤ 49 ∧ Cocy g m u v k ∧ Cocy g m u v' k ∧ impl_cocycleCode.f g m u [(d, v), (d', v')] = some 0 ∧ spec_l04Given.f g m u true [(d, v), (d', v')] = some 0) ∨
    ∃ c : Int, ¬ c = 0 ∧ impl_cocycleCode.f g m u [(d, v), (d', v')] = some c ∧ spec_l04Given.f g m u true [(d, v), (d', v')] = some c := by
  have l2 : ([(d, v), (d', v')] : List (Int × List Int)).length = 2 := rfl
  have r0 : Ty.rd (.pr (.int .i64) (.sl 2 (.int .i64))) [(d, v), (d', v')] 0 = (d, v) := rfl
  have r1 : Ty.rd (.pr (.int .i64) (.sl 2 (.int .i64))) [(d, v), (d', v')] 1 = (d', v') := rfl
  have w1 : wrapI (0 + 1) = 1 := w64 (by omega) (by omega)
  have w2 : wrapI (1 + 1) = 2 := w64 (by omega) (by omega)
  rcases co_codes2 g hl hr m u hu d v hv d' v' hv' with ⟨hg, hm, hc, hc', cI, cS⟩ | ⟨_, cI, cS⟩
  rotate_left
  · exact .inr ⟨1, by omega, by rw [impl_cocycleCode.f_eq]; ((with_reducible repeat (first | refine go_pos (by first | assumption | omega | rfl | exact B_pos (by omega)) ?_ | refine go_neg (by first | assumption | omega | decide | exact B_not (by omega)) ?_ | refine go_bind (by first | assumption) ?_ | dsimp only)); first | done | (with_reducible rfl) | simp (disch := omega) only [w64] | (show False; done)), by rw [spec_l04Given.f_eq]; ((with_reducible repeat (first | refine go_pos (by first | assumption | omega | rfl | exact B_pos (by omega)) ?_ | refine go_neg (by first | assumption | omega | decide | exact B_not (by omega)) ?_ | refine go_bind (by first | assumption) ?_ | dsimp only)); first | done | (with_reducible rfl) | simp (disch := omega) only [w64] | (show False; done))⟩
  obtain ⟨k, rfl⟩ := Int.eq_ofNat_of_zero_le hc.1.1
  have hk : k ≤ 3 := by have := hc.1.2; omega
  by_cases hdd : d' = (k : Int)
  rotate_left
  · refine .inr ⟨2, by omega, ?_, ?_⟩
    · rw [impl_cocycleCode.f_eq]
      (with_reducible repeat (first | refine go_pos (by first | assumption | omega | rfl | exact B_pos (by omega)) ?_ | refine go_neg (by first | assumption | omega | decide | exact B_not (by omega)) ?_ | refine go_bind (by first | assumption) ?_ | dsimp only))
      rw [impl_cocycleCode.l0_eq, l2, r0, w1]
      (with_reducible repeat (first | refine go_pos (by first | assumption | omega | rfl | exact B_pos (by omega)) ?_ | refine go_neg (by first | assumption | omega | decide | exact B_not (by omega)) ?_ | refine go_bind (by first | assumption) ?_ | dsimp only))
      rw [impl_cocycleCode.l0_eq, r1, r0]
      ((with_reducible repeat (first | refine go_pos (by first | assumption | omega | rfl | exact B_pos (by omega)) ?_ | refine go_neg (by first | assumption | omega | decide | exact B_not (by omega)) ?_ | refine go_bind (by first | assumption) ?_ | dsimp only)); first | done | (with_reducible rfl) | simp (disch := omega) only [w64] | (show False; done))
    · rw [spec_l04Given.f_eq]
      (with_reducible repeat (first | refine go_pos (by first | assumption | omega | rfl | exact B_pos (by omega)) ?_ | refine go_neg (by first | assumption | omega | decide | exact B_not (by omega)) ?_ | refine go_bind (by first | assumption) ?_ | dsimp only))
      rw [spec_l04Given.l0_eq, l2, r1, r0]
      ((with_reducible repeat (first | refine go_pos (by first | assumption | omega | rfl | exact B_pos (by omega)) ?_ | refine go_neg (by first | assumption | omega | decide | exact B_not (by omega)) ?_ | refine go_bind (by first | assumption) ?_ | dsimp only)); first | done | (with_reducible rfl) | simp (disch := omega) only [w64] | (show False; done))
  subst hdd
  have sI : impl_cocycleCode.f g m u [((k : Int), v), ((k : Int), v')] = ((impl_isRanked.f g (k : Int)).bind fun t38 => if t38 = true then (impl_cocycleCode.l1 [((k : Int), v), ((k : Int), v')] ((2 : Nat) : Int) 0 g m u) else (some 3)) := by
    rw [impl_cocycleCode.f_eq]
    (with_reducible repeat (first | refine go_pos (by first | assumption | omega | rfl | exact B_pos (by omega)) ?_ | refine go_neg (by first | assumption | omega | decide | exact B_not (by omega)) ?_ | refine go_bind (by first | assumption) ?_ | dsimp only))
    rw [impl_cocycleCode.l0_eq, l2, r0, w1]
    (with_reducible repeat (first | refine go_pos (by first | assumption | omega | rfl | exact B_pos (by omega)) ?_ | refine go_neg (by first | assumption | omega | decide | exact B_not (by omega)) ?_ | refine go_bind (by first | assumption) ?_ | dsimp only))
    rw [impl_cocycleCode.l0_eq, r1, r0, w2]
    (with_reducible repeat (first | refine go_pos (by first | assumption | omega | rfl | exact B_pos (by omega)) ?_ | refine go_neg (by first | assumption | omega | decide | exact B_not (by omega)) ?_ | refine go_bind (by first | assumption) ?_ | dsimp only))
    rw [impl_cocycleCode.l0_eq, l2, r0]
    (with_reducible repeat (first | refine go_pos (by first | assumption | omega | rfl | exact B_pos (by omega)) ?_ | refine go_neg (by first | assumption | omega | decide | exact B_not (by omega)) ?_ | refine go_bind (by first | assumption) ?_ | dsimp only))
  have sS : spec_l04Given.f g m u true [((k : Int), v), ((k : Int), v')] = ((spec_l04Code.f g m u (k : Int)).bind fun t42 => if t42 = 0 then (spec_l04Given.l1 true [((k : Int), v), ((k : Int), v')] 0 g m u) else (some t42)) := by
    rw [spec_l04Given.f_eq]
    (with_reducible repeat (first | refine go_pos (by first | assumption | omega | rfl | exact B_pos (by omega)) ?_ | refine go_neg (by first | assumption | omega | decide | exact B_not (by omega)) ?_ | refine go_bind (by first | assumption) ?_ | dsimp only))
    rw [spec_l04Given.l0_eq, l2, r1, r0, w2]
    (with_reducible repeat (first | refine go_pos (by first | assumption | omega | rfl | exact B_pos (by omega)) ?_ | refine go_neg (by first | assumption | omega | decide | exact B_not (by omega)) ?_ | refine go_bind (by first | assumption) ?_ | dsimp only))
    rw [spec_l04Given.l0_eq, l2, r0]
    (with_reducible repeat (first | refine go_pos (by first | assumption | omega | rfl | exact B_pos (by omega)) ?_ | refine go_neg (by first | assumption | omega | decide | exact B_not (by omega)) ?_ | refine go_bind (by first | assumption) ?_ | dsimp only))
  rw [sI, sS]
  have h1 := isRanked_ hg (k := k) (by omega)
  have h2 := Code04 hg hm hu hk
  have h4 := isCocycle hg hm hc
  have h5 := Cocycle_ hg hm hc
  have h4' := isCocycle hg hm hc'
  have h5' := Cocycle_ hg hm hc'
  by_cases h3 : nB g k ≤ 49
  rotate_left
  · rw [B_neg h3] at h1
    rw [ite_neg h3] at h2
    exact .inr ⟨3, by omega, by ((with_reducible repeat (first | refine go_pos (by first | assumption | omega | rfl | exact B_pos (by omega)) ?_ | refine go_neg (by first | assumption | omega | decide | exact B_not (by omega)) ?_ | refine go_bind (by first | assumption) ?_ | dsimp only)); first | done | (with_reducible rfl) | simp (disch := omega) only [w64] | (show False; done)), by ((with_reducible repeat (first | refine go_pos (by first | assumption | omega | rfl | exact B_pos (by omega)) ?_ | refine go_neg (by first | assumption | omega | decide | exact B_not (by omega)) ?_ | refine go_bind (by first | assumption) ?_ | dsimp only)); first | done | (with_reducible rfl) | simp (disch := omega) only [w64] | (show False; done))⟩
  rw [B_pos h3] at h1
  rw [ite_pos h3] at h2
  by_cases h6 : Cocy g m u v k
  rotate_left
  · rw [B_neg h6] at h4 h5
    have a : impl_cocycleCode.l1 [((k : Int), v), ((k : Int), v')] ((2 : Nat) : Int) 0 g m u = some 5 := by
      rw [impl_cocycleCode.l1_eq, l2, r0]
      ((with_reducible repeat (first | refine go_pos (by first | assumption | omega | rfl | exact B_pos (by omega)) ?_ | refine go_neg (by first | assumption | omega | decide | exact B_not (by omega)) ?_ | refine go_bind (by first | assumption) ?_ | dsimp only)); first | done | (with_reducible rfl) | simp (disch := omega) only [w64] | (show False; done))
    have b : spec_l04Given.l1 true [((k : Int), v), ((k : Int), v')] 0 g m u = some 5 := by
      rw [spec_l04Given.l1_eq, l2, r0]
      ((with_reducible repeat (first | refine go_pos (by first | assumption | omega | rfl | exact B_pos (by omega)) ?_ | refine go_neg (by first | assumption | omega | decide | exact B_not (by omega)) ?_ | refine go_bind (by first | assumption) ?_ | dsimp only)); first | done | (with_reducible rfl) | simp (disch := omega) only [w64] | (show False; done))
    exact .inr ⟨5, by omega, by (with_reducible repeat (first | refine go_pos (by first | assumption | omega | rfl | exact B_pos (by omega)) ?_ | refine go_neg (by first | assumption | omega | decide | exact B_not (by omega)) ?_ | refine go_bind (by first | assumption) ?_ | dsimp only)); exact a, by (with_reducible repeat (first | refine go_pos (by first | assumption | omega | rfl | exact B_pos (by omega)) ?_ | refine go_neg (by first | assumption | omega | decide | exact B_not (by omega)) ?_ | refine go_bind (by first | assumption) ?_ | dsimp only)); exact b⟩
  rw [B_pos h6] at h4 h5
  by_cases h7 : Cocy g m u v' k
  · rw [B_pos h7] at h4' h5'
    have a : impl_cocycleCode.l1 [((k : Int), v), ((k : Int), v')] ((2 : Nat) : Int) 0 g m u = some 0 := by
      rw [impl_cocycleCode.l1_eq, l2, r0, w1]
      (with_reducible repeat (first | refine go_pos (by first | assumption | omega | rfl | exact B_pos (by omega)) ?_ | refine go_neg (by first | assumption | omega | decide | exact B_not (by omega)) ?_ | refine go_bind (by first | assumption) ?_ | dsimp only))
      rw [impl_cocycleCode.l1_eq, l2, r1, w2]
      (with_reducible repeat (first | refine go_pos (by first | assumption | omega | rfl | exact B_pos (by omega)) ?_ | refine go_neg (by first | assumption | omega | decide | exact B_not (by omega)) ?_ | refine go_bind (by first | assumption) ?_ | dsimp only))
      rw [impl_cocycleCode.l1_eq]
      ((with_reducible repeat (first | refine go_pos (by first | assumption | omega | rfl | exact B_pos (by omega)) ?_ | refine go_neg (by first | assumption | omega | decide | exact B_not (by omega)) ?_ | refine go_bind (by first | assumption) ?_ | dsimp only)); first | done | (with_reducible rfl) | simp (disch := omega) only [w64] | (show False; done))
    have b : spec_l04Given.l1 true [((k : Int), v), ((k : Int), v')] 0 g m u = some 0 := by
      rw [spec_l04Given.l1_eq, l2, r0, w1]
      (with_reducible repeat (first | refine go_pos (by first | assumption | omega | rfl | exact B_pos (by omega)) ?_ | refine go_neg (by first | assumption | omega | decide | exact B_not (by omega)) ?_ | refine go_bind (by first | assumption) ?_ | dsimp only))
      rw [spec_l04Given.l1_eq, l2, r1, w2]
      (with_reducible repeat (first | refine go_pos (by first | assumption | omega | rfl | exact B_pos (by omega)) ?_ | refine go_neg (by first | assumption | omega | decide | exact B_not (by omega)) ?_ | refine go_bind (by first | assumption) ?_ | dsimp only))
      rw [spec_l04Given.l1_eq, l2]
      ((with_reducible repeat (first | refine go_pos (by first | assumption | omega | rfl | exact B_pos (by omega)) ?_ | refine go_neg (by first | assumption | omega | decide | exact B_not (by omega)) ?_ | refine go_bind (by first | assumption) ?_ | dsimp only)); first | done | (with_reducible rfl) | simp (disch := omega) only [w64] | (show False; done))
    exact .inl ⟨k, rfl, rfl, hk, hg, hm, hc, hc', h3, h6, h7, by (with_reducible repeat (first | refine go_pos (by first | assumption | omega | rfl | exact B_pos (by omega)) ?_ | refine go_neg (by first | assumption | omega | decide | exact B_not (by omega)) ?_ | refine go_bind (by first | assumption) ?_ | dsimp only)); exact a, by (with_reducible repeat (first | refine go_pos (by first | assumption | omega | rfl | exact B_pos (by omega)) ?_ | refine go_neg (by first | assumption | omega | decide | exact B_not (by omega)) ?_ | refine go_bind (by first | assumption) ?_ | dsimp only)); exact b⟩
  · rw [B_neg h7] at h4' h5'
    have a : impl_cocycleCode.l1 [((k : Int), v), ((k : Int), v')] ((2 : Nat) : Int) 0 g m u = some 5 := by
      rw [impl_cocycleCode.l1_eq, l2, r0, w1]
      (with_reducible repeat (first | refine go_pos (by first | assumption | omega | rfl | exact B_pos (by omega)) ?_ | refine go_neg (by first | assumption | omega | decide | exact B_not (by omega)) ?_ | refine go_bind (by first | assumption) ?_ | dsimp only))
      rw [impl_cocycleCode.l1_eq, l2, r1, w2]
      ((with_reducible repeat (first | refine go_pos (by first | assumption | omega | rfl | exact B_pos (by omega)) ?_ | refine go_neg (by first | assumption | omega | decide | exact B_not (by omega)) ?_ | refine go_bind (by first | assumption) ?_ | dsimp only)); first | done | (with_reducible rfl) | simp (disch := omega) only [w64] | (show False; done))
    have b : spec_l04Given.l1 true [((k : Int), v), ((k : Int), v')] 0 g m u = some 5 := by
      rw [spec_l04Given.l1_eq, l2, r0, w1]
      (with_reducible repeat (first | refine go_pos (by first | assumption | omega | rfl | exact B_pos (by omega)) ?_ | refine go_neg (by first | assumption | omega | decide | exact B_not (by omega)) ?_ | refine go_bind (by first | assumption) ?_ | dsimp only))
      rw [spec_l04Given.l1_eq, l2, r1, w2]
      ((with_reducible repeat (first | refine go_pos (by first | assumption | omega | rfl | exact B_pos (by omega)) ?_ | refine go_neg (by first | assumption | omega | decide | exact B_not (by omega)) ?_ | refine go_bind (by first | assumption) ?_ | dsimp only)); first | done | (with_reducible rfl) | simp (disch := omega) only [w64] | (show False; done))
    exact .inr ⟨5, by omega, by (with_reducible repeat (first | refine go_pos (by first | assumption | omega | rfl | exact B_pos (by omega)) ?_ | refine go_neg (by first | assumption | omega | decide | exact B_not (by omega)) ?_ | refine go_bind (by first | assumption) ?_ | dsimp only)); exact a, by (with_reducible repeat (first | refine go_pos (by first | assumption | omega | rfl | exact B_pos (by omega)) ?_ | refine go_neg (by first | assumption | omega | decide | exact B_not (by omega)) ?_ | refine go_bind (by first | assumption) ?_ | dsimp only)); exact b⟩
theorem Co.nB {g : List (List Int)} (hg : Grp g) {m : Int} {k : Nat} {v : List Int} (h : Co g m k v) : v.length = nB g k := by
  have := h.2.1
  have hk := h.1.2
  obtain ⟨b1, b2⟩ := nA_bd hg (e := k) (by omega)
  omega
theorem isBounding_ {g : List (List Int)} (hg : Grp g) {m : Int} {u : List Int} (hm : Mdl g m u) {k : Nat} {v : List Int} (hc : Co g m k v) : impl_isBounding.f g m u (k : Int) v = some (B (Sp m (nB g k) (bdG g m u k) (V v))) := by
  have m2 := hm.m2; have m12 := hm.m12
  have hk := hc.1.2
  obtain ⟨b1, b2⟩ := nA_bd hg (e := k) (by omega)
  obtain ⟨p, h1, h2⟩ := boundings_ hg hm (n := k) (by omega)
  have h3 := h2.lead (by omega)
  obtain ⟨y, h4, h5⟩ := least_ m2 m12 (by omega) h3 (k : Int) (hc.nB hg) hc.2.2
  have yl := h5.len
  have h6 := isZero_ y (by omega)
  rw [B_congr (h5.zero_iff (by omega) h3)] at h6
  rw [impl_isBounding.f_eq]
  (with_reducible repeat (first | refine go_pos (by first | assumption | omega | rfl | exact B_pos (by omega)) ?_ | refine go_neg (by first | assumption | omega | decide | exact B_not (by omega)) ?_ | refine go_bind (by first | assumption) ?_ | dsimp only))
  simp
def addL (m : Int) (v w : List Int) (c : Int) : List Int := (List.range v.length).map fun i : Nat => (rd v (i : Int) + c * rd w (i : Int)) % m
theorem addL_length (m : Int) (v w : List Int) (c : Int) : (addL m v w c).length = v.length := by simp [addL]
theorem addL_rd {m : Int} {v w : List Int} {c : Int} {i : Nat} (h : i < v.length) : rd (addL m v w c) (i : Int) = (rd v (i : Int) + c * rd w (i : Int)) % m := by
  rw [rd_get (by rw [addL_length]; exact h)]; simp [addL]
theorem addL_in {m : Int} (m0 : 0 < m) (v w : List Int) (c : Int) : AllIn m (addL m v w c) := allIn_of fun x hx => by
  obtain ⟨i, _, rfl⟩ := List.mem_map.1 hx
  exact ⟨Int.emod_nonneg _ (by omega), Int.emod_lt_of_pos _ m0⟩
theorem add_bd {m a b c : Int} (m12 : m ≤ 12) (a0 : 0 ≤ a) (a1 : a < m) (b0 : 0 ≤ b) (b1 : b < m) (c0 : -1000 ≤ c) (c1 : c ≤ 1000) : wrapI (a + wrapI (c * b)) = a + c * b ∧ -13000 ≤ a + c * b ∧ a + c * b ≤ 13000 := by
  have := mul_bd (x := c) (a := b) (B := 1000) c0 c1 b0 b1 m12 (by omega)
  rw [w64 (x := c * b) (by omega) (by omega), w64 (by omega) (by omega)]
  omega
theorem added_ {m : Int} (m2 : 2 ≤ m) (m12 : m ≤ 12) (d e : Int) {v w : List Int} (hl : w.length = v.length) (hv : AllIn m v) (hw : AllIn m w) (hL : v.length ≤ 1000000) {c : Int} (c0 : -1000 ≤ c) (c1 : c ≤ 1000) :
    impl_added.f m d v e w c = some (d, addL m v w c) ∧ ∀ u, spec_l03Add.f m u d v e w c = some (d, addL m v w c) := by
  have l2 : ∀ x : Int, ([x] : List Int).length = 1 := fun _ => rfl
  constructor
  · rw [impl_added.f_eq]
    have loop := up v.length (fun i => impl_added.l0 m c v (v.length : Int) (i : Int) e w 0 d [] ((addL m v w c).take i)) (fun i hi => by
      obtain ⟨a0, a1⟩ := hv i (by omega) (by omega)
      obtain ⟨b0, b1⟩ := hw i (by omega) (by omega)
      obtain ⟨e1, _, _⟩ := add_bd m12 a0 a1 b0 b1 c0 c1
      have e2 := mod_mod (a := rd v (i : Int) + c * rd w (i : Int)) (m := m) (by omega) (by omega)
      have tl : ((addL m v w c).take i).length = i := by rw [List.length_take, addL_length]; omega
      rw [take_rd (by rw [addL_length]; exact hi), addL_rd hi, impl_added.l0_eq, wn (j := i) (by omega), e1, e2]
      (with_reducible repeat (first | refine go_pos (by first | assumption | omega | rfl | exact B_pos (by omega)) ?_ | refine go_neg (by first | assumption | omega | decide | exact B_not (by omega)) ?_ | refine go_bind (by first | assumption) ?_ | dsimp only))
      rw [l2]
      ((with_reducible repeat (first | refine go_pos (by first | assumption | omega | rfl | exact B_pos (by omega)) ?_ | refine go_neg (by first | assumption | omega | decide | exact B_not (by omega)) ?_ | refine go_bind (by first | assumption) ?_ | dsimp only)); first | done | (with_reducible rfl) | simp (disch := omega) only [w64] | (show False; done)))
    simp only [Int.natCast_zero, List.take_zero] at loop
    rw [List.take_of_length_le (by rw [addL_length]; exact Nat.le_refl _)] at loop
    rw [loop, impl_added.l0_eq]
    ((with_reducible repeat (first | refine go_pos (by first | assumption | omega | rfl | exact B_pos (by omega)) ?_ | refine go_neg (by first | assumption | omega | decide | exact B_not (by omega)) ?_ | refine go_bind (by first | assumption) ?_ | dsimp only)); first | done | (with_reducible rfl) | simp (disch := omega) only [w64] | (show False; done))
  · intro u
    rw [spec_l03Add.f_eq, Own_ v (by omega), Option.bind_some]
    have al := addL_length m v w c
    have loop := up v.length (fun i => spec_l03Add.l0 c (i : Int) m u d v e w 0 d ((addL m v w c).take i ++ v.drop i)) (fun i hi => by
      obtain ⟨a0, a1⟩ := hv i (by omega) (by omega)
      obtain ⟨b0, b1⟩ := hw i (by omega) (by omega)
      obtain ⟨e1, q0, q1⟩ := add_bd m12 a0 a1 b0 b1 c0 c1
      have hM := Mod_ (a := rd v (i : Int) + c * rd w (i : Int)) (m := m) (by omega) (by omega) (by omega) (by omega)
      have hs := set_take (xs := v) (ys := addL m v w c) (by omega) hi (addL_rd hi).symm
      have hll : ((addL m v w c).take i ++ v.drop i).length = v.length := by rw [List.length_append, List.length_take, List.length_drop]; omega
      rw [← hs, spec_l03Add.l0_eq, wn (j := i) (by omega), e1, Int.toNat_natCast]
      ((with_reducible repeat (first | refine go_pos (by first | assumption | omega | rfl | exact B_pos (by omega)) ?_ | refine go_neg (by first | assumption | omega | decide | exact B_not (by omega)) ?_ | refine go_bind (by first | assumption) ?_ | dsimp only)); first | done | (with_reducible rfl) | simp (disch := omega) only [w64] | (show False; done)))
    simp only [Int.natCast_zero, List.take_zero, List.nil_append, List.drop_zero] at loop
    rw [List.take_of_length_le (by omega), List.drop_of_length_le (Nat.le_refl _), List.append_nil] at loop
    rw [loop, spec_l03Add.l0_eq]
    ((with_reducible repeat (first | refine go_pos (by first | assumption | omega | rfl | exact B_pos (by omega)) ?_ | refine go_neg (by first | assumption | omega | decide | exact B_not (by omega)) ?_ | refine go_bind (by first | assumption) ?_ | dsimp only)); first | done | (with_reducible rfl) | simp (disch := omega) only [w64] | (show False; done))
end Go.Proofs.Ytpppnoliogdkiaa.V
set_option linter.unusedVariables false
set_option linter.unusedSimpArgs false
set_option maxHeartbeats 2000000
set_option maxRecDepth 20000
namespace Go.Proofs.Ytpppnoliogdkiaa.V
open Go.RowKit Go.Proofs.Ytpppnoliogdkiaa.D Go.Proofs.Ytpppnoliogdkiaa.P
theorem same_AreCohomologous (g : List (List Int)) (m : Int) (u : List Int) (d : Int) (v : List Int) (d' : Int) (v' : List Int) (hl : g.length ≤ maxLen) (hr : ∀ r ∈ g, r.length ≤ maxLen) (hu : u.length ≤ maxLen) (hv : v.length ≤ maxLen) (hv' : v'.length ≤ maxLen) :
    ∃ (b : Bool) (c : Int), spec_AreCohomologous.f g m u d v d' v' = some (b, c) ∧ impl_AreCohomologous.f g m u d v d' v' = some (b, c) := by
  rw [spec_AreCohomologous.f_eq, impl_AreCohomologous.f_eq]
  rcases given2 hl hr m u hu d v hv d' v' hv' with ⟨k, rfl, rfl, k3, hg, hm, hc, hc', hb, _, _, cI, cS⟩ | ⟨c, c0, cI, cS⟩
  rotate_left
  · exact ⟨false, c, by ((with_reducible repeat (first | refine go_pos (by first | assumption | omega | rfl | exact B_pos (by omega)) ?_ | refine go_neg (by first | assumption | omega | decide | exact B_not (by omega)) ?_ | refine go_bind (by first | assumption) ?_ | dsimp only)); first | done | (with_reducible rfl) | simp (disch := omega) only [w64] | (show False; done)), by ((with_reducible repeat (first | refine go_pos (by first | assumption | omega | rfl | exact B_pos (by omega)) ?_ | refine go_neg (by first | assumption | omega | decide | exact B_not (by omega)) ?_ | refine go_bind (by first | assumption) ?_ | dsimp only)); first | done | (with_reducible rfl) | simp (disch := omega) only [w64] | (show False; done))⟩
  have m2 := hm.m2; have m12 := hm.m12
  have vl := hc.nB hg
  have vl' := hc'.nB hg
  obtain ⟨b1, b2⟩ := nA_bd hg (e := k) (by omega)
  obtain ⟨a1, a2⟩ := added_ m2 m12 (k : Int) (k : Int) (v := v) (w := v') (by omega) hc.2.2 hc'.2.2 (by omega) (c := -1) (by omega) (by omega)
  have a2 := a2 u
  have hco : Co g m k (addL m v v' (-1)) := ⟨hc.1, by rw [addL_length]; exact hc.2.1, addL_in (by omega) _ _ _⟩
  obtain ⟨p', q, h3, h4, _⟩ := Both_ hg hm k3
  obtain ⟨y', h8, h9⟩ := Less_ m2 m12 (by omega) h4 (hco.nB hg) hco.2.2
  have yl := h9.len
  have h10 := Zero_ y' (by omega)
  rw [B_congr (h9.zero_iff (by omega) h4)] at h10
  have h11 := isBounding_ hg hm hco
  exact ⟨decide (B (Sp m (nB g k) (bdG g m u k) (V (addL m v v' (-1)))) = true), 0, by ((with_reducible repeat (first | refine go_pos (by first | assumption | omega | rfl | exact B_pos (by omega)) ?_ | refine go_neg (by first | assumption | omega | decide | exact B_not (by omega)) ?_ | refine go_bind (by first | assumption) ?_ | dsimp only)); first | done | (with_reducible rfl) | simp (disch := omega) only [w64] | (show False; done)), by ((with_reducible repeat (first | refine go_pos (by first | assumption | omega | rfl | exact B_pos (by omega)) ?_ | refine go_neg (by first | assumption | omega | decide | exact B_not (by omega)) ?_ | refine go_bind (by first | assumption) ?_ | dsimp only)); first | done | (with_reducible rfl) | simp (disch := omega) only [w64] | (show False; done))⟩
end Go.Proofs.Ytpppnoliogdkiaa.V
set_option linter.unusedVariables false
set_option linter.unusedSimpArgs false
set_option maxHeartbeats 4000000
set_option maxRecDepth 20000
namespace Go.Proofs.Ytpppnoliogdkiaa.Pure
open Go.RowKit Go.Proofs.Ytpppnoliogdkiaa.D Go.Proofs.Ytpppnoliogdkiaa.P Go.Proofs.Ytpppnoliogdkiaa.V
theorem FnExactAreCohomologous_pure : ∀ (g0 : List (List Int)) (m1 : Int) (u1 : List Int) (m2 : Int) (u2 : List Int) (m3 : Int) (u3 : List Int), g0.length ≤ maxLen → (∀ r ∈ g0, r.length ≤ maxLen ∧ ∀ x ∈ r, (Lit.int .i64 x).wf = true) → (Lit.int .i64 m1).wf = true → u1.length ≤ maxLen → (∀ x ∈ u1, (Lit.int .i64 x).wf = true) → (Lit.int .i64 m2).wf = true → u2.length ≤ maxLen → (∀ x ∈ u2, (Lit.int .i64 x).wf = true) → (Lit.int .i64 m3).wf = true → u3.length ≤ maxLen → (∀ x ∈ u3, (Lit.int .i64 x).wf = true) → laws_FnExactAreCohomologous.f g0 m1 u1 m2 u2 m3 u3 = some true := by
  intro g0 m1 u1 m2 u2 m3 u3 hl0 hq0 hw1 hu1 hx1 hw2 hu2 hx2 hw3 hu3 hx3
  have hr0 : ∀ r ∈ g0, r.length ≤ maxLen := fun r h => (hq0 r h).1
  rw [laws_FnExactAreCohomologous.f_eq]
  obtain ⟨t0, e0, z0⟩ := szGroup g0 1048576 hl0 hr0 (by omega) (by omega)
  rcases z0 with z0 | ⟨ta0, tb0, kl0, kr0⟩
  · ((with_reducible repeat (first | refine go_pos (by first | assumption | omega | rfl | exact B_pos (by omega)) ?_ | refine go_neg (by first | assumption | omega | decide | exact B_not (by omega)) ?_ | refine go_bind (by first | assumption) ?_ | dsimp only)); first | done | (with_reducible rfl) | simp (disch := omega) only [w64] | (show False; done))
  obtain ⟨t1, e1, z1⟩ := szModule m1 u1 t0 hu1 (by omega) (by omega)
  rcases z1 with z1 | ⟨ta1, tb1, ku1⟩
  · ((with_reducible repeat (first | refine go_pos (by first | assumption | omega | rfl | exact B_pos (by omega)) ?_ | refine go_neg (by first | assumption | omega | decide | exact B_not (by omega)) ?_ | refine go_bind (by first | assumption) ?_ | dsimp only)); first | done | (with_reducible rfl) | simp (disch := omega) only [w64] | (show False; done))
  obtain ⟨t2, e2, z2⟩ := szCochain m2 u2 t1 hu2 (by omega) (by omega)
  rcases z2 with z2 | ⟨ta2, tb2, ku2⟩
  · ((with_reducible repeat (first | refine go_pos (by first | assumption | omega | rfl | exact B_pos (by omega)) ?_ | refine go_neg (by first | assumption | omega | decide | exact B_not (by omega)) ?_ | refine go_bind (by first | assumption) ?_ | dsimp only)); first | done | (with_reducible rfl) | simp (disch := omega) only [w64] | (show False; done))
  obtain ⟨t3, e3, z3⟩ := szCochain m3 u3 t2 hu3 (by omega) (by omega)
  rcases z3 with z3 | ⟨ta3, tb3, ku3⟩
  · ((with_reducible repeat (first | refine go_pos (by first | assumption | omega | rfl | exact B_pos (by omega)) ?_ | refine go_neg (by first | assumption | omega | decide | exact B_not (by omega)) ?_ | refine go_bind (by first | assumption) ?_ | dsimp only)); first | done | (with_reducible rfl) | simp (disch := omega) only [w64] | (show False; done))
  obtain ⟨c0, c1, hS, hI⟩ := same_AreCohomologous g0 m1 u1 m2 u2 m3 u3 hl0 hr0 hu1 hu2 hu3
  have eT0 := toGroup g0 kl0 kr0
  have eS0 := same_Group g0 hl0 hr0
  have eN0 := tot_small kl0 kr0
  have eK0 := markGroup g0 (1) (by omega) (by omega) (by omega)
  have eT1 := toModule m1 u1 ku1
  have eS1 := same_Module m1 u1 hu1
  have eK1 := markModule m1 u1 (1 + tot g0) (by omega) (by omega)
  have eT2 := toCochain m2 u2 ku2
  have eS2 := same_Cochain m2 u2 hu2
  have eK2 := markCochain m2 u2 (1 + tot g0 + u1.length) (by omega) (by omega)
  have eT3 := toCochain m3 u3 ku3
  have eS3 := same_Cochain m3 u3 hu3
  have eK3 := markCochain m3 u3 (1 + tot g0 + u1.length + u2.length) (by omega) (by omega)
  ((with_reducible repeat (first | refine go_pos (by first | assumption | omega | rfl | exact B_pos (by omega)) ?_ | refine go_neg (by first | assumption | omega | decide | exact B_not (by omega)) ?_ | refine go_bind (by first | assumption) ?_ | dsimp only)); first | done | (with_reducible rfl) | simp (disch := omega) only [w64] | (show False; done))
end Go.Proofs.Ytpppnoliogdkiaa.Pure
namespace Go.Proofs.Ytpppnoliogdkiaa.shut
theorem mayEnter : Try.pinned.checked.prog.mayEnter = true := by kernel_rfl
theorem lifted : (Rows.fnExactBoundingStepsRow.lifted == Try.pinned.checked.prog.liftsFinal) = true := by kernel_rfl
theorem make : (Try.pinned.checked.prog.make == some Rows.fnExactBoundingStepsRow.make) = true := by kernel_rfl
end Go.Proofs.Ytpppnoliogdkiaa.shut
