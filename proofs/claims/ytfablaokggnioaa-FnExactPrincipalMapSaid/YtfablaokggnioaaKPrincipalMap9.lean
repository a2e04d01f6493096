/- What the proof of the law PrincipalMap stands on, part 9: words, each Go function's Lean function, and that the Go code comes to its answers; no condition. (Packed by wip/myprint/pack.py out of what the kit's printer wrote, its words among it, partly by our patches of it, and out of texts of this session.) -/
import Derived.ChangeSlices
import Derived.ChangeSame
import Derived.Deep.Matrix
import Derived.Lib.SmallJoins
import Derived.SizedLaws
import Derived.Test.YtfablaokggnioaaKPrincipalMap0
import Derived.Test.YtfablaokggnioaaKPrincipalMap1
import Derived.Test.YtfablaokggnioaaKPrincipalMap2
import Derived.Test.YtfablaokggnioaaKPrincipalMap3
import Derived.Test.YtfablaokggnioaaKPrincipalMap4
import Derived.Test.YtfablaokggnioaaKPrincipalMap5
import Derived.Test.YtfablaokggnioaaKPrincipalMap6
import Derived.Test.YtfablaokggnioaaKPrincipalMap7
import Derived.Test.YtfablaokggnioaaKPrincipalMap8
set_option linter.unusedVariables false
namespace Go.Proofs.Ytfablaokggnioaa.U
open Go.RowKit Go.Proofs.YtfablaokggnioaaW.PrintWords Go.Proofs.YtfablaokggnioaaW.PrintLast Go.Proofs.YtfablaokggnioaaW.PrintMore
theorem w64 {x : Int} (h0 : -9223372036854775808 ≤ x) (h1 : x ≤ 9223372036854775807) : wrap64 x = x := by unfold wrap64; omega
theorem w64s {i n : Int} (h0 : 0 ≤ i) (h : i < n) (hn : n ≤ 9223372036854775807) : wrap64 (i + 1) = i + 1 := w64 (by omega) (by omega)
theorem le_maxLen {n : Nat} (h : n ≤ 9223372036854775807) : n ≤ maxLen := by unfold maxLen; omega
theorem ev_now {α : Type} {g : Nat → Option α} {r : α} (h : ∀ k, g k = some r) : Ev g r := ⟨0, fun k _ => h k⟩
theorem ev_step_now {α : Type} {g : Nat → Option α} {r : α} (h : ∀ k, g (k + 1) = some r) : Ev g r := Ev.step (f := fun _ => some r) h (ev_now fun _ => rfl)
theorem ev_step_bind {α β : Type} {g : Nat → Option β} {c : Nat → Option α} {f : Nat → α → Option β} {a : α} {r : β} (h : ∀ k, g (k + 1) = (c k).bind (f k)) (hc : Ev c a) (k : Ev (fun n => f n a) r) : Ev g r := Ev.step h (Ev.bind hc k)
theorem ev_bind {α β : Type} {g : Nat → Option β} {c : Nat → Option α} {f : Nat → α → Option β} {a : α} {r : β} (h : ∀ k, g k = (c k).bind (f k)) (hc : Ev c a) (k : Ev (fun n => f n a) r) : Ev g r := Ev.congr h (Ev.bind hc k)
theorem scan {R : Type} (n : Nat) (L : Int → Nat → Option R) (P : Int → Prop) (bad : R)
    (hs : ∀ i : Int, 0 ≤ i → i < n → (∀ j : Int, 0 ≤ j → j < i → P j) → (P i ∧ ∀ r, Ev (L (i + 1)) r → Ev (L i) r) ∨ (¬ P i ∧ Ev (L i) bad)) :
    ((∀ j : Int, 0 ≤ j → j < n → P j) ∧ ∀ r, Ev (L n) r → Ev (L 0) r) ∨ ((∃ j : Int, 0 ≤ j ∧ j < n ∧ ¬ P j) ∧ Ev (L 0) bad) := by
  suffices H : ∀ d m : Nat, m + d = n → (∀ j : Int, 0 ≤ j → j < m → P j) →
      ((∀ j : Int, 0 ≤ j → j < n → P j) ∧ ∀ r, Ev (L n) r → Ev (L m) r) ∨ ((∃ j : Int, 0 ≤ j ∧ j < n ∧ ¬ P j) ∧ Ev (L m) bad) by
    simpa using H n 0 (by omega) (fun j h0 h1 => by omega)
  intro d
  induction d with
  | zero =>
    intro m hm hp
    have : (m : Int) = n := by omega
    rw [this] at hp ⊢
    exact .inl ⟨hp, fun r h => h⟩
  | succ d ih =>
    intro m hm hp
    rcases hs m (by omega) (by omega) hp with ⟨h1, h2⟩ | ⟨h1, h2⟩
    · have hp' : ∀ j : Int, 0 ≤ j → j < ((m + 1 : Nat) : Int) → P j := fun j h0 hj => by
        by_cases e : j = m
        · rw [e]; exact h1
        · exact hp j h0 (by omega)
      rcases ih (m + 1) (by omega) hp' with ⟨h3, h4⟩ | ⟨h3, h4⟩
      · exact .inl ⟨h3, fun r h => h2 r (by have := h4 r h; rwa [Int.natCast_add, Int.natCast_one] at this)⟩
      · exact .inr ⟨h3, h2 _ (by rwa [Int.natCast_add, Int.natCast_one] at h4)⟩
    · exact .inr ⟨⟨m, by omega, by omega, h1⟩, h2⟩
theorem fold {R σ : Type} (n : Nat) (L : Int → σ → Nat → Option R) (F : Nat → σ)
    (hs : ∀ i : Nat, i < n → ∀ r, Ev (L ((i + 1 : Nat) : Int) (F (i + 1))) r → Ev (L (i : Int) (F i)) r) : ∀ r, Ev (L n (F n)) r → Ev (L 0 (F 0)) r := by
  suffices H : ∀ d m : Nat, m + d = n → ∀ r, Ev (L n (F n)) r → Ev (L m (F m)) r by
    intro r h
    exact H n 0 (by omega) r h
  intro d
  induction d with
  | zero =>
    intro m hm r h
    have : m = n := by omega
    rwa [this]
  | succ d ih => exact fun m hm r h => hs m (by omega) r (ih (m + 1) (by omega) r h)
noncomputable def B (p : Prop) : Bool := @decide p (Classical.propDecidable p)
theorem B_pos {p : Prop} (h : p) : B p = true := by unfold B; simp [h]
theorem B_neg {p : Prop} (h : ¬ p) : B p = false := by unfold B; simp [h]
theorem B_congr {p q : Prop} (h : p ↔ q) : B p = B q := by rw [show p = q from propext h]
theorem B_decide (p : Prop) [Decidable p] : decide p = B p := by by_cases h : p <;> simp [h, B]
theorem B_true : B True = true := B_pos trivial
theorem scanB (n : Nat) (L : Int → Nat → Option Bool) (P : Int → Prop) (Q : Prop)
    (hs : ∀ i : Int, 0 ≤ i → i < n → (∀ j : Int, 0 ≤ j → j < i → P j) → (P i ∧ ∀ r, Ev (L (i + 1)) r → Ev (L i) r) ∨ (¬ P i ∧ Ev (L i) false))
    (he : (∀ j : Int, 0 ≤ j → j < n → P j) → Ev (L n) (B Q)) : Ev (L 0) (B ((∀ j : Int, 0 ≤ j → j < n → P j) ∧ Q)) := by
  rcases scan n L P false hs with ⟨h1, h2⟩ | ⟨⟨j, h0, h1, h2⟩, h3⟩
  · rw [B_congr (show ((∀ j : Int, 0 ≤ j → j < n → P j) ∧ Q) ↔ Q from ⟨fun h => h.2, fun h => ⟨h1, h⟩⟩)]
    exact h2 _ (he h1)
  · rw [B_neg fun h => h2 (h.1 j h0 h1)]
    exact h3
theorem scanT (n : Nat) (L : Int → Nat → Option Bool) (P : Int → Prop)
    (hs : ∀ i : Int, 0 ≤ i → i < n → (∀ j : Int, 0 ≤ j → j < i → P j) → (P i ∧ ∀ r, Ev (L (i + 1)) r → Ev (L i) r) ∨ (¬ P i ∧ Ev (L i) false))
    (he : (∀ j : Int, 0 ≤ j → j < n → P j) → Ev (L n) true) : Ev (L 0) (B (∀ j : Int, 0 ≤ j → j < n → P j)) := by
  have := scanB n L P True hs (fun h => by rw [B_true]; exact he h)
  rwa [B_congr (show ((∀ j : Int, 0 ≤ j → j < n → P j) ∧ True) ↔ _ from ⟨fun h => h.1, fun h => ⟨h, trivial⟩⟩)] at this
theorem ext_rd {xs ys : List Int} (hl : xs.length = ys.length) (h : ∀ i : Int, 0 ≤ i → i < xs.length → rd xs i = rd ys i) : xs = ys := by
  apply List.ext_getElem hl
  intro i h1 h2
  have := h i (by omega) (by omega)
  simpa [rd, List.getD_eq_getElem?_getD, List.getElem?_eq_getElem h1, List.getElem?_eq_getElem h2] using this
end Go.Proofs.Ytfablaokggnioaa.U
set_option linter.unusedVariables false
set_option linter.unusedSimpArgs false
namespace Go.Proofs.Ytfablaokggnioaa.U
open Go.RowKit Go.Proofs.YtfablaokggnioaaW.PrintWords Go.Proofs.YtfablaokggnioaaW.PrintLast Go.Proofs.YtfablaokggnioaaW.PrintMore Go.Proofs.Ytfablaokggnioaa.Pa
theorem maxLen_le : maxLen ≤ 9223372036854775807 := by unfold maxLen; omega
def AllIn (n : Int) (xs : List Int) : Prop := ∀ i : Int, 0 ≤ i → i < xs.length → 0 ≤ rd xs i ∧ rd xs i < n
theorem ev_areIn (n : Int) (xs : List Int) (hl : xs.length ≤ maxLen) : Ev (fun k => impl_areIn.f k n xs) (B (AllIn n xs)) := by
  have hm := maxLen_le
  unfold impl_areIn.f
  refine scanT xs.length (fun i k => impl_areIn.l0 k n xs (xs.length : Int) i) (fun i => 0 ≤ rd xs i ∧ rd xs i < n) (fun i h0 h1 _ => ?_) (fun _ => ?_)
  · have hw : wrap64 (i + 1) = i + 1 := w64s h0 h1 (by omega)
    by_cases h2 : rd xs i < 0
    · exact .inr ⟨by omega, ev_step_now fun k => by simp only [impl_areIn.l0, h0, h1, h2, ↓reduceIte]⟩
    · by_cases h3 : rd xs i ≥ n
      · exact .inr ⟨by omega, ev_step_now fun k => by simp only [impl_areIn.l0, h0, h1, h2, h3, ↓reduceIte]⟩
      · exact .inl ⟨by omega, fun r h => Ev.step (fun k => by simp only [impl_areIn.l0, h0, h1, h2, h3, hw, ↓reduceIte]) h⟩
  · exact ev_step_now fun k => by simp only [impl_areIn.l0, Int.lt_irrefl, ↓reduceIte]
theorem ev_index (xs : List Int) (x : Int) (hl : xs.length ≤ maxLen) :
    ((∀ i : Int, 0 ≤ i → i < xs.length → rd xs i ≠ x) ∧ Ev (fun k => slices_Index_int64_int64.f k xs x) (-1)) ∨
    ∃ i : Int, 0 ≤ i ∧ i < xs.length ∧ rd xs i = x ∧ (∀ j : Int, 0 ≤ j → j < i → rd xs j ≠ x) ∧ Ev (fun k => slices_Index_int64_int64.f k xs x) i := by
  have hm := maxLen_le
  unfold slices_Index_int64_int64.f
  suffices H : ∀ d m : Nat, m + d = xs.length → (∀ j : Int, 0 ≤ j → j < m → rd xs j ≠ x) →
      ((∀ i : Int, 0 ≤ i → i < xs.length → rd xs i ≠ x) ∧ Ev (fun k => slices_Index_int64_int64.l0 k xs x (xs.length : Int) m) (-1)) ∨
      ∃ i : Int, 0 ≤ i ∧ i < xs.length ∧ rd xs i = x ∧ (∀ j : Int, 0 ≤ j → j < i → rd xs j ≠ x) ∧ Ev (fun k => slices_Index_int64_int64.l0 k xs x (xs.length : Int) m) i from
    H xs.length 0 (by omega) (fun j h0 h1 => by omega)
  intro d
  induction d with
  | zero =>
    intro m hd hp
    obtain rfl : m = xs.length := by omega
    exact .inl ⟨hp, ev_step_now fun k => by simp only [slices_Index_int64_int64.l0, Int.lt_irrefl, ↓reduceIte]⟩
  | succ d ih =>
    intro m hd hp
    have h1 : (m : Int) < xs.length := by omega
    have h0 : (0 : Int) ≤ m := by omega
    have hw : wrap64 ((m : Int) + 1) = ((m + 1 : Nat) : Int) := by rw [w64s h0 h1 (by omega)]; omega
    by_cases h2 : x = rd xs m
    · exact .inr ⟨m, h0, h1, h2.symm, hp, ev_step_now fun k => by simp only [slices_Index_int64_int64.l0, h1, h0, ← h2, ↓reduceIte]⟩
    · have st : ∀ r, Ev (fun k => slices_Index_int64_int64.l0 k xs x (xs.length : Int) ((m + 1 : Nat) : Int)) r → Ev (fun k => slices_Index_int64_int64.l0 k xs x (xs.length : Int) m) r := fun r h =>
        Ev.step (fun k => by simp only [slices_Index_int64_int64.l0, h1, h0, h2, hw, ↓reduceIte]) h
      have hp' : ∀ j : Int, 0 ≤ j → j < ((m + 1 : Nat) : Int) → rd xs j ≠ x := fun j k0 k1 => by
        by_cases e : j = m
        · rw [e]; exact fun h => h2 h.symm
        · exact hp j k0 (by omega)
      rcases ih (m + 1) (by omega) hp' with ⟨a, b⟩ | ⟨i, a1, a2, a3, a4, b⟩
      · exact .inl ⟨a, st _ b⟩
      · exact .inr ⟨i, a1, a2, a3, a4, st _ b⟩
theorem ev_contains (xs : List Int) (x : Int) (hl : xs.length ≤ maxLen) : Ev (fun k => slices_Contains_int64_int64.f k xs x) (B (∃ i : Int, 0 ≤ i ∧ i < xs.length ∧ rd xs i = x)) := by
  unfold slices_Contains_int64_int64.f
  rcases ev_index xs x hl with ⟨h, e⟩ | ⟨i, h0, h1, h2, _, e⟩
  · rw [B_neg fun ⟨i, h0, h1, h2⟩ => h i h0 h1 h2]
    exact Ev.bind e (ev_now fun k => by simp)
  · rw [B_pos ⟨i, h0, h1, h2⟩]
    exact Ev.bind e (ev_now fun k => by simp [h0])
def T (g : List (List Int)) (a b : Int) : Int := rd (rd_Li64 g a) b
structure Grp (g : List (List Int)) : Prop where
  n1 : 1 ≤ g.length
  n8 : g.length ≤ 8
  row : ∀ a : Int, 0 ≤ a → a < g.length → (rd_Li64 g a).length = g.length
  ent : ∀ a b : Int, 0 ≤ a → a < g.length → 0 ≤ b → b < g.length → 0 ≤ T g a b ∧ T g a b < g.length
  one : ∀ a : Int, 0 ≤ a → a < g.length → T g 0 a = a
  one' : ∀ a : Int, 0 ≤ a → a < g.length → T g a 0 = a
  assoc : ∀ a b c : Int, 0 ≤ a → a < g.length → 0 ≤ b → b < g.length → 0 ≤ c → c < g.length → T g (T g a b) c = T g a (T g b c)
  inv : ∀ a : Int, 0 ≤ a → a < g.length → ∃ b : Int, 0 ≤ b ∧ b < g.length ∧ T g a b = 0
theorem Grp.inv2 {g : List (List Int)} (h : Grp g) {a : Int} (h0 : 0 ≤ a) (h1 : a < g.length) : ∃ b : Int, 0 ≤ b ∧ b < g.length ∧ T g a b = 0 ∧ T g b a = 0 := by
  obtain ⟨b, b0, b1, hb⟩ := h.inv a h0 h1
  obtain ⟨c, c0, c1, hc⟩ := h.inv b b0 b1
  refine ⟨b, b0, b1, hb, ?_⟩
  have hac : c = a := by
    have e1 := h.assoc a b c h0 h1 b0 b1 c0 c1
    rw [hb, hc, h.one c c0 c1, h.one' a h0 h1] at e1
    exact e1
  rw [← hac]; exact hc
theorem rows_len {g : List (List Int)} (hr : ∀ r ∈ g, r.length ≤ maxLen) {a : Int} (h0 : 0 ≤ a) (h1 : a < g.length) : (rd_Li64 g a).length ≤ maxLen := by
  have h : a.toNat < g.length := by omega
  have : rd_Li64 g a ∈ g := by
    unfold rd_Li64
    rw [List.getD_eq_getElem?_getD, List.getElem?_eq_getElem h]
    exact List.getElem_mem h
  exact hr _ this
def Tab (g : List (List Int)) : Prop := ∀ a : Int, 0 ≤ a → a < g.length → (rd_Li64 g a).length = g.length ∧ AllIn g.length (rd_Li64 g a)
def Law (g : List (List Int)) (a : Int) : Prop := T g 0 a = a ∧ T g a 0 = a ∧ (∃ b : Int, 0 ≤ b ∧ b < g.length ∧ T g a b = 0) ∧ ∀ b : Int, 0 ≤ b → b < g.length → ∀ c : Int, 0 ≤ c → c < g.length → T g (T g a b) c = T g a (T g b c)
theorem grp_iff (g : List (List Int)) : Grp g ↔ (1 ≤ g.length ∧ g.length ≤ 8) ∧ Tab g ∧ ∀ a : Int, 0 ≤ a → a < g.length → Law g a := by
  constructor
  · intro h
    refine ⟨⟨h.n1, h.n8⟩, fun a h0 h1 => ⟨h.row a h0 h1, fun i i0 i1 => ?_⟩, fun a h0 h1 => ⟨h.one a h0 h1, h.one' a h0 h1, h.inv a h0 h1, fun b b0 b1 c c0 c1 => h.assoc a b c h0 h1 b0 b1 c0 c1⟩⟩
    have := h.row a h0 h1
    exact h.ent a i h0 h1 i0 (by omega)
  · rintro ⟨⟨h1, h8⟩, ht, hl⟩
    refine ⟨h1, h8, fun a a0 a1 => (ht a a0 a1).1, fun a b a0 a1 b0 b1 => ?_, fun a a0 a1 => (hl a a0 a1).1, fun a a0 a1 => (hl a a0 a1).2.1, fun a b c a0 a1 b0 b1 c0 c1 => (hl a a0 a1).2.2.2 b b0 b1 c c0 c1, fun a a0 a1 => (hl a a0 a1).2.2.1⟩
    have := (ht a a0 a1).1
    exact (ht a a0 a1).2 b b0 (by omega)
theorem ev_IsGroup (g : List (List Int)) (hl : g.length ≤ maxLen) (hr : ∀ r ∈ g, r.length ≤ maxLen) : Ev (fun k => impl_IsGroup.f k g) (B (Grp g)) := by
  have hm := maxLen_le
  rw [B_congr (grp_iff g)]
  unfold impl_IsGroup.f impl_order.f
  simp only [Option.bind_some]
  by_cases c1 : (g.length : Int) < 1
  · rw [B_neg fun h => by omega]
    simp only [c1, ↓reduceIte]
    exact ev_step_now fun k => by simp only [impl_IsGroup.j0, ↓reduceIte]
  simp only [c1, ↓reduceIte]
  by_cases c2 : (g.length : Int) > 8
  · rw [B_neg fun h => by omega]
    refine ev_step_now fun k => by simp only [impl_IsGroup.j0, c2, decide_true, ↓reduceIte]
  rw [B_congr (show ((1 ≤ g.length ∧ g.length ≤ 8) ∧ Tab g ∧ ∀ a : Int, 0 ≤ a → a < g.length → Law g a) ↔ (Tab g ∧ ∀ a : Int, 0 ≤ a → a < g.length → Law g a) from ⟨fun h => h.2, fun h => ⟨by omega, h⟩⟩)]
  have hpos : (0 : Int) < g.length := by omega
  refine Ev.step (f := fun k => impl_IsGroup.l0 k (g.length : Int) g (g.length : Int) 0 g) (fun k => by simp [impl_IsGroup.j0, c2]) ?_
  refine scanB g.length (fun i k => impl_IsGroup.l0 k (g.length : Int) g (g.length : Int) i g) (fun a => (rd_Li64 g a).length = g.length ∧ AllIn g.length (rd_Li64 g a)) (∀ a : Int, 0 ≤ a → a < g.length → Law g a) (fun i h0 h1 _ => ?_) (fun ht => ?_)
  · have hw : wrap64 (i + 1) = i + 1 := w64s h0 h1 (by omega)
    by_cases h2 : ((rd_Li64 g i).length : Int) = g.length
    · have ha := ev_areIn g.length (rd_Li64 g i) (rows_len hr h0 h1)
      by_cases h3 : AllIn g.length (rd_Li64 g i)
      · rw [B_pos h3] at ha
        refine .inl ⟨⟨by omega, h3⟩, fun r h => ev_step_bind (fun k => by simp only [impl_IsGroup.l0, h0, h1, h2, ↓reduceIte]; rfl) ha ?_⟩
        simp only [hw, ↓reduceIte]; exact h
      · rw [B_neg h3] at ha
        refine .inr ⟨fun h => h3 h.2, ev_step_bind (fun k => by simp only [impl_IsGroup.l0, h0, h1, h2, ↓reduceIte]; rfl) ha ?_⟩
        exact ev_now fun k => by simp
    · exact .inr ⟨fun h => h2 (by omega), ev_step_now fun k => by simp only [impl_IsGroup.l0, h0, h1, h2, ↓reduceIte]⟩
  · refine Ev.step (f := fun k => impl_IsGroup.l1 k (g.length : Int) (g.length : Int) 0 g) (fun k => by simp only [impl_IsGroup.l0, Int.lt_irrefl, ↓reduceIte]) ?_
    refine scanT g.length (fun i k => impl_IsGroup.l1 k (g.length : Int) (g.length : Int) i g) (Law g) (fun a a0 a1 _ => ?_) (fun _ => ev_step_now fun k => by simp only [impl_IsGroup.l1, Int.lt_irrefl, ↓reduceIte])
    have hlen : ∀ x : Int, 0 ≤ x → x < g.length → ((rd_Li64 g x).length : Int) = g.length := fun x x0 x1 => by rw [(ht x x0 x1).1]
    have hent : ∀ x y : Int, 0 ≤ x → x < g.length → 0 ≤ y → y < g.length → 0 ≤ rd (rd_Li64 g x) y ∧ rd (rd_Li64 g x) y < g.length := fun x y x0 x1 y0 y1 => (ht x x0 x1).2 y y0 (by rw [hlen x x0 x1]; exact y1)
    have l0 := hlen 0 (by omega) hpos
    have la := hlen a a0 a1
    have hwa : wrap64 (a + 1) = a + 1 := w64s a0 a1 (by omega)
    have bad : Ev (fun k => impl_IsGroup.j3 k (g.length : Int) a (g.length : Int) a true g) false := ev_step_now fun k => by simp only [impl_IsGroup.j3, ↓reduceIte]
    by_cases h2 : rd (rd_Li64 g 0) a = a
    · by_cases h3 : rd (rd_Li64 g a) 0 = a
      · have hc := ev_contains (rd_Li64 g a) 0 (rows_len hr a0 a1)
        rw [B_congr (show (∃ i : Int, 0 ≤ i ∧ i < (rd_Li64 g a).length ∧ rd (rd_Li64 g a) i = 0) ↔ ∃ b : Int, 0 ≤ b ∧ b < g.length ∧ T g a b = 0 by rw [la]; rfl)] at hc
        have go : ∀ r b, B (∃ b : Int, 0 ≤ b ∧ b < g.length ∧ T g a b = 0) = b → Ev (fun k => impl_IsGroup.j3 k (g.length : Int) a (g.length : Int) a (!b) g) r → Ev (fun k => impl_IsGroup.l1 k (g.length : Int) (g.length : Int) a g) r := fun r b hb h => by
          rw [hb] at hc
          refine ev_step_bind (fun k => by simp only [impl_IsGroup.l1, a0, a1, hpos, l0, la, h2, h3, ↓reduceIte]; rfl) hc ?_
          exact h
        by_cases h4 : ∃ b : Int, 0 ≤ b ∧ b < g.length ∧ T g a b = 0
        · have inner := scan g.length (fun b k => impl_IsGroup.l2 k (g.length : Int) a (g.length : Int) a (g.length : Int) b g) (fun b => ∀ c : Int, 0 ≤ c → c < g.length → T g (T g a b) c = T g a (T g b c)) false (fun b b0 b1 _ => by
            have hwb : wrap64 (b + 1) = b + 1 := w64s b0 b1 (by omega)
            obtain ⟨e0, e1⟩ := hent a b a0 a1 b0 b1
            have le := hlen _ e0 e1
            have lb := hlen b b0 b1
            have inner3 := scan g.length (fun c k => impl_IsGroup.l3 k (g.length : Int) a b (g.length : Int) a (g.length : Int) b (g.length : Int) c g) (fun c => T g (T g a b) c = T g a (T g b c)) false (fun c c0 c1 _ => by
              have hwc : wrap64 (c + 1) = c + 1 := w64s c0 c1 (by omega)
              obtain ⟨f0, f1⟩ := hent b c b0 b1 c0 c1
              by_cases h5 : rd (rd_Li64 g (rd (rd_Li64 g a) b)) c = rd (rd_Li64 g a) (rd (rd_Li64 g b) c)
              · exact .inl ⟨h5, fun r h => Ev.step (fun k => by simp only [impl_IsGroup.l3, a0, a1, b0, b1, c0, c1, e0, e1, f0, f1, la, lb, le, h5, hwc, ↓reduceIte]) h⟩
              · exact .inr ⟨h5, ev_step_now fun k => by simp only [impl_IsGroup.l3, a0, a1, b0, b1, c0, c1, e0, e1, f0, f1, la, lb, le, h5, ↓reduceIte]⟩)
            rcases inner3 with ⟨h5, h6⟩ | ⟨⟨c, c0, c1, h5⟩, h6⟩
            · exact .inl ⟨h5, fun r h => Ev.step (fun k => by simp only [impl_IsGroup.l2, b1, ↓reduceIte]) (h6 r (Ev.step (fun k => by simp only [impl_IsGroup.l3, Int.lt_irrefl, hwb, ↓reduceIte]) h))⟩
            · exact .inr ⟨fun h => h5 (h c c0 c1), Ev.step (fun k => by simp only [impl_IsGroup.l2, b1, ↓reduceIte]) h6⟩)
          have st : ∀ r, Ev (fun k => impl_IsGroup.l2 k (g.length : Int) a (g.length : Int) a (g.length : Int) 0 g) r → Ev (fun k => impl_IsGroup.l1 k (g.length : Int) (g.length : Int) a g) r := fun r h =>
            go r true (B_pos h4) (Ev.step (fun k => by simp only [impl_IsGroup.j3, Bool.not_true, Bool.false_eq_true, ↓reduceIte]) h)
          rcases inner with ⟨h5, h6⟩ | ⟨⟨b, b0, b1, h5⟩, h6⟩
          · exact .inl ⟨⟨h2, h3, h4, h5⟩, fun r h => st r (h6 r (Ev.step (fun k => by simp only [impl_IsGroup.l2, Int.lt_irrefl, hwa, ↓reduceIte]) h))⟩
          · exact .inr ⟨fun h => h5 (h.2.2.2 b b0 b1), st _ h6⟩
        · exact .inr ⟨fun h => h4 h.2.2.1, go _ false (B_neg h4) bad⟩
      · exact .inr ⟨fun h => h3 h.2.1, Ev.step (fun k => by simp only [impl_IsGroup.l1, a0, a1, hpos, l0, la, h2, h3, ↓reduceIte]) bad⟩
    · exact .inr ⟨fun h => h2 h.1, Ev.step (fun k => by simp only [impl_IsGroup.l1, a0, a1, hpos, l0, h2, ↓reduceIte]) bad⟩
end Go.Proofs.Ytfablaokggnioaa.U
set_option linter.unusedVariables false
set_option linter.unusedSimpArgs false
namespace Go.Proofs.Ytfablaokggnioaa.U
open Go.RowKit Go.Proofs.YtfablaokggnioaaW.PrintWords Go.Proofs.YtfablaokggnioaaW.PrintLast Go.Proofs.YtfablaokggnioaaW.PrintMore Go.Proofs.Ytfablaokggnioaa.Pa
theorem copy_step {α : Type} (xs : List α) (d : α) (m : Nat) (hm : m < xs.length) :
    (xs.take m ++ List.replicate (xs.length - m) d).set m xs[m] = xs.take (m + 1) ++ List.replicate (xs.length - (m + 1)) d := by
  have h1 : (xs.take m).length = m := by rw [List.length_take]; omega
  rw [List.set_append, if_neg (by omega), h1, Nat.sub_self]
  rw [show xs.length - m = (xs.length - (m + 1)) + 1 by omega, List.replicate_succ, List.set_cons_zero]
  rw [List.take_succ_eq_append_getElem hm, List.append_assoc]; rfl
theorem ev_toInt64S (xs : List Int) (hl : xs.length ≤ 1048576) : Ev (fun k => laws_toInt64S.f k xs) xs := by
  unfold laws_toInt64S.f
  simp only [show (0 : Int) ≤ xs.length by omega, ↓reduceIte, Int.toNat_natCast, show xs.length ≤ 35184372088832 by omega]
  have := fold xs.length (fun i s k => laws_toInt64S.l0 k xs s i) (fun m => xs.take m ++ List.replicate (xs.length - m) 0) (fun m hm r h => by
    have hw : wrap64 ((m : Int) + 1) = ((m + 1 : Nat) : Int) := by rw [w64 (by omega) (by omega)]; omega
    have m1 : (m : Int) < xs.length := by omega
    have m0 : (0 : Int) ≤ m := by omega
    have l1 : (m : Int) < ((xs.take m ++ List.replicate (xs.length - m) (0 : Int)).length : Int) := by
      rw [List.length_append, List.length_take, List.length_replicate]; omega
    refine Ev.step (fun k => ?_) h
    simp only [laws_toInt64S.l0, m1, m0, l1, hw, ↓reduceIte, Int.toNat_natCast]
    rw [← copy_step xs 0 m hm, show rd xs (m : Int) = xs[m] by simp [rd, List.getD_eq_getElem?_getD, List.getElem?_eq_getElem hm]]) xs
    (ev_step_now fun k => by simp only [laws_toInt64S.l0, Int.lt_irrefl, ↓reduceIte]; simp)
  simpa using this
theorem ev_toInt64SS (g : List (List Int)) (hl : g.length ≤ 1048576) (hr : ∀ r ∈ g, r.length ≤ 1048576) : Ev (fun k => laws_toInt64SS.f k g) g := by
  unfold laws_toInt64SS.f
  simp only [show (0 : Int) ≤ g.length by omega, ↓reduceIte, Int.toNat_natCast, show g.length ≤ 11728124029610 by omega]
  have := fold g.length (fun i s k => laws_toInt64SS.l0 k g s i) (fun m => g.take m ++ List.replicate (g.length - m) []) (fun m hm r h => by
    have hw : wrap64 ((m : Int) + 1) = ((m + 1 : Nat) : Int) := by rw [w64 (by omega) (by omega)]; omega
    have m1 : (m : Int) < g.length := by omega
    have m0 : (0 : Int) ≤ m := by omega
    have l1 : (m : Int) < ((g.take m ++ List.replicate (g.length - m) ([] : List Int)).length : Int) := by
      rw [List.length_append, List.length_take, List.length_replicate]; omega
    have e : rd_Li64 g (m : Int) = g[m] := by simp [rd_Li64, List.getD_eq_getElem?_getD, List.getElem?_eq_getElem hm]
    refine ev_step_bind (fun k => by simp only [laws_toInt64SS.l0, m1, m0, ↓reduceIte]; rfl) (ev_toInt64S (rd_Li64 g (m : Int)) (by rw [e]; exact hr _ (List.getElem_mem hm))) ?_
    simp only [l1, hw, ↓reduceIte, Int.toNat_natCast, e]
    rw [copy_step g [] m hm]; exact h) g
    (ev_step_now fun k => by simp only [laws_toInt64SS.l0, Int.lt_irrefl, ↓reduceIte]; simp)
  simpa using this
theorem ev_toGroup (g : List (List Int)) (hl : g.length ≤ 1048576) (hr : ∀ r ∈ g, r.length ≤ 1048576) : Ev (fun k => laws_toGroup.f k g) g := by
  unfold laws_toGroup.f
  exact ev_bind (fun k => rfl) (ev_toInt64SS g hl hr) (ev_now fun k => rfl)
theorem ev_toModule (m : Int) (u : List Int) (hl : u.length ≤ 1048576) : Ev (fun k => laws_toModule.f k m u) (m, u) := by
  unfold laws_toModule.f
  exact ev_bind (fun k => rfl) (ev_toInt64S u hl) (ev_now fun k => rfl)
theorem ev_eqInt64S (xs ys : List Int) (hl : xs.length ≤ maxLen) : Ev (fun k => laws_eqInt64S.f k xs ys) (B (xs = ys)) := by
  have hm := maxLen_le
  unfold laws_eqInt64S.f
  by_cases h : (xs.length : Int) = ys.length
  rotate_left
  · rw [B_neg fun e => h (by rw [e])]
    exact ev_now fun k => by simp only [h, ↓reduceIte]
  simp only [h, ↓reduceIte]
  rw [B_congr (show xs = ys ↔ ∀ i : Int, 0 ≤ i → i < xs.length → rd xs i = rd ys i from ⟨fun e i _ _ => by rw [e], fun e => ext_rd (by omega) e⟩)]
  refine scanT xs.length (fun i k => laws_eqInt64S.l0 k xs ys i) (fun i => rd xs i = rd ys i) (fun i i0 i1 _ => ?_) (fun _ => ev_step_now fun k => by simp only [laws_eqInt64S.l0, Int.lt_irrefl, ↓reduceIte])
  have hw : wrap64 (i + 1) = i + 1 := w64s i0 i1 (by omega)
  have i2 : i < (ys.length : Int) := by omega
  by_cases h2 : rd xs i = rd ys i
  · exact .inl ⟨h2, fun r k => Ev.step (fun k => by simp only [laws_eqInt64S.l0, i0, i1, i2, h2, hw, ↓reduceIte]) k⟩
  · exact .inr ⟨h2, ev_step_now fun k => by simp only [laws_eqInt64S.l0, i0, i1, i2, h2, ↓reduceIte]⟩
theorem ext_rows {xs ys : List (List Int)} (hl : xs.length = ys.length) (h : ∀ i : Int, 0 ≤ i → i < xs.length → rd_Li64 xs i = rd_Li64 ys i) : xs = ys := by
  apply List.ext_getElem hl
  intro i h1 h2
  have := h i (by omega) (by omega)
  simpa [rd_Li64, List.getD_eq_getElem?_getD, List.getElem?_eq_getElem h1, List.getElem?_eq_getElem h2] using this
theorem ev_eqInt64SS (xs ys : List (List Int)) (hl : xs.length ≤ maxLen) (hr : ∀ r ∈ xs, r.length ≤ maxLen) : Ev (fun k => laws_eqInt64SS.f k xs ys) (B (xs = ys)) := by
  have hm := maxLen_le
  unfold laws_eqInt64SS.f
  by_cases h : (xs.length : Int) = ys.length
  rotate_left
  · rw [B_neg fun e => h (by rw [e])]
    exact ev_now fun k => by simp only [h, ↓reduceIte]
  simp only [h, ↓reduceIte]
  rw [B_congr (show xs = ys ↔ ∀ i : Int, 0 ≤ i → i < xs.length → rd_Li64 xs i = rd_Li64 ys i from ⟨fun e i _ _ => by rw [e], fun e => ext_rows (by omega) e⟩)]
  refine scanT xs.length (fun i k => laws_eqInt64SS.l0 k xs ys i) (fun i => rd_Li64 xs i = rd_Li64 ys i) (fun i i0 i1 _ => ?_) (fun _ => ev_step_now fun k => by simp only [laws_eqInt64SS.l0, Int.lt_irrefl, ↓reduceIte])
  have hw : wrap64 (i + 1) = i + 1 := w64s i0 i1 (by omega)
  have i2 : i < (ys.length : Int) := by omega
  have he := ev_eqInt64S (rd_Li64 xs i) (rd_Li64 ys i) (rows_len hr i0 i1)
  by_cases h2 : rd_Li64 xs i = rd_Li64 ys i
  · rw [B_pos h2] at he
    refine .inl ⟨h2, fun r k => ev_step_bind (fun k => by simp only [laws_eqInt64SS.l0, i0, i1, i2, ↓reduceIte]; rfl) he ?_⟩
    simp only [hw, ↓reduceIte]; exact k
  · rw [B_neg h2] at he
    refine .inr ⟨h2, ev_step_bind (fun k => by simp only [laws_eqInt64SS.l0, i0, i1, i2, ↓reduceIte]; rfl) he ?_⟩
    exact ev_now fun k => by simp
theorem ite_B (p : Prop) : (if B p = true then some true else some false) = some (B p) := by by_cases h : p <;> simp [B_pos, B_neg, h]
theorem ev_eqGroup (xs ys : List (List Int)) (hl : xs.length ≤ maxLen) (hr : ∀ r ∈ xs, r.length ≤ maxLen) : Ev (fun k => laws_eqGroup.f k xs ys) (B (xs = ys)) := by
  unfold laws_eqGroup.f
  exact ev_bind (fun k => rfl) (ev_eqInt64SS xs ys hl hr) (ev_now fun k => ite_B _)
theorem ev_eqModule (m n : Int) (u v : List Int) (hl : u.length ≤ maxLen) : Ev (fun k => laws_eqModule.f k m u n v) (B (m = n ∧ u = v)) := by
  unfold laws_eqModule.f
  by_cases h : m = n
  · simp only [h, ↓reduceIte, true_and]
    exact ev_bind (fun k => rfl) (ev_eqInt64S u v hl) (ev_now fun k => ite_B _)
  · rw [B_neg fun e => h e.1]
    exact ev_now fun k => by simp only [h, ↓reduceIte]
theorem same_Ints (xs : List Int) (hl : xs.length ≤ maxLen) : Ev (fun k => laws_eqInt64S.f k xs xs) true := by have := ev_eqInt64S xs xs hl; rwa [B_pos rfl] at this
theorem same_Group (xs : List (List Int)) (hl : xs.length ≤ maxLen) (hr : ∀ r ∈ xs, r.length ≤ maxLen) : Ev (fun k => laws_eqGroup.f k xs xs) true := by have := ev_eqGroup xs xs hl hr; rwa [B_pos rfl] at this
theorem same_Module (m : Int) (u : List Int) (hl : u.length ≤ maxLen) : Ev (fun k => laws_eqModule.f k m u m u) true := by have := ev_eqModule m m u u hl; rwa [B_pos ⟨rfl, rfl⟩] at this
theorem ev_szInt64S (xs : List Int) (left : Int) (hl : xs.length ≤ maxLen) (l0 : 0 ≤ left) (l1 : left ≤ 1048576) :
    ∃ t, Ev (fun _ => laws_szInt64S.f xs left) t ∧ (t < 0 ∨ (0 ≤ t ∧ t ≤ left ∧ (xs.length : Int) ≤ left)) := by
  have hm := maxLen_le
  have hw : wrap64 (left - (xs.length : Int)) = left - xs.length := w64 (by omega) (by omega)
  unfold laws_szInt64S.f
  simp only [hw]
  by_cases h : left - (xs.length : Int) < 0
  · exact ⟨-1, ev_now fun k => by simp only [h, ↓reduceIte], by omega⟩
  · exact ⟨left - xs.length, ev_now fun k => by simp only [h, ↓reduceIte], by omega⟩
theorem ev_szInt64SS (g : List (List Int)) (left : Int) (hl : g.length ≤ maxLen) (hr : ∀ r ∈ g, r.length ≤ maxLen) (l0 : 0 ≤ left) (l1 : left ≤ 1048576) :
    ∃ t, Ev (fun k => laws_szInt64SS.f k g left) t ∧ (t < 0 ∨ (0 ≤ t ∧ t ≤ left ∧ (g.length : Int) ≤ left ∧ ∀ i : Int, 0 ≤ i → i < g.length → ((rd_Li64 g i).length : Int) ≤ left)) := by
  have hm := maxLen_le
  have hw : wrap64 (left - (g.length : Int)) = left - g.length := w64 (by omega) (by omega)
  unfold laws_szInt64SS.f
  simp only [hw]
  by_cases h : left - (g.length : Int) < 0
  · exact ⟨-1, ev_now fun k => by simp only [h, ↓reduceIte], by omega⟩
  simp only [h, ↓reduceIte]
  suffices H : ∀ d m : Nat, m + d = g.length → ∀ x : Int, 0 ≤ x → x ≤ left → ∃ t, Ev (fun k => laws_szInt64SS.l0 k g x m) t ∧ (t < 0 ∨ (0 ≤ t ∧ t ≤ left ∧ ∀ i : Int, m ≤ i → i < g.length → ((rd_Li64 g i).length : Int) ≤ left)) by
    obtain ⟨t, ht, h'⟩ := H g.length 0 (by omega) (left - g.length) (by omega) (by omega)
    refine ⟨t, by simpa using ht, ?_⟩
    rcases h' with h' | ⟨a, b, c⟩
    · exact .inl h'
    · exact .inr ⟨a, b, by omega, fun i i0 i1 => c i (by omega) i1⟩
  intro d
  induction d with
  | zero =>
    intro m hd x x0 x1
    obtain rfl : m = g.length := by omega
    exact ⟨x, ev_step_now fun k => by simp only [laws_szInt64SS.l0, Int.lt_irrefl, ↓reduceIte], .inr ⟨x0, x1, fun i i0 i1 => by omega⟩⟩
  | succ d ih =>
    intro m hd x x0 x1
    have m1 : (m : Int) < g.length := by omega
    have m0 : (0 : Int) ≤ m := by omega
    have hwm : wrap64 ((m : Int) + 1) = ((m + 1 : Nat) : Int) := by rw [w64s m0 m1 (by omega)]; omega
    obtain ⟨t, ht, h1⟩ := ev_szInt64S (rd_Li64 g m) x (rows_len hr m0 m1) x0 (by omega)
    rcases h1 with h1 | ⟨a, b, c⟩
    · refine ⟨-1, ev_step_bind (fun k => by simp only [laws_szInt64SS.l0, m1, m0, ↓reduceIte]; rfl) ht (ev_now fun k => by simp only [h1, ↓reduceIte]), by omega⟩
    · obtain ⟨t', ht', h2⟩ := ih (m + 1) (by omega) t a (by omega)
      refine ⟨t', ev_step_bind (fun k => by simp only [laws_szInt64SS.l0, m1, m0, ↓reduceIte]; rfl) ht ?_, ?_⟩
      · simp only [show ¬ t < 0 by omega, hwm, ↓reduceIte]; exact ht'
      · rcases h2 with h2 | ⟨a', b', c'⟩
        · exact .inl h2
        · refine .inr ⟨a', b', fun i i0 i1 => ?_⟩
          by_cases e : i = m
          · rw [e]; omega
          · exact c' i (by omega) i1
theorem mem_rd {g : List (List Int)} {r : List Int} (h : r ∈ g) : ∃ i : Int, 0 ≤ i ∧ i < g.length ∧ rd_Li64 g i = r := by
  obtain ⟨i, hi, rfl⟩ := List.mem_iff_getElem.1 h
  exact ⟨i, by omega, by omega, by simp [rd_Li64, List.getD_eq_getElem?_getD, List.getElem?_eq_getElem hi]⟩
theorem ev_szGroup (g : List (List Int)) (left : Int) (hl : g.length ≤ maxLen) (hr : ∀ r ∈ g, r.length ≤ maxLen) (l0 : 0 ≤ left) (l1 : left ≤ 1048576) :
    ∃ t, Ev (fun k => laws_szGroup.f k g left) t ∧ (t < 0 ∨ (0 ≤ t ∧ t ≤ left ∧ g.length ≤ 1048576 ∧ ∀ r ∈ g, r.length ≤ 1048576)) := by
  unfold laws_szGroup.f
  obtain ⟨t, ht, h⟩ := ev_szInt64SS g left hl hr l0 l1
  rcases h with h | ⟨a, b, c, d⟩
  · exact ⟨-1, ev_bind (fun k => rfl) ht (ev_now fun k => by simp only [h, ↓reduceIte]), by omega⟩
  · refine ⟨t, ev_bind (fun k => rfl) ht (ev_now fun k => by simp only [show ¬ t < 0 by omega, ↓reduceIte]), .inr ⟨a, b, by omega, fun r hr => ?_⟩⟩
    obtain ⟨i, i0, i1, rfl⟩ := mem_rd hr
    have := d i i0 i1
    omega
theorem ev_szModule (m : Int) (u : List Int) (left : Int) (hl : u.length ≤ maxLen) (l0 : 0 ≤ left) (l1 : left ≤ 1048576) :
    ∃ t, Ev (fun _ => laws_szModule.f m u left) t ∧ (t < 0 ∨ (0 ≤ t ∧ t ≤ left ∧ u.length ≤ 1048576)) := by
  unfold laws_szModule.f
  obtain ⟨t, ht, h⟩ := ev_szInt64S u left hl l0 l1
  rcases h with h | ⟨a, b, c⟩
  · exact ⟨-1, ev_bind (fun k => rfl) ht (ev_now fun k => by simp only [h, ↓reduceIte]), by omega⟩
  · exact ⟨t, ev_bind (fun k => rfl) ht (ev_now fun k => by simp only [show ¬ t < 0 by omega, ↓reduceIte]), .inr ⟨a, b, by omega⟩⟩
end Go.Proofs.Ytfablaokggnioaa.U
set_option linter.unusedVariables false
set_option linter.unusedSimpArgs false
namespace Go.Proofs.Ytfablaokggnioaa.U
open Go.RowKit Go.Proofs.YtfablaokggnioaaW.PrintWords Go.Proofs.YtfablaokggnioaaW.PrintLast Go.Proofs.YtfablaokggnioaaW.PrintMore Go.Proofs.Ytfablaokggnioaa.Pa
def MkS (a : Int) (n : Nat) : List Int := (List.range n).map fun (i : Nat) => a + (i : Int)
theorem MkS_length (a : Int) (n : Nat) : (MkS a n).length = n := by simp [MkS]
theorem MkS_rd {a : Int} {n : Nat} {i : Int} (h0 : 0 ≤ i) (h1 : i < n) : rd (MkS a n) i = a + i := by
  have h : i.toNat < n := by omega
  simp [rd, MkS, List.getD_eq_getElem?_getD, h]
  omega
theorem MkS_step (a : Int) (xs : List Int) (m : Nat) (hm : m < xs.length) : (MkS a m ++ xs.drop m).set m (a + m) = MkS a (m + 1) ++ xs.drop (m + 1) := by
  have h1 : (MkS a m).length = m := MkS_length a m
  rw [List.set_append, if_neg (by omega), h1, Nat.sub_self, List.drop_eq_getElem_cons hm, List.set_cons_zero]
  simp [MkS, List.range_succ]
theorem ev_markS (xs : List Int) (a : Int) (h0 : 0 ≤ a) (h1 : a + xs.length ≤ 4611686018427387904) : Ev (fun k => laws_markInt64S.f k xs a) (a + xs.length, MkS a xs.length) := by
  unfold laws_markInt64S.f
  have := fold xs.length (fun i (s : List Int × Int) k => laws_markInt64S.l0 k s.1 s.2 i) (fun m => (MkS a m ++ xs.drop m, a + (m : Int))) (fun m hm r h => by
    have hw : wrap64 ((m : Int) + 1) = ((m + 1 : Nat) : Int) := by rw [w64 (by omega) (by omega)]; omega
    have hw2 : wrap64 (a + (m : Int) + 1) = a + ((m + 1 : Nat) : Int) := by rw [w64 (by omega) (by omega)]; omega
    have m0 : (0 : Int) ≤ m := by omega
    have l1 : (m : Int) < ((MkS a m ++ xs.drop m).length : Int) := by
      rw [List.length_append, MkS_length, List.length_drop]; omega
    refine Ev.step (fun k => ?_) h
    simp only [laws_markInt64S.l0, m0, l1, hw, hw2, ↓reduceIte, Int.toNat_natCast]
    rw [MkS_step a xs m hm]) (a + xs.length, MkS a xs.length)
    (ev_step_now fun k => by
      have e : (MkS a xs.length ++ xs.drop xs.length) = MkS a xs.length := by simp
      simp only [e, laws_markInt64S.l0, MkS_length, Int.lt_irrefl, ↓reduceIte])
  simpa [MkS] using this
theorem ev_heldS (a : Int) (n : Nat) (h0 : 0 ≤ a) (h1 : a + n ≤ 4611686018427387904) : Ev (fun k => laws_heldInt64S.f k (MkS a n) a) (a + n) := by
  unfold laws_heldInt64S.f
  have := fold n (fun i (s : Int) k => laws_heldInt64S.l0 k (MkS a n) s i) (fun m => a + (m : Int)) (fun m hm r h => by
    have hw : wrap64 ((m : Int) + 1) = ((m + 1 : Nat) : Int) := by rw [w64 (by omega) (by omega)]; omega
    have hw2 : wrap64 (a + (m : Int) + 1) = a + ((m + 1 : Nat) : Int) := by rw [w64 (by omega) (by omega)]; omega
    have m0 : (0 : Int) ≤ m := by omega
    have l1 : (m : Int) < ((MkS a n).length : Int) := by rw [MkS_length]; omega
    refine Ev.step (fun k => ?_) h
    simp only [laws_heldInt64S.l0, m0, l1, MkS_rd m0 (show (m : Int) < n by omega), hw, hw2, ↓reduceIte]) (a + n)
    (ev_step_now fun k => by simp only [laws_heldInt64S.l0, MkS_length, Int.lt_irrefl, ↓reduceIte])
  simpa using this
theorem ev_pos {α : Type} {c : Prop} {inst : Decidable c} {x y : Nat → Option α} {r : α} (h : c) (k : Ev x r) : Ev (fun n => if c then x n else y n) r := by simpa only [h, ↓reduceIte] using k
theorem ev_neg {α : Type} {c : Prop} {inst : Decidable c} {x y : Nat → Option α} {r : α} (h : ¬ c) (k : Ev y r) : Ev (fun n => if c then x n else y n) r := by simpa only [h, ↓reduceIte] using k
end Go.Proofs.Ytfablaokggnioaa.U
set_option linter.unusedVariables false
set_option linter.unusedSimpArgs false
namespace Go.Proofs.Ytfablaokggnioaa.U
open Go.RowKit Go.Proofs.YtfablaokggnioaaW.PrintWords Go.Proofs.YtfablaokggnioaaW.PrintLast Go.Proofs.YtfablaokggnioaaW.PrintMore Go.Proofs.Ytfablaokggnioaa.Pa
def tot : List (List Int) → Nat
  | [] => 0
  | r :: g => r.length + tot g
def MkSS (a : Int) : List (List Int) → List (List Int)
  | [] => []
  | r :: g => MkS a r.length :: MkSS (a + r.length) g
theorem tot_le (b : Nat) (g : List (List Int)) (h : ∀ r ∈ g, r.length ≤ b) : tot g ≤ g.length * b := by
  induction g with
  | nil => simp [tot]
  | cons r g ih =>
    have h1 := h r (by simp)
    have h2 := ih fun r hr => h r (by simp [hr])
    simp only [tot, List.length_cons, Nat.succ_mul]
    omega
theorem tot_small {g : List (List Int)} (h1 : g.length ≤ 1048576) (h2 : ∀ r ∈ g, r.length ≤ 1048576) : tot g ≤ 1099511627776 :=
  Nat.le_trans (tot_le 1048576 g h2) (by have := Nat.mul_le_mul_right 1048576 h1; omega)
theorem ev_markSS (g : List (List Int)) (a : Int) (h0 : 0 ≤ a) (h1 : a + tot g ≤ 4611686018427387904) (hl : g.length ≤ 4611686018427387904) : Ev (fun k => laws_markInt64SS.f k g a) (a + tot g, MkSS a g) := by
  unfold laws_markInt64SS.f
  suffices H : ∀ (rest done : List (List Int)) (b : Int), 0 ≤ b → b + tot rest ≤ 4611686018427387904 → done.length + rest.length ≤ 4611686018427387904 →
      Ev (fun k => laws_markInt64SS.l0 k (done ++ rest) b (done.length : Int)) (b + tot rest, done ++ MkSS b rest) by
    simpa using H g [] a h0 h1 (by simpa using hl)
  intro rest
  induction rest with
  | nil =>
    intro done b b0 b1 hd
    refine ev_step_now fun k => ?_
    simp only [laws_markInt64SS.l0, List.append_nil, Int.lt_irrefl, ↓reduceIte, MkSS, tot]
    simp
  | cons r g ih =>
    intro done b b0 b1 hd
    simp only [tot, List.length_cons] at b1 hd
    have m0 : (0 : Int) ≤ (done.length : Int) := by omega
    have m1 : (done.length : Int) < ((done ++ r :: g).length : Int) := by rw [List.length_append, List.length_cons]; omega
    have hw : wrap64 ((done.length : Int) + 1) = (((done ++ [MkS b r.length]).length : Nat) : Int) := by
      rw [w64 (by omega) (by omega), List.length_append, List.length_singleton]; omega
    have e : rd_Li64 (done ++ r :: g) (done.length : Int) = r := by simp [rd_Li64, List.getD_eq_getElem?_getD]
    have e2 : (done ++ r :: g).set done.length (MkS b r.length) = (done ++ [MkS b r.length]) ++ g := by
      rw [List.set_append, if_neg (by omega), Nat.sub_self, List.set_cons_zero]; simp
    refine ev_step_bind (fun k => by simp only [laws_markInt64SS.l0, m0, m1, e, ↓reduceIte]; rfl) (ev_markS r b b0 (by omega)) ?_
    have := ih (done ++ [MkS b r.length]) (b + r.length) (by omega) (by omega) (by rw [List.length_append, List.length_singleton]; omega)
    simp only [hw, Int.toNat_natCast, e2]
    simpa only [MkSS, tot, List.append_assoc, List.singleton_append, Int.natCast_add, Int.add_assoc] using this
end Go.Proofs.Ytfablaokggnioaa.U
set_option linter.unusedVariables false
set_option linter.unusedSimpArgs false
namespace Go.Proofs.Ytfablaokggnioaa.U
open Go.RowKit Go.Proofs.YtfablaokggnioaaW.PrintWords Go.Proofs.YtfablaokggnioaaW.PrintLast Go.Proofs.YtfablaokggnioaaW.PrintMore Go.Proofs.Ytfablaokggnioaa.Pa
theorem ev_In (x lo hi : Int) : Ev (fun _ => spec_l01In.f x lo hi) (B (lo ≤ x ∧ x ≤ hi)) := by
  refine ev_now fun k => ?_
  unfold spec_l01In.f
  by_cases h : x ≥ lo
  · rw [if_pos h, B_decide, B_congr (show x ≤ hi ↔ (lo ≤ x ∧ x ≤ hi) from ⟨fun h' => ⟨h, h'⟩, fun h' => h'.2⟩)]
  · rw [if_neg h, B_neg (fun h' => h h'.1)]
def LawS (g : List (List Int)) (a : Int) : Prop := T g 0 a = a ∧ T g a 0 = a ∧ (∀ b : Int, 0 ≤ b → b < g.length → ∀ c : Int, 0 ≤ c → c < g.length → T g (T g a b) c = T g a (T g b c)) ∧ ∃ b : Int, 0 ≤ b ∧ b < g.length ∧ T g a b = 0 ∧ T g b a = 0
theorem grp_iffS (g : List (List Int)) : Grp g ↔ (1 ≤ g.length ∧ g.length ≤ 8) ∧ Tab g ∧ ∀ a : Int, 0 ≤ a → a < g.length → LawS g a := by
  rw [grp_iff]
  constructor
  · intro h
    have hg := (grp_iff g).2 h
    refine ⟨h.1, h.2.1, fun a a0 a1 => ?_⟩
    obtain ⟨h1, h2, _, h4⟩ := h.2.2 a a0 a1
    exact ⟨h1, h2, h4, hg.inv2 a0 a1⟩
  · rintro ⟨h1, h2, h3⟩
    refine ⟨h1, h2, fun a a0 a1 => ?_⟩
    obtain ⟨k1, k2, k3, b, b0, b1, hb, _⟩ := h3 a a0 a1
    exact ⟨k1, k2, ⟨b, b0, b1, hb⟩, k3⟩
theorem ev_Is (g : List (List Int)) (hl : g.length ≤ maxLen) : Ev (fun k => spec_l01Is.f k g) (B (Grp g)) := by
  have hm := maxLen_le
  rw [B_congr (grp_iffS g)]
  unfold spec_l01Is.f
  refine ev_bind (fun k => rfl) (ev_In _ _ _) ?_
  by_cases c1 : 1 ≤ (g.length : Int) ∧ (g.length : Int) ≤ 8
  rotate_left
  · rw [B_neg c1, B_neg fun h => c1 (by omega)]
    exact ev_now fun k => by simp
  rw [B_pos c1]
  simp only [↓reduceIte]
  rw [B_congr (show ((1 ≤ g.length ∧ g.length ≤ 8) ∧ Tab g ∧ ∀ a : Int, 0 ≤ a → a < g.length → LawS g a) ↔ (Tab g ∧ ∀ a : Int, 0 ≤ a → a < g.length → LawS g a) from ⟨fun h => h.2, fun h => ⟨by omega, h⟩⟩)]
  have hpos : (0 : Int) < g.length := by omega
  refine scanB g.length (fun i k => spec_l01Is.l0 k (g.length : Int) i g) (fun a => (rd_Li64 g a).length = g.length ∧ AllIn g.length (rd_Li64 g a)) (∀ a : Int, 0 ≤ a → a < g.length → LawS g a) (fun a a0 a1 _ => ?_) (fun ht => ?_)
  · have hwa : wrap64 (a + 1) = a + 1 := w64s a0 a1 (by omega)
    by_cases h2 : ((rd_Li64 g a).length : Int) = g.length
    · have inner := scan g.length (fun b k => spec_l01Is.l1 k (g.length : Int) a b g) (fun b => 0 ≤ rd (rd_Li64 g a) b ∧ rd (rd_Li64 g a) b < g.length) false (fun b b0 b1 _ => by
        have hwb : wrap64 (b + 1) = b + 1 := w64s b0 b1 (by omega)
        have hw1 : wrap64 ((g.length : Int) - 1) = g.length - 1 := w64 (by omega) (by omega)
        have hin := ev_In (rd (rd_Li64 g a) b) 0 (wrap64 ((g.length : Int) - 1))
        rw [B_congr (show (0 ≤ rd (rd_Li64 g a) b ∧ rd (rd_Li64 g a) b ≤ wrap64 ((g.length : Int) - 1)) ↔ (0 ≤ rd (rd_Li64 g a) b ∧ rd (rd_Li64 g a) b < g.length) by rw [hw1]; omega)] at hin
        by_cases h3 : 0 ≤ rd (rd_Li64 g a) b ∧ rd (rd_Li64 g a) b < g.length
        · rw [B_pos h3] at hin
          refine .inl ⟨h3, fun r h => ev_step_bind (fun k => by simp only [spec_l01Is.l1, a0, a1, b0, b1, h2, ↓reduceIte]; rfl) hin ?_⟩
          simp only [hwb, ↓reduceIte]; exact h
        · rw [B_neg h3] at hin
          refine .inr ⟨h3, ev_step_bind (fun k => by simp only [spec_l01Is.l1, a0, a1, b0, b1, h2, ↓reduceIte]; rfl) hin ?_⟩
          exact ev_now fun k => by simp)
      rcases inner with ⟨h5, h6⟩ | ⟨⟨b, b0, b1, h5⟩, h6⟩
      · exact .inl ⟨⟨by omega, fun i i0 i1 => h5 i i0 (by omega)⟩, fun r h => Ev.step (fun k => by simp only [spec_l01Is.l0, a0, a1, h2, ↓reduceIte]) (h6 r (Ev.step (fun k => by simp only [spec_l01Is.l1, Int.lt_irrefl, hwa, ↓reduceIte]) h))⟩
      · exact .inr ⟨fun h => h5 (h.2 b b0 (by omega)), Ev.step (fun k => by simp only [spec_l01Is.l0, a0, a1, h2, ↓reduceIte]) h6⟩
    · exact .inr ⟨fun h => h2 (by omega), ev_step_now fun k => by simp only [spec_l01Is.l0, a0, a1, h2, ↓reduceIte]⟩
  · refine Ev.step (f := fun k => spec_l01Is.l2 k (g.length : Int) 0 g) (fun k => by simp only [spec_l01Is.l0, Int.lt_irrefl, ↓reduceIte]) ?_
    refine scanT g.length (fun i k => spec_l01Is.l2 k (g.length : Int) i g) (LawS g) (fun a a0 a1 _ => ?_) (fun _ => ev_step_now fun k => by simp only [spec_l01Is.l2, Int.lt_irrefl, ↓reduceIte])
    have hlen : ∀ x : Int, 0 ≤ x → x < g.length → ((rd_Li64 g x).length : Int) = g.length := fun x x0 x1 => by rw [(ht x x0 x1).1]
    have hent : ∀ x y : Int, 0 ≤ x → x < g.length → 0 ≤ y → y < g.length → 0 ≤ rd (rd_Li64 g x) y ∧ rd (rd_Li64 g x) y < g.length := fun x y x0 x1 y0 y1 => (ht x x0 x1).2 y y0 (by rw [hlen x x0 x1]; exact y1)
    have l0 := hlen 0 (by omega) hpos
    have la := hlen a a0 a1
    have hwa : wrap64 (a + 1) = a + 1 := w64s a0 a1 (by omega)
    have bad : Ev (fun k => spec_l01Is.j3 k (g.length : Int) a true g) false := ev_step_now fun k => by simp only [spec_l01Is.j3, ↓reduceIte]
    by_cases h2 : rd (rd_Li64 g 0) a = a
    rotate_left
    · exact .inr ⟨fun h => h2 h.1, Ev.step (fun k => by simp only [spec_l01Is.l2, a0, a1, hpos, l0, h2, ↓reduceIte]) bad⟩
    by_cases h3 : rd (rd_Li64 g a) 0 = a
    rotate_left
    · have h3' : (rd (rd_Li64 g a) 0 != a) = true := by simpa using h3
      exact .inr ⟨fun h => h3 h.2.1, Ev.step (fun k => by simp only [spec_l01Is.l2, a0, a1, hpos, l0, la, h2, h3', ↓reduceIte]) bad⟩
    have h3' : (rd (rd_Li64 g a) 0 != a) = false := by simpa using h3
    let Fd : Int → Prop := fun b => ∃ j : Int, 0 ≤ j ∧ j < b ∧ T g a j = 0 ∧ T g j a = 0
    have st : ∀ r, Ev (fun k => spec_l01Is.l3 k (g.length : Int) a (B (Fd 0)) 0 g) r → Ev (fun k => spec_l01Is.l2 k (g.length : Int) a g) r := fun r h => by
      rw [B_neg (show ¬ Fd 0 from fun ⟨j, j0, j1, _⟩ => by omega)] at h
      refine Ev.step (fun k => by simp only [spec_l01Is.l2, a0, a1, hpos, l0, la, h2, h3', ↓reduceIte]; rfl) ?_
      exact Ev.step (fun k => by simp only [spec_l01Is.j3, Bool.false_eq_true, ↓reduceIte]) h
    have inner := scan g.length (fun b k => spec_l01Is.l3 k (g.length : Int) a (B (Fd b)) b g) (fun b => ∀ c : Int, 0 ≤ c → c < g.length → T g (T g a b) c = T g a (T g b c)) false (fun b b0 b1 _ => by
      have hwb : wrap64 (b + 1) = b + 1 := w64s b0 b1 (by omega)
      obtain ⟨e0, e1⟩ := hent a b a0 a1 b0 b1
      have le := hlen _ e0 e1
      have lb := hlen b b0 b1
      have toj : ∀ r, Ev (fun k => spec_l01Is.j5 k (g.length : Int) a (B (Fd (b + 1))) b g) r → Ev (fun k => spec_l01Is.l3 k (g.length : Int) a (B (Fd b)) b g) r := fun r h => by
        by_cases k1 : Fd b
        · rw [B_pos k1]
          rw [B_pos (show Fd (b + 1) from by obtain ⟨j, j0, j1, h⟩ := k1; exact ⟨j, j0, by omega, h⟩)] at h
          exact Ev.step (fun k => by simp only [spec_l01Is.l3, b1, ↓reduceIte]) h
        · rw [B_neg k1]
          by_cases k2 : rd (rd_Li64 g a) b = 0
          · have e : B (Fd (b + 1)) = (rd (rd_Li64 g b) a == 0) := by
              by_cases k3 : rd (rd_Li64 g b) a = 0
              · rw [B_pos ⟨b, b0, by omega, k2, k3⟩]; simp [k3]
              · rw [B_neg]
                · simp [k3]
                · rintro ⟨j, j0, j1, ja, jb⟩
                  by_cases ej : j = b
                  · subst ej; exact k3 jb
                  · exact k1 ⟨j, j0, by omega, ja, jb⟩
            rw [e] at h
            exact Ev.step (fun k => by simp only [spec_l01Is.l3, a0, a1, b0, b1, la, lb, k2, Bool.false_eq_true, ↓reduceIte]) h
          · rw [B_neg (show ¬ Fd (b + 1) from by
              rintro ⟨j, j0, j1, ja, jb⟩
              by_cases ej : j = b
              · subst ej; exact k2 ja
              · exact k1 ⟨j, j0, by omega, ja, jb⟩)] at h
            exact Ev.step (fun k => by simp only [spec_l01Is.l3, a0, a1, b0, b1, la, k2, Bool.false_eq_true, ↓reduceIte]) h
      have inner4 := scan g.length (fun c k => spec_l01Is.l4 k (g.length : Int) a (B (Fd (b + 1))) b c g) (fun c => T g (T g a b) c = T g a (T g b c)) false (fun c c0 c1 _ => by
        have hwc : wrap64 (c + 1) = c + 1 := w64s c0 c1 (by omega)
        obtain ⟨f0, f1⟩ := hent b c b0 b1 c0 c1
        by_cases h5 : rd (rd_Li64 g (rd (rd_Li64 g a) b)) c = rd (rd_Li64 g a) (rd (rd_Li64 g b) c)
        · exact .inl ⟨h5, fun r h => Ev.step (fun k => by simp only [spec_l01Is.l4, a0, a1, b0, b1, c0, c1, e0, e1, f0, f1, la, lb, le, h5, hwc, ↓reduceIte]) h⟩
        · exact .inr ⟨h5, ev_step_now fun k => by simp only [spec_l01Is.l4, a0, a1, b0, b1, c0, c1, e0, e1, f0, f1, la, lb, le, h5, ↓reduceIte]⟩)
      rcases inner4 with ⟨h5, h6⟩ | ⟨⟨c, c0, c1, h5⟩, h6⟩
      · exact .inl ⟨h5, fun r h => toj r (Ev.step (fun k => by simp only [spec_l01Is.j5]) (h6 r (Ev.step (fun k => by simp only [spec_l01Is.l4, Int.lt_irrefl, hwb, ↓reduceIte]) h)))⟩
      · exact .inr ⟨fun h => h5 (h c c0 c1), toj _ (Ev.step (fun k => by simp only [spec_l01Is.j5]) h6)⟩)
    rcases inner with ⟨h5, h6⟩ | ⟨⟨b, b0, b1, h5⟩, h6⟩
    · by_cases h7 : Fd g.length
      · rw [B_pos h7] at h6
        exact .inl ⟨⟨h2, h3, h5, h7⟩, fun r h => st r (h6 r (Ev.step (fun k => by simp only [spec_l01Is.l3, Int.lt_irrefl, hwa, ↓reduceIte]) h))⟩
      · rw [B_neg h7] at h6
        exact .inr ⟨fun h => h7 h.2.2.2, st _ (h6 _ (ev_step_now fun k => by simp only [spec_l01Is.l3, Int.lt_irrefl, Bool.false_eq_true, ↓reduceIte]))⟩
    · exact .inr ⟨fun h => h5 (h.2.2.1 b b0 b1), st _ h6⟩
end Go.Proofs.Ytfablaokggnioaa.U
set_option linter.unusedVariables false
set_option linter.unusedSimpArgs false
namespace Go.Proofs.Ytfablaokggnioaa.U
open Go.RowKit Go.Proofs.YtfablaokggnioaaW.PrintWords Go.Proofs.YtfablaokggnioaaW.PrintLast Go.Proofs.YtfablaokggnioaaW.PrintMore Go.Proofs.Ytfablaokggnioaa.Pa
theorem ev_gcd0 (y : Nat) : ∀ x : Nat, Ev (fun k => impl_gcd.l0 k (x : Int) (y : Int)) ((Nat.gcd x y : Nat) : Int) := by
  induction y using Nat.strongRecOn with
  | _ y ih =>
    intro x
    by_cases h : y = 0
    · subst h
      exact ev_step_now fun k => by simp [impl_gcd.l0]
    · have h' : ¬ ((y : Int) = 0) := by omega
      have e : Int.tmod (x : Int) (y : Int) = ((x % y : Nat) : Int) := by rw [Int.ofNat_tmod]
      have := ih (x % y) (Nat.mod_lt _ (by omega)) y
      rw [show Nat.gcd y (x % y) = Nat.gcd x y by rw [Nat.gcd_comm x y, Nat.gcd_rec y x, Nat.gcd_comm]] at this
      exact Ev.step (fun k => by simp only [impl_gcd.l0, h', e, ↓reduceIte]) this
theorem ev_gcd {a b : Int} (ha : 0 ≤ a) (hb : 0 ≤ b) : Ev (fun k => impl_gcd.f k a b) ((Int.gcd a b : Nat) : Int) := by
  obtain ⟨x, rfl⟩ := Int.eq_ofNat_of_zero_le ha
  obtain ⟨y, rfl⟩ := Int.eq_ofNat_of_zero_le hb
  have := ev_gcd0 y x
  unfold impl_gcd.f
  simpa [Int.gcd] using this
theorem ev_Gcd0 (y : Nat) : ∀ x : Nat, x ≤ 9223372036854775807 → y ≤ 9223372036854775807 → Ev (fun k => spec_l01Gcd.l0 k (x : Int) (y : Int)) ((Nat.gcd x y : Nat) : Int) := by
  induction y using Nat.strongRecOn with
  | _ y ih =>
    intro x hx hy
    by_cases h : y = 0
    · subst h
      refine ev_step_now fun k => ?_
      have hw : wrap64 (-(x : Int)) = -(x : Int) := w64 (by omega) (by omega)
      have hm : mx (x : Int) (-(x : Int)) = x := by unfold mx; split <;> omega
      simp [spec_l01Gcd.l0, hw, hm]
    · have h' : ¬ ((y : Int) = 0) := by omega
      have e : Int.tmod (x : Int) (y : Int) = ((x % y : Nat) : Int) := by rw [Int.ofNat_tmod]
      have hlt := Nat.mod_lt x (show y > 0 by omega)
      have := ih (x % y) hlt y hy (by omega)
      rw [show Nat.gcd y (x % y) = Nat.gcd x y by rw [Nat.gcd_comm x y, Nat.gcd_rec y x, Nat.gcd_comm]] at this
      exact Ev.step (fun k => by simp only [spec_l01Gcd.l0, h', e, ↓reduceIte]) this
theorem ev_Gcd {a b : Int} (ha : 0 ≤ a) (hb : 0 ≤ b) (ha' : a ≤ 9223372036854775807) (hb' : b ≤ 9223372036854775807) : Ev (fun k => spec_l01Gcd.f k a b) ((Int.gcd a b : Nat) : Int) := by
  obtain ⟨x, rfl⟩ := Int.eq_ofNat_of_zero_le ha
  obtain ⟨y, rfl⟩ := Int.eq_ofNat_of_zero_le hb
  have := ev_Gcd0 y x (by omega) (by omega)
  unfold spec_l01Gcd.f
  simpa [Int.gcd] using this
theorem ev_times0 {g : List (List Int)} (hg : Grp g) (xs : List Int) (hx : AllIn g.length xs) (hl : xs.length ≤ maxLen) :
    ∀ (d m : Nat) (x : Int), m + d = xs.length → 0 ≤ x → x < g.length → Ev (fun k => impl_Group_times.l0 k x xs (xs.length : Int) (m : Int) g) ((xs.drop m).foldl (T g) x) := by
  have hm := maxLen_le
  intro d
  induction d with
  | zero =>
    intro m x hd x0 x1
    obtain rfl : m = xs.length := by omega
    rw [List.drop_length]
    exact ev_step_now fun k => by simp only [impl_Group_times.l0, Int.lt_irrefl, ↓reduceIte, List.foldl_nil]
  | succ d ih =>
    intro m x hd x0 x1
    have m1 : (m : Int) < xs.length := by omega
    have m0 : (0 : Int) ≤ m := by omega
    obtain ⟨y0, y1⟩ := hx m m0 m1
    have hw : wrap64 ((m : Int) + 1) = ((m + 1 : Nat) : Int) := by rw [w64s m0 m1 (by omega)]; omega
    have hr : ((rd_Li64 g x).length : Int) = g.length := by rw [hg.row x x0 x1]
    obtain ⟨z0, z1⟩ := hg.ent x (rd xs m) x0 x1 y0 y1
    have e : xs.drop m = rd xs m :: xs.drop (m + 1) := by
      rw [List.drop_eq_getElem_cons (by omega)]
      simp [rd, List.getD_eq_getElem?_getD, List.getElem?_eq_getElem (show m < xs.length by omega)]
    rw [e, List.foldl_cons]
    refine Ev.step (fun k => by simp only [impl_Group_times.l0, m1, m0, x0, x1, y0, hr, y1, hw, ↓reduceIte]; rfl) (ih (m + 1) _ (by omega) z0 z1)
theorem ev_times {g : List (List Int)} (hg : Grp g) (xs : List Int) (hx : AllIn g.length xs) (hl : xs.length ≤ maxLen) : Ev (fun k => impl_Group_times.f k g xs) (xs.foldl (T g) 0) := by
  unfold impl_Group_times.f
  simpa using ev_times0 hg xs hx hl xs.length 0 0 (by omega) (by omega) (by have := hg.n1; omega)
theorem allIn_two {n x y : Int} (h0 : 0 ≤ x) (h1 : x < n) (h2 : 0 ≤ y) (h3 : y < n) : AllIn n [x, y] := by
  intro i i0 i1
  have : i = 0 ∨ i = 1 := by simp at i1; omega
  rcases this with rfl | rfl <;> simp [rd, *]
theorem allIn_one {n x : Int} (h0 : 0 ≤ x) (h1 : x < n) : AllIn n [x] := by
  intro i i0 i1
  have : i = 0 := by simp at i1; omega
  subst this; simp [rd, *]
theorem ev_times2 {g : List (List Int)} (hg : Grp g) {x y : Int} (x0 : 0 ≤ x) (x1 : x < g.length) (y0 : 0 ≤ y) (y1 : y < g.length) : Ev (fun k => impl_Group_times.f k g [x, y]) (T g x y) := by
  have := ev_times hg [x, y] (allIn_two x0 x1 y0 y1) (by unfold maxLen; simp)
  simpa [hg.one x x0 x1] using this
structure Mdl (g : List (List Int)) (m : Int) (u : List Int) : Prop where
  m2 : 2 ≤ m
  m12 : m ≤ 12
  len : u.length = g.length
  unit : ∀ i : Int, 0 ≤ i → i < u.length → 1 ≤ rd u i ∧ rd u i < m ∧ Int.gcd (rd u i) m = 1
  hom : ∀ i : Int, 0 ≤ i → i < u.length → ∀ j : Int, 0 ≤ j → j < u.length → rd u (T g i j) = rd u i * rd u j % m
theorem unit_one : ∀ m : Nat, m ≤ 12 → ∀ u : Nat, u < m → Nat.gcd u m = 1 → u = u * u % m → 1 ≤ u → u = 1 := by decide
theorem Mdl.one {g : List (List Int)} {m : Int} {u : List Int} (hg : Grp g) (h : Mdl g m u) : rd u 0 = 1 := by
  have n1 := hg.n1
  have hl := h.len
  obtain ⟨a1, a2, a3⟩ := h.unit 0 (by omega) (by omega)
  have e := h.hom 0 (by omega) (by omega) 0 (by omega) (by omega)
  rw [hg.one 0 (by omega) (by omega)] at e
  have m2 := h.m2; have m12 := h.m12
  obtain ⟨M, rfl⟩ := Int.eq_ofNat_of_zero_le (show 0 ≤ m by omega)
  obtain ⟨U, hU⟩ := Int.eq_ofNat_of_zero_le (show 0 ≤ rd u 0 by omega)
  rw [hU] at a1 a2 a3 e ⊢
  have := unit_one M (by omega) U (by omega) (by simpa [Int.gcd] using a3) (by exact_mod_cast e) (by omega)
  omega
theorem mul_lt_small {a b m : Int} (a0 : 0 ≤ a) (a1 : a < m) (b0 : 0 ≤ b) (b1 : b < m) (hm : m ≤ 1000) : 0 ≤ a * b ∧ a * b ≤ 1000000 := by
  refine ⟨Int.mul_nonneg a0 b0, ?_⟩
  have h1 : a * b ≤ 1000 * b := Int.mul_le_mul_of_nonneg_right (by omega) b0
  omega
theorem tmod_nn {a m : Int} (h : 0 ≤ a) : Int.tmod a m = a % m := Int.tmod_eq_emod_of_nonneg h
theorem ev_isUnit {m x : Int} (m0 : 0 ≤ m) : Ev (fun k => impl_isUnit.f k m x) (B (1 ≤ x ∧ x < m ∧ Int.gcd x m = 1)) := by
  unfold impl_isUnit.f
  by_cases h1 : x ≥ 1
  · by_cases h2 : x < m
    · simp only [h1, h2, ↓reduceIte]
      refine ev_bind (fun k => rfl) (ev_gcd m0 (by omega)) (ev_now fun k => ?_)
      rw [Int.gcd_comm]
      by_cases h3 : Int.gcd x m = 1
      · rw [B_pos ⟨trivial, trivial, h3⟩]; simp [h3]
      · rw [B_neg fun h => h3 h.2.2]
        have : ¬ ((Int.gcd x m : Nat) : Int) = 1 := by omega
        simp [this]
    · rw [B_neg fun h => h2 h.2.1]
      exact ev_now fun k => by simp only [h1, h2, ↓reduceIte]
  · rw [B_neg fun h => h1 h.1]
    exact ev_now fun k => by simp only [h1, ↓reduceIte]
theorem mdl_iff (g : List (List Int)) (m : Int) (u : List Int) : Mdl g m u ↔ (2 ≤ m ∧ m ≤ 12) ∧ u.length = g.length ∧ (∀ i : Int, 0 ≤ i → i < u.length → 1 ≤ rd u i ∧ rd u i < m ∧ Int.gcd (rd u i) m = 1) ∧ ∀ i : Int, 0 ≤ i → i < u.length → ∀ j : Int, 0 ≤ j → j < u.length → rd u (T g i j) = rd u i * rd u j % m :=
  ⟨fun h => ⟨⟨h.m2, h.m12⟩, h.len, h.unit, h.hom⟩, fun ⟨⟨a, b⟩, c, d, e⟩ => ⟨a, b, c, d, e⟩⟩
theorem ev_isModule {g : List (List Int)} (hg : Grp g) (m : Int) (u : List Int) (hl : u.length ≤ maxLen) : Ev (fun k => impl_isModule.f k g m u) (B (Mdl g m u)) := by
  have hm := maxLen_le
  have n1 := hg.n1
  unfold impl_isModule.f impl_isModulus.f impl_order.f
  have bad : Ev (fun k => impl_isModule.j0 k true g m u) false := ev_step_now fun k => by simp only [impl_isModule.j0, ↓reduceIte]
  by_cases h1 : m ≥ 2
  rotate_left
  · rw [B_neg fun h => h1 h.m2]
    simp only [h1, ↓reduceIte, Option.bind_some, Bool.false_eq_true]
    exact bad
  by_cases h2 : m ≤ 12
  rotate_left
  · rw [B_neg fun h => h2 h.m12]
    simp only [h1, h2, ↓reduceIte, Option.bind_some, decide_false, Bool.false_eq_true]
    exact bad
  simp only [h1, h2, ↓reduceIte, Option.bind_some, decide_true]
  by_cases h3 : (u.length : Int) = g.length
  rotate_left
  · rw [B_neg fun h => h3 (by rw [h.len])]
    simp only [h3, ↓reduceIte]
    exact bad
  have h4 : (0 : Int) < u.length := by omega
  simp only [h3, ↓reduceIte, show (0 : Int) < g.length by omega]
  by_cases h5 : rd u 0 = 1
  rotate_left
  · rw [B_neg fun h => h5 (h.one hg)]
    simp only [show (rd u 0 != 1) = true by simpa using h5]
    exact bad
  simp only [show (rd u 0 != 1) = false by simpa using h5]
  rw [B_congr (mdl_iff g m u), B_congr (show ((2 ≤ m ∧ m ≤ 12) ∧ u.length = g.length ∧ (∀ i : Int, 0 ≤ i → i < u.length → 1 ≤ rd u i ∧ rd u i < m ∧ Int.gcd (rd u i) m = 1) ∧ ∀ i : Int, 0 ≤ i → i < u.length → ∀ j : Int, 0 ≤ j → j < u.length → rd u (T g i j) = rd u i * rd u j % m) ↔ _ from ⟨fun h => h.2.2, fun h => ⟨⟨h1, h2⟩, by omega, h⟩⟩)]
  refine Ev.step (f := fun k => impl_isModule.l0 k u (u.length : Int) 0 g m u) (fun k => by simp only [impl_isModule.j0, Bool.false_eq_true, ↓reduceIte]) ?_
  refine scanB u.length (fun i k => impl_isModule.l0 k u (u.length : Int) i g m u) (fun i => 1 ≤ rd u i ∧ rd u i < m ∧ Int.gcd (rd u i) m = 1) _ (fun i i0 i1 _ => ?_) (fun hu => ?_)
  · have hw : wrap64 (i + 1) = i + 1 := w64s i0 i1 (by omega)
    have hu := ev_isUnit (m := m) (x := rd u i) (by omega)
    by_cases h6 : 1 ≤ rd u i ∧ rd u i < m ∧ Int.gcd (rd u i) m = 1
    · rw [B_pos h6] at hu
      refine .inl ⟨h6, fun r h => ev_step_bind (fun k => by simp only [impl_isModule.l0, i0, i1, ↓reduceIte]; rfl) hu ?_⟩
      simp only [hw, ↓reduceIte]; exact h
    · rw [B_neg h6] at hu
      refine .inr ⟨h6, ev_step_bind (fun k => by simp only [impl_isModule.l0, i0, i1, ↓reduceIte]; rfl) hu ?_⟩
      exact ev_now fun k => by simp
  · refine Ev.step (f := fun k => impl_isModule.l1 k (u.length : Int) 0 g m u) (fun k => by simp only [impl_isModule.l0, Int.lt_irrefl, ↓reduceIte, impl_order.f, Option.bind_some, h3]) ?_
    refine scanT u.length (fun i k => impl_isModule.l1 k (u.length : Int) i g m u) (fun i => ∀ j : Int, 0 ≤ j → j < u.length → rd u (T g i j) = rd u i * rd u j % m) (fun i i0 i1 _ => ?_) (fun _ => ev_step_now fun k => by simp only [impl_isModule.l1, Int.lt_irrefl, ↓reduceIte])
    have hwi : wrap64 (i + 1) = i + 1 := w64s i0 i1 (by omega)
    have inner := scan u.length (fun j k => impl_isModule.l2 k i (u.length : Int) i (u.length : Int) j g m u) (fun j => rd u (T g i j) = rd u i * rd u j % m) false (fun j j0 j1 _ => by
      have hwj : wrap64 (j + 1) = j + 1 := w64s j0 j1 (by omega)
      have ht := ev_times2 hg i0 (by omega) j0 (by omega)
      obtain ⟨e0, e1⟩ := hg.ent i j i0 (by omega) j0 (by omega)
      have e1' : T g i j < u.length := by omega
      obtain ⟨p0, p1⟩ := mul_lt_small (show 0 ≤ rd u i by have := (hu i i0 i1).1; omega) (hu i i0 i1).2.1 (show 0 ≤ rd u j by have := (hu j j0 j1).1; omega) (hu j j0 j1).2.1 (by omega)
      have hwp : wrap64 (rd u i * rd u j) = rd u i * rd u j := w64 (by omega) (by omega)
      have hz : ¬ m = 0 := by omega
      by_cases h6 : rd u (T g i j) = rd u i * rd u j % m
      · refine .inl ⟨h6, fun r h => ev_step_bind (fun k => by simp only [impl_isModule.l2, j1, ↓reduceIte]; rfl) ht ?_⟩
        simp only [e0, e1', i0, i1, j0, j1, hz, hwp, tmod_nn p0, ← h6, hwj, ↓reduceIte]; exact h
      · refine .inr ⟨h6, ev_step_bind (fun k => by simp only [impl_isModule.l2, j1, ↓reduceIte]; rfl) ht ?_⟩
        exact ev_now fun k => by simp only [e0, e1', i0, i1, j0, j1, hz, hwp, tmod_nn p0, h6, ↓reduceIte])
    rcases inner with ⟨h6, h7⟩ | ⟨⟨j, j0, j1, h6⟩, h7⟩
    · exact .inl ⟨h6, fun r h => Ev.step (fun k => by simp only [impl_isModule.l1, i1, ↓reduceIte, impl_order.f, Option.bind_some, ← h3]) (h7 r (Ev.step (fun k => by simp only [impl_isModule.l2, Int.lt_irrefl, hwi, ↓reduceIte]) h))⟩
    · exact .inr ⟨fun h => h6 (h j j0 j1), Ev.step (fun k => by simp only [impl_isModule.l1, i1, ↓reduceIte, impl_order.f, Option.bind_some, ← h3]) h7⟩
theorem ev_Is02 {g : List (List Int)} (hg : Grp g) (m : Int) (u : List Int) (hl : u.length ≤ maxLen) : Ev (fun k => spec_l02Is.f k g m u) (B (Mdl g m u)) := by
  have hm := maxLen_le
  have n1 := hg.n1
  unfold spec_l02Is.f
  have bad : Ev (fun k => spec_l02Is.j0 k true g m u) false := ev_step_now fun k => by simp only [spec_l02Is.j0, ↓reduceIte]
  refine ev_bind (fun k => rfl) (ev_In _ _ _) ?_
  by_cases h1 : 2 ≤ m ∧ m ≤ 12
  rotate_left
  · rw [B_neg h1, B_neg fun h => h1 ⟨h.m2, h.m12⟩]
    simp only [Bool.false_eq_true, ↓reduceIte]
    exact bad
  rw [B_pos h1]
  simp only [↓reduceIte]
  by_cases h3 : (u.length : Int) = g.length
  rotate_left
  · rw [B_neg fun h => h3 (by rw [h.len])]
    simp only [show ((u.length : Int) != g.length) = true by simpa using h3]
    exact bad
  simp only [show ((u.length : Int) != g.length) = false by simpa using h3]
  rw [B_congr (mdl_iff g m u), B_congr (show ((2 ≤ m ∧ m ≤ 12) ∧ u.length = g.length ∧ (∀ i : Int, 0 ≤ i → i < u.length → 1 ≤ rd u i ∧ rd u i < m ∧ Int.gcd (rd u i) m = 1) ∧ ∀ i : Int, 0 ≤ i → i < u.length → ∀ j : Int, 0 ≤ j → j < u.length → rd u (T g i j) = rd u i * rd u j % m) ↔ _ from ⟨fun h => h.2.2, fun h => ⟨h1, by omega, h⟩⟩)]
  refine Ev.step (f := fun k => spec_l02Is.l0 k 0 g m u) (fun k => by simp only [spec_l02Is.j0, Bool.false_eq_true, ↓reduceIte]) ?_
  refine scanB u.length (fun i k => spec_l02Is.l0 k i g m u) (fun i => 1 ≤ rd u i ∧ rd u i < m ∧ Int.gcd (rd u i) m = 1) _ (fun i i0 i1 _ => ?_) (fun hu => ?_)
  · have hw : wrap64 (i + 1) = i + 1 := w64s i0 i1 (by omega)
    have hw1 : wrap64 (m - 1) = m - 1 := w64 (by omega) (by omega)
    have hin := ev_In (rd u i) 1 (wrap64 (m - 1))
    rw [B_congr (show (1 ≤ rd u i ∧ rd u i ≤ wrap64 (m - 1)) ↔ (1 ≤ rd u i ∧ rd u i < m) by rw [hw1]; omega)] at hin
    by_cases h6 : 1 ≤ rd u i ∧ rd u i < m
    · rw [B_pos h6] at hin
      have hgc := ev_Gcd (a := rd u i) (b := m) (by omega) (by omega) (by omega) (by omega)
      by_cases h7 : Int.gcd (rd u i) m = 1
      · refine .inl ⟨⟨h6.1, h6.2, h7⟩, fun r h => ev_step_bind (fun k => by simp only [spec_l02Is.l0, i0, i1, ↓reduceIte]; rfl) hin ?_⟩
        simp only [↓reduceIte]
        refine ev_bind (fun k => rfl) hgc ?_
        simp only [h7, hw, Int.natCast_one, ↓reduceIte]; exact h
      · refine .inr ⟨fun h => h7 h.2.2, ev_step_bind (fun k => by simp only [spec_l02Is.l0, i0, i1, ↓reduceIte]; rfl) hin ?_⟩
        simp only [↓reduceIte]
        refine ev_bind (fun k => rfl) hgc (ev_now fun k => ?_)
        rw [if_neg (by omega)]
    · rw [B_neg h6] at hin
      refine .inr ⟨fun h => h6 ⟨h.1, h.2.1⟩, ev_step_bind (fun k => by simp only [spec_l02Is.l0, i0, i1, ↓reduceIte]; rfl) hin ?_⟩
      exact ev_now fun k => by simp
  · refine Ev.step (f := fun k => spec_l02Is.l1 k 0 g m u) (fun k => by simp only [spec_l02Is.l0, Int.lt_irrefl, ↓reduceIte]) ?_
    refine scanT u.length (fun i k => spec_l02Is.l1 k i g m u) (fun i => ∀ j : Int, 0 ≤ j → j < u.length → rd u (T g i j) = rd u i * rd u j % m) (fun i i0 i1 _ => ?_) (fun _ => ev_step_now fun k => by simp only [spec_l02Is.l1, Int.lt_irrefl, ↓reduceIte])
    have hwi : wrap64 (i + 1) = i + 1 := w64s i0 i1 (by omega)
    have inner := scan u.length (fun j k => spec_l02Is.l2 k i j g m u) (fun j => rd u (T g i j) = rd u i * rd u j % m) false (fun j j0 j1 _ => by
      have hwj : wrap64 (j + 1) = j + 1 := w64s j0 j1 (by omega)
      obtain ⟨e0, e1⟩ := hg.ent i j i0 (by omega) j0 (by omega)
      have i1' : i < (g.length : Int) := by omega
      have lr : j < ((rd_Li64 g i).length : Int) := by rw [hg.row i i0 i1']; omega
      obtain ⟨p0, p1⟩ := mul_lt_small (show 0 ≤ rd u i by have := (hu i i0 i1).1; omega) (hu i i0 i1).2.1 (show 0 ≤ rd u j by have := (hu j j0 j1).1; omega) (hu j j0 j1).2.1 (by omega)
      have hwp : wrap64 (rd u i * rd u j) = rd u i * rd u j := w64 (by omega) (by omega)
      have hz : ¬ m = 0 := by omega
      have e0' : 0 ≤ rd (rd_Li64 g i) j := e0
      have e1' : rd (rd_Li64 g i) j < u.length := by rw [h3]; exact e1
      by_cases h6 : rd u (T g i j) = rd u i * rd u j % m
      · have h6' : rd u (rd (rd_Li64 g i) j) = rd u i * rd u j % m := h6
        exact .inl ⟨h6, fun r h => Ev.step (fun k => by simp only [spec_l02Is.l2, i0, i1, i1', j0, j1, lr, e0', e1', hz, hwp, tmod_nn p0, h6', hwj, ↓reduceIte]) h⟩
      · have h6' : ¬ rd u (rd (rd_Li64 g i) j) = rd u i * rd u j % m := h6
        exact .inr ⟨h6, ev_step_now fun k => by simp only [spec_l02Is.l2, i0, i1, i1', j0, j1, lr, e0', e1', hz, hwp, tmod_nn p0, h6', ↓reduceIte]⟩)
    rcases inner with ⟨h6, h7⟩ | ⟨⟨j, j0, j1, h6⟩, h7⟩
    · exact .inl ⟨h6, fun r h => Ev.step (fun k => by simp only [spec_l02Is.l1, i1, ↓reduceIte]) (h7 r (Ev.step (fun k => by simp only [spec_l02Is.l2, Int.lt_irrefl, hwi, ↓reduceIte]) h))⟩
    · exact .inr ⟨fun h => h6 (h j j0 j1), Ev.step (fun k => by simp only [spec_l02Is.l1, i1, ↓reduceIte]) h7⟩
end Go.Proofs.Ytfablaokggnioaa.U
set_option linter.unusedVariables false
set_option linter.unusedSimpArgs false
namespace Go.Proofs.Ytfablaokggnioaa.U
open Go.RowKit Go.Proofs.YtfablaokggnioaaW.PrintWords Go.Proofs.YtfablaokggnioaaW.PrintLast Go.Proofs.YtfablaokggnioaaW.PrintMore Go.Proofs.Ytfablaokggnioaa.Pa
noncomputable def ite_ {α : Type} (p : Prop) (a b : α) : α := @ite α p (Classical.propDecidable p) a b
theorem ite_pos {α : Type} {p : Prop} (h : p) (a b : α) : ite_ p a b = a := by unfold ite_; simp [h]
theorem ite_neg {α : Type} {p : Prop} (h : ¬ p) (a b : α) : ite_ p a b = b := by unfold ite_; simp [h]
def GM (g : List (List Int)) (m : Int) (u : List Int) : Prop := Grp g ∧ Mdl g m u
theorem ev_moduleCode (g : List (List Int)) (hl : g.length ≤ maxLen) (hr : ∀ r ∈ g, r.length ≤ maxLen) (m : Int) (u : List Int) (hu : u.length ≤ maxLen) :
    Ev (fun k => impl_moduleCode.f k g [(⟨m, u⟩ : S34)]) (ite_ (GM g m u) 0 1) := by
  unfold impl_moduleCode.f impl_areModules.f
  have hG := ev_IsGroup g hl hr
  by_cases h1 : Grp g
  · rw [B_pos h1] at hG
    have hM := ev_isModule h1 m u hu
    by_cases h2 : Mdl g m u
    · rw [B_pos h2] at hM
      rw [ite_pos ⟨h1, h2⟩]
      refine ev_bind (fun k => rfl) (a := true) ?_ (ev_now fun k => by simp)
      refine ev_step_bind (fun k => by simp [impl_areModules.l0]; rfl) hG ?_
      simp only [↓reduceIte]
      refine ev_bind (fun k => rfl) hM ?_
      simp only [↓reduceIte, show wrap64 (0 + 1) = 1 from w64 (by omega) (by omega)]
      exact ev_step_now fun k => by simp [impl_areModules.l0, show wrap64 1 = 1 from w64 (by omega) (by omega)]
    · rw [B_neg h2] at hM
      rw [ite_neg fun h => h2 h.2]
      refine ev_bind (fun k => rfl) (a := false) ?_ (ev_now fun k => by simp)
      refine ev_step_bind (fun k => by simp [impl_areModules.l0]; rfl) hG ?_
      simp only [↓reduceIte]
      exact ev_bind (fun k => rfl) hM (ev_now fun k => by simp)
  · rw [B_neg h1] at hG
    rw [ite_neg fun h => h1 h.1]
    refine ev_bind (fun k => rfl) (a := false) ?_ (ev_now fun k => by simp)
    refine ev_step_bind (fun k => by simp [impl_areModules.l0]; rfl) hG ?_
    exact ev_now fun k => by simp
theorem small_prod {m x : Int} {u : List Int} {g : List (List Int)} (hm : Mdl g m u) (x0 : 0 ≤ x) (x1 : x < g.length) {a b : Int} (a0 : 0 ≤ a) (a1 : a < m) (b0 : 0 ≤ b) (b1 : b < m) : 0 ≤ rd u x * b ∧ rd u x * b ≤ 1000000 := by
  have hl := hm.len
  obtain ⟨c1, c2, _⟩ := hm.unit x x0 (by omega)
  exact mul_lt_small (by omega) c2 b0 b1 (by have := hm.m12; omega)
theorem ev_Mod {a m : Int} (h0 : -1000000000 ≤ a) (h1 : a ≤ 1000000000) (m0 : 0 < m) (m1 : m ≤ 1000000) : spec_l01Mod.f a m = some (a % m) := by
  unfold spec_l01Mod.f
  have e1 : Int.tmod a m = a % m ∨ Int.tmod a m = a % m - m := by
    by_cases h : 0 ≤ a
    · exact .inl (tmod_nn h)
    · have h2 := Int.tmod_eq_emod (a := a) (b := m)
      rw [h2]
      have : (m.natAbs : Int) = m := by omega
      split
      · left; omega
      · right; omega
  have b0 := Int.emod_nonneg a (show m ≠ 0 by omega)
  have b1 := Int.emod_lt_of_pos a m0
  rw [if_neg (by omega), w64 (by omega) (by omega)]
  rcases e1 with e1 | e1 <;> rw [e1, tmod_nn (by omega)]
  · rw [Int.add_emod_right, Int.emod_emod_of_dvd _ (Int.dvd_refl m)]
  · rw [show a % m - m + m = a % m by omega, Int.emod_emod_of_dvd _ (Int.dvd_refl m)]
end Go.Proofs.Ytfablaokggnioaa.U
namespace Go.Proofs.Ytfablaokggnioaa.Pa
open Go.RowKit Go.Proofs.YtfablaokggnioaaW.PrintWords Go.Proofs.YtfablaokggnioaaW.PrintLast Go.Proofs.YtfablaokggnioaaW.PrintMore
attribute [local go_sem] max2_int min2_int max_two min_two max_three min_three max_four min_four
set_option linter.unusedVariables false
set_option linter.unusedSimpArgs false
end Go.Proofs.Ytfablaokggnioaa.Pa
namespace Go.Proofs.Ytfablaokggnioaa.Pa
open Go.RowKit Go.Proofs.YtfablaokggnioaaW.PrintWords Go.Proofs.YtfablaokggnioaaW.PrintLast Go.Proofs.YtfablaokggnioaaW.PrintMore
attribute [local go_sem] max2_int min2_int max_two min_two max_three min_three max_four min_four
set_option linter.unusedVariables false
set_option linter.unusedSimpArgs false
end Go.Proofs.Ytfablaokggnioaa.Pa
namespace Go.Proofs.Ytfablaokggnioaa.Pa
open Go.RowKit Go.Proofs.YtfablaokggnioaaW.PrintWords Go.Proofs.YtfablaokggnioaaW.PrintLast Go.Proofs.YtfablaokggnioaaW.PrintMore
attribute [local go_sem] max2_int min2_int max_two min_two max_three min_three max_four min_four
set_option linter.unusedVariables false
set_option linter.unusedSimpArgs false
end Go.Proofs.Ytfablaokggnioaa.Pa
namespace Go.Proofs.Ytfablaokggnioaa.Pa
open Go.RowKit Go.Proofs.YtfablaokggnioaaW.PrintWords Go.Proofs.YtfablaokggnioaaW.PrintLast Go.Proofs.YtfablaokggnioaaW.PrintMore
attribute [local go_sem] max2_int min2_int max_two min_two max_three min_three max_four min_four
set_option linter.unusedVariables false
set_option linter.unusedSimpArgs false
end Go.Proofs.Ytfablaokggnioaa.Pa
set_option linter.unusedVariables false
set_option linter.unusedSimpArgs false
namespace Go.Proofs.Ytfablaokggnioaa.U
open Go.RowKit Go.Proofs.YtfablaokggnioaaW.PrintWords Go.Proofs.YtfablaokggnioaaW.PrintLast Go.Proofs.YtfablaokggnioaaW.PrintMore Go.Proofs.Ytfablaokggnioaa.Pa
end Go.Proofs.Ytfablaokggnioaa.U
set_option linter.unusedVariables false
set_option linter.unusedSimpArgs false
namespace Go.Proofs.Ytfablaokggnioaa.U
open Go.RowKit Go.Proofs.YtfablaokggnioaaW.PrintWords Go.Proofs.YtfablaokggnioaaW.PrintLast Go.Proofs.YtfablaokggnioaaW.PrintMore Go.Proofs.Ytfablaokggnioaa.Pa
theorem ev_mapped {F : Int → Option Int} {G : Int → Int} (xs : List Int) (hl : xs.length ≤ 1048576) (hF : ∀ i : Int, 0 ≤ i → i < xs.length → F (rd xs i) = some (G (rd xs i))) : Ev (fun k => impl_mapped.f k xs F) (xs.map G) := by
  unfold impl_mapped.f
  have := fold xs.length (fun i s k => impl_mapped.l0 k F s xs (xs.length : Int) i) (fun m => (xs.take m).map G) (fun m hm r h => by
    have hw : wrap64 ((m : Int) + 1) = ((m + 1 : Nat) : Int) := by rw [w64 (by omega) (by omega)]; omega
    have m1 : (m : Int) < xs.length := by omega
    have m0 : (0 : Int) ≤ m := by omega
    have l1 : ((xs.take m).map G).length < 17592186044416 := by rw [List.length_map, List.length_take]; omega
    have e : rd xs (m : Int) = xs[m] := by simp [rd, List.getD_eq_getElem?_getD, List.getElem?_eq_getElem hm]
    have hf := hF m m0 m1
    refine Ev.step (fun k => ?_) h
    simp only [impl_mapped.l0, m1, m0, l1, hw, hf, Option.bind_some, ↓reduceIte]
    rw [List.take_succ_eq_append_getElem hm, List.map_append, e]; rfl) (xs.map G)
    (ev_step_now fun k => by simp only [impl_mapped.l0, Int.lt_irrefl, ↓reduceIte]; simp)
  simpa using this
theorem same_PrincipalMap (g : List (List Int)) (m : Int) (u : List Int) (p : Int) (hl : g.length ≤ maxLen) (hr : ∀ r ∈ g, r.length ≤ maxLen) (hu : u.length ≤ maxLen) :
    ∃ (R : List Int) (c : Int), Ev (fun k => spec_PrincipalMap.f k g m u p) (R, c) ∧ Ev (fun k => impl_PrincipalMap.f k g m u p) (R, c) ∧ R.length ≤ 1048576 := by
  have hmx := maxLen_le
  have cI := ev_moduleCode g hl hr m u hu
  by_cases h : GM g m u
  rotate_left
  · rw [ite_neg h] at cI
    refine ⟨[], 1, ?_, ?_, by simp⟩
    · unfold spec_PrincipalMap.f
      refine ev_bind (fun k => rfl) (ev_Is g hl) ?_
      have bad : Ev (fun k => spec_PrincipalMap.j0 k p true g m u) ([], 1) := ev_step_now fun k => by simp [spec_PrincipalMap.j0]
      by_cases h1 : Grp g
      rotate_left
      · rw [B_neg h1]; simp only [Bool.false_eq_true, ↓reduceIte]; exact bad
      rw [B_pos h1]
      simp only [↓reduceIte]
      refine ev_bind (fun k => rfl) (ev_Is02 h1 m u hu) ?_
      rw [B_neg fun h2 => h ⟨h1, h2⟩]
      exact bad
    · unfold impl_PrincipalMap.f
      exact ev_bind (fun k => rfl) cI (ev_now fun k => by simp)
  obtain ⟨hg, hm⟩ := id h
  have m2 := hm.m2; have m12 := hm.m12; have n8 := hg.n8; have hlu := hm.len
  have hw1 : wrap64 (m - 1) = m - 1 := w64 (by omega) (by omega)
  have sp : ∀ {r}, Ev (fun k => spec_PrincipalMap.j0 k p false g m u) r → Ev (fun k => spec_PrincipalMap.f k g m u p) r := by
    intro r h
    unfold spec_PrincipalMap.f
    refine ev_bind (fun k => rfl) (ev_Is g hl) ?_
    rw [B_pos hg]
    simp only [↓reduceIte]
    refine ev_bind (fun k => rfl) (ev_Is02 hg m u hu) ?_
    rw [B_pos hm]
    exact h
  have hin := ev_In p 0 (wrap64 (m - 1))
  have ai := ev_areIn m [p] (le_maxLen (by simp))
  rw [ite_pos h] at cI
  by_cases hp : 0 ≤ p ∧ p < m
  rotate_left
  · refine ⟨[], 2, sp ?_, ?_, by simp⟩
    · rw [B_neg (by rw [hw1]; omega)] at hin
      exact ev_step_bind (fun k => by simp only [spec_PrincipalMap.j0, Bool.false_eq_true, ↓reduceIte]; rfl) hin (ev_now fun k => by simp)
    · rw [B_neg fun q => hp (by have := q 0 (by omega) (by simp); simpa [rd] using this)] at ai
      unfold impl_PrincipalMap.f
      refine ev_bind (fun k => rfl) cI ?_
      simp only [↓reduceIte]
      exact ev_bind (fun k => rfl) ai (ev_now fun k => by simp)
  obtain ⟨p0, p1⟩ := hp
  let G : Int → Int := fun x => (x * p - p) % m
  have fact : ∀ x : Int, 0 ≤ x → x < u.length → wrap64 (rd u x * p) = rd u x * p ∧ wrap64 (rd u x * p - p) = rd u x * p - p ∧ wrap64 (rd u x * p + m) = rd u x * p + m ∧ wrap64 (rd u x * p + m - p) = rd u x * p + m - p ∧ 0 ≤ rd u x * p ∧ rd u x * p ≤ 1000000 := by
    intro x x0 x1
    obtain ⟨c0, c1⟩ := small_prod hm x0 (by omega) (a := 0) (by omega) (by omega) p0 p1
    exact ⟨w64 (by omega) (by omega), w64 (by omega) (by omega), w64 (by omega) (by omega), w64 (by omega) (by omega), c0, c1⟩
  refine ⟨u.map G, 0, sp ?_, ?_, by rw [List.length_map]; omega⟩
  · rw [B_pos (by rw [hw1]; omega)] at hin
    refine ev_step_bind (fun k => by simp only [spec_PrincipalMap.j0, Bool.false_eq_true, ↓reduceIte]; rfl) hin ?_
    simp only [↓reduceIte]
    refine ev_bind (fun k => rfl) ?_ (ev_now fun k => rfl)
    unfold spec_l05Principal.f
    have := fold u.length (fun i s k => spec_l05Principal.l0 k p s i g m u) (fun j => (u.take j).map G) (fun j hj r h => by
      have hw : wrap64 ((j : Int) + 1) = ((j + 1 : Nat) : Int) := by rw [w64 (by omega) (by omega)]; omega
      have j1 : (j : Int) < u.length := by omega
      have j0 : (0 : Int) ≤ j := by omega
      have j2 : (j : Int) < g.length := by omega
      obtain ⟨f1, f2, f3, f4, f5, f6⟩ := fact j j0 j1
      have hmod := ev_Mod (a := rd u j * p - p) (m := m) (by omega) (by omega) (by omega) (by omega)
      have l1 : ((u.take j).map G).length < 17592186044416 := by rw [List.length_map, List.length_take]; omega
      have e : rd u (j : Int) = u[j] := by simp [rd, List.getD_eq_getElem?_getD, List.getElem?_eq_getElem hj]
      refine Ev.step (fun k => ?_) h
      simp only [spec_l05Principal.l0, spec_l01N.f, Option.bind_some, j2, j0, j1, l1, hw, f1, f2, hmod, ↓reduceIte]
      rw [List.take_succ_eq_append_getElem hj, List.map_append, e]; rfl) (u.map G)
      (ev_step_now fun k => by simp only [spec_l05Principal.l0, spec_l01N.f, Option.bind_some, hlu, Int.lt_irrefl, ↓reduceIte]; simp [← hlu])
    simpa using this
  · rw [B_pos (allIn_one p0 p1)] at ai
    unfold impl_PrincipalMap.f
    refine ev_bind (fun k => rfl) cI ?_
    simp only [↓reduceIte]
    refine ev_bind (fun k => rfl) ai ?_
    simp only [↓reduceIte]
    refine ev_bind (fun k => rfl) ?_ (ev_now fun k => rfl)
    unfold impl_principalMap.f
    refine ev_bind (fun k => rfl) (ev_mapped (G := G) u (by omega) fun i i0 i1 => ?_) (ev_now fun k => rfl)
    obtain ⟨f1, f2, f3, f4, f5, f6⟩ := fact i i0 i1
    unfold impl_principalMap_1.f
    simp only [show ¬ m = 0 by omega, ↓reduceIte, f1, f3, f4]
    rw [tmod_nn (by omega), show rd u i * p + m - p = (rd u i * p - p) + m by omega, Int.add_emod_right]
end Go.Proofs.Ytfablaokggnioaa.U
set_option linter.unusedVariables false
set_option linter.unusedSimpArgs false
set_option maxRecDepth 10000
namespace Go.Proofs.Ytfablaokggnioaa.Pure
open Go.RowKit Go.Proofs.YtfablaokggnioaaW.PrintWords Go.Proofs.YtfablaokggnioaaW.PrintLast Go.Proofs.YtfablaokggnioaaW.PrintMore Go.Proofs.Ytfablaokggnioaa.Pa Go.Proofs.Ytfablaokggnioaa.U
theorem FnExactPrincipalMap_pure : ∀ (g0 : List (List Int)) (m1 : Int) (u1 : List Int) (a2 : Int), g0.length ≤ maxLen → (∀ r ∈ g0, r.length ≤ maxLen ∧ ∀ x ∈ r, (Lit.int .i64 x).wf = true) → (Lit.int .i64 m1).wf = true → u1.length ≤ maxLen → (∀ x ∈ u1, (Lit.int .i64 x).wf = true) → (Lit.int .i64 a2).wf = true → ∃ k, laws_FnExactPrincipalMap.f k g0 m1 u1 a2 = some true := by
  intro g0 m1 u1 a2 hl0 hr0' hw1 hu1 hx1 hw2
  have hr0 : ∀ r ∈ g0, r.length ≤ maxLen := fun r h => (hr0' r h).1
  apply Ev.rounds
  unfold laws_FnExactPrincipalMap.f
  obtain ⟨t1, ht_, ht1⟩ := ev_szGroup g0 1048576 hl0 hr0 (by omega) (by omega)
  refine ev_bind (fun k => rfl) ht_ ?_
  rcases ht1 with ht1 | ⟨t1a, t1b, gl0, gr0⟩
  · exact ev_now fun k => by simp only [ht1, ↓reduceIte]
  refine ev_neg (show ¬ t1 < 0 by omega) ?_
  obtain ⟨t2, ht_, ht2⟩ := ev_szModule m1 u1 t1 hu1 (by omega) (by omega)
  refine ev_bind (fun k => rfl) ht_ ?_
  rcases ht2 with ht2 | ⟨t2a, t2b, hs1⟩
  · exact ev_now fun k => by simp only [ht2, ↓reduceIte]
  refine ev_neg (show ¬ t2 < 0 by omega) ?_
  refine ev_bind (fun k => rfl) (ev_toGroup g0 gl0 gr0) ?_
  refine ev_bind (fun k => rfl) (ev_toModule m1 u1 hs1) ?_
  obtain ⟨R0, R1, hS, hI, hR0⟩ := same_PrincipalMap g0 m1 u1 a2 hl0 hr0 hu1
  refine ev_bind (fun k => rfl) hS ?_
  refine ev_bind (fun k => rfl) (ev_toGroup g0 gl0 gr0) ?_
  refine ev_bind (fun k => rfl) (ev_toModule m1 u1 hs1) ?_
  refine ev_bind (fun k => rfl) hI ?_
  refine ev_bind (fun k => rfl) (same_Ints R0 (le_maxLen (by omega))) ?_
  refine ev_pos rfl ?_
  refine ev_pos (by first | rfl | omega) ?_
  refine ev_bind (fun k => rfl) (ev_toGroup g0 gl0 gr0) ?_
  refine ev_bind (fun k => rfl) (same_Group g0 hl0 hr0) ?_
  refine ev_pos rfl ?_
  refine ev_bind (fun k => rfl) (ev_toModule m1 u1 hs1) ?_
  refine ev_bind (fun k => rfl) (same_Module m1 u1 hu1) ?_
  refine ev_pos rfl ?_
  have hm19_ := tot_small gl0 gr0
  have mk19_ : Ev (fun k => laws_markGroup.f k g0 1) (1 + ((tot g0 : Nat) : Int), (MkSS 1 g0)) := by unfold laws_markGroup.f; exact ev_bind (fun k => rfl) (ev_markSS g0 1 (by omega) (by omega) (by omega)) (ev_now fun k => rfl)
  refine ev_bind (fun k => rfl) (mk19_) ?_
  have mk20_ : Ev (fun k => laws_markModule.f k m1 u1 (1 + ((tot g0 : Nat) : Int))) ((1 + ((tot g0 : Nat) : Int)) + ((u1.length : Nat) : Int), (MkS (1 + ((tot g0 : Nat) : Int)) u1.length)) := by unfold laws_markModule.f; exact ev_bind (fun k => rfl) (ev_markS u1 (1 + ((tot g0 : Nat) : Int)) (by omega) (by omega)) (ev_now fun k => rfl)
  refine ev_bind (fun k => rfl) (mk20_) ?_
  refine ev_bind (fun k => rfl) (same_Ints R0 (le_maxLen (by omega))) ?_
  refine ev_neg (show ¬ (((1 + ((tot g0 : Nat) : Int)) + ((u1.length : Nat) : Int)) < 0) by omega) ?_
  refine ev_pos rfl ?_
  refine ev_pos (by first | rfl | omega) ?_
  refine ev_bind (fun k => rfl) (ev_markS R0 1 (by omega) (by omega)) ?_
  refine ev_bind (fun k => rfl) (ev_heldS 1 R0.length (by omega) (by omega)) ?_
  refine ev_neg (show ¬ ((1 + ((R0.length : Nat) : Int)) < 0) by omega) ?_
  refine ev_pos (by first | rfl | omega) ?_
  refine ev_bind (fun k => rfl) (ev_toGroup g0 gl0 gr0) ?_
  refine ev_bind (fun k => rfl) (ev_toModule m1 u1 hs1) ?_
  refine ev_bind (fun k => rfl) hI ?_
  refine ev_bind (fun k => rfl) (same_Ints R0 (le_maxLen (by omega))) ?_
  refine ev_pos rfl ?_
  refine ev_pos (by first | rfl | omega) ?_
  refine ev_bind (fun k => rfl) (ev_heldS 1 R0.length (by omega) (by omega)) ?_
  refine ev_neg (show ¬ ((1 + ((R0.length : Nat) : Int)) < 0) by omega) ?_
  refine ev_pos (by first | rfl | omega) ?_
  exact ev_now fun k => rfl
end Go.Proofs.Ytfablaokggnioaa.Pure
set_option linter.unusedVariables false
namespace Go.Proofs.YtfablaokggnioaaW.PrintWords
open Go.RowKit Go.ChangeShapes Go.WideShapes Go.Joins Go.Deep
section
variable {H : Type} {enc : TypeId × Value → H} {P : Program} {w : World} {base : Nat} {held : Bool}
theorem C_of_row {k : IntKind} {a : Option Addr} {len cap : Nat} {zs : List Int} (h : (a = none ∧ len = 0 ∧ cap = 0 ∧ zs = []) ∨ ∃ x, a = some x ∧ len ≤ cap ∧ cap ≤ maxLen ∧ zs.length = cap ∧ (∀ i, i < zs.length → w.cell? (x.add i) = some (.int k (zs.getD i 0))) ∧ ∀ n ∈ zs, (Lit.int k n).wf = true) :
    ∃ l : List Int, len = l.length ∧ Kd.C (Kd.int k) w a l.length l ∧ l.length ≤ maxLen ∧ (∀ x ∈ l, (Lit.int k x).wf = true) ∧ l.length ≤ cap := by
  obtain ⟨l, e, h1, h2, h3, h4⟩ := ReadsInt.ofRowC h
  exact ⟨l, e, Kd.C_of_reads (d := (0 : Int)) (h1 := fun _ => rfl) h1, h2, h3, h4⟩
theorem came_ints {t e : TypeId} {k : IntKind} {fuel : Nat} {v : Value} {x : DataW H × List MemPlace} (ht : P.underlying t = some (.slice e)) (he : P.underlying e = some (.int k)) (hc : P.cellsOf e = 1)
    (h : DataW.trod enc P w base (fun _ => true) held fuel t [v] = some x) :
    ∃ (A : Option Addr) (c : Nat) (l : List Int), v = .slice A l.length c ∧ l.length ≤ c ∧ Kd.C (Kd.int k) w A l.length l ∧ l.length ≤ maxLen ∧ (∀ x ∈ l, (Lit.int k x).wf = true) := by
  rcases open_ints ht he hc h with ⟨hcs, _⟩ | ⟨a, len, cap, zs, hcs, _, hl, hm, hz, _, hcell, hw⟩
  · obtain ⟨l, e1, h1, h2, h3, h4⟩ := C_of_row (w := w) (k := k) (a := none) (len := 0) (cap := 0) (zs := []) (.inl ⟨rfl, rfl, rfl, rfl⟩)
    have hv : v = .slice none 0 0 := by simpa using hcs
    exact ⟨none, 0, l, by rw [hv, ← e1], h4, h1, h2, h3⟩
  · simp only [if_true] at hz
    obtain ⟨l, e1, h1, h2, h3, h4⟩ := C_of_row (w := w) (k := k) (a := some a) (len := len) (cap := cap) (zs := zs) (.inr ⟨a, rfl, hl, hm, hz, hcell, hw⟩)
    have hv : v = .slice (some a) len cap := by simpa using hcs
    exact ⟨some a, cap, l, by rw [hv, ← e1], h4, h1, h2, h3⟩
theorem came_rows {t e q : TypeId} {k : IntKind} {fuel : Nat} {v : Value} {x : DataW H × List MemPlace} (ht : P.underlying t = some (.slice e)) (he : P.underlying e = some (.slice q)) (hq : P.underlying q = some (.int k))
    (ce : P.cellsOf e = 1) (cq : P.cellsOf q = 1) (h : DataW.trod enc P w base (fun _ => true) held fuel t [v] = some x) :
    ∃ (A : Option Addr) (c : Nat) (l : List (List Int)), v = .slice A l.length c ∧ l.length ≤ c ∧ Kd.C (Kd.slice q (Kd.int k)) w A l.length l ∧ l.length ≤ maxLen ∧ (∀ r ∈ l, r.length ≤ maxLen ∧ ∀ x ∈ r, (Lit.int k x).wf = true) := by
  rcases open_int_rows ht he hq ce cq h with ⟨hcs, _⟩ | ⟨a, len, cap, A, L, C, Z, hcs, _, hl, hm, _, hr⟩
  · refine ⟨none, 0, [], by simpa using hcs, Nat.le_refl _, ⟨rfl, by simp, fun hn => absurd hn (by simp)⟩, by simp, by simp⟩
  · have hv : v = .slice (some a) len cap := by simpa using hcs
    have each : ∀ r, r < cap → ∃ y : List Int, L r = y.length ∧ Kd.C (Kd.int k) w (A r) y.length y ∧ y.length ≤ maxLen ∧ (∀ x ∈ y, (Lit.int k x).wf = true) ∧ y.length ≤ C r := by
      intro r hrc
      obtain ⟨_, h1, h2, h3, h4, h5, h6⟩ := hr r hrc
      cases hA : A r with
      | none =>
        have hC := h5 hA
        exact C_of_row (w := w) (k := k) (a := none) (len := L r) (cap := C r) (zs := Z r) (.inl ⟨rfl, by omega, hC, List.eq_nil_of_length_eq_zero (by omega)⟩)
      | some a' => exact C_of_row (w := w) (k := k) (a := some a') (len := L r) (cap := C r) (zs := Z r) (.inr ⟨a', rfl, h1, h2, h3, fun i hi => (h6 a' hA).2 i (by omega), h4⟩)
    obtain ⟨Y, hY⟩ := choose_lt each
    refine ⟨some a, cap, (List.range len).map Y, by rw [hv]; simp, by simpa using hl, ⟨rfl, by simp only [maxLen] at hm; simp; omega, fun _ => ⟨a, rfl, fun j p hj => ?_⟩⟩, by simpa using Nat.le_trans hl hm, fun r hr' => ?_⟩
    · have hjl : j < len := by
        have := (List.getElem?_eq_some_iff.1 hj).1
        simpa using this
      have hp : p = Y j := by simpa [hjl] using hj.symm
      subst hp
      obtain ⟨e1, h1, h2, h3, h4⟩ := hY j (by omega)
      refine ⟨[.slice (A j) (Y j).length (C j)], rfl, ⟨A j, C j, rfl, h4, h1⟩, fun i u hu => ?_⟩
      cases i with
      | zero =>
        simp only [List.getElem?_cons_zero, Option.some.injEq] at hu
        subst hu
        have := (hr j (by omega)).1
        rw [e1] at this
        simpa [Kd.slice] using this
      | succ i => simp at hu
    · obtain ⟨j, hj, rfl⟩ := List.mem_map.1 hr'
      obtain ⟨e1, h1, h2, h3, h4⟩ := hY j (by have := List.mem_range.1 hj; omega)
      exact ⟨h2, h3⟩
theorem came_int {t : TypeId} {k : IntKind} {fuel : Nat} {v : Value} {x : DataW H × List MemPlace} (ht : P.underlying t = some (.int k)) (h : DataW.trod enc P w base (fun _ => true) held fuel t [v] = some x) : ∃ n, v = .int k n ∧ (Lit.int k n).wf = true := by
  obtain ⟨n, h1, _, h2⟩ := DataW.trod_int ht h
  exact ⟨n, by simpa using h1, h2⟩
theorem open_agg1 {r : Reach} {b0 : Nat} {t : TypeId} {f0 : Field} {v : Value} {d : DataW H} {p : List MemPlace} {spare : Nat → Bool} (hs : P.underlying t = some (.struct #[f0])) (hone : oneCellFields P #[f0] = true) (hC : P.cellsOf t = 1)
    (hv : Value.okWide P w r b0 t v) (h : DataW.Trod enc P w base spare held t v d p) :
    ∃ (v0 : Value) (y0 : DataW H × List MemPlace) (n : Nat), v = .agg #[v0] ∧ DataW.trod enc P w base spare held n f0.type [v0] = some y0 := by
  obtain ⟨cs, rfl, hsz⟩ := okWide_struct hs hv
  have hsz1 : cs.size = 1 := hsz.trans hC
  obtain ⟨c0, rfl⟩ : ∃ c0, cs = #[c0] := by
    obtain ⟨l⟩ := cs
    match l, hsz1 with
    | [c0], _ => exact ⟨c0, rfl⟩
  obtain ⟨fuel, hf⟩ := h
  obtain ⟨y0, n, hx, _, h0⟩ := trod_struct1 hs hf
  obtain ⟨o0, k0⟩ := hone_of hone 0 f0 rfl
  exact ⟨c0, y0, n, rfl, by simpa [Value.cells, o0, k0] using h0⟩
end
end Go.Proofs.YtfablaokggnioaaW.PrintWords
namespace Go.Proofs.YtfablaokggnioaaW.PrintWords
open Go.ChangeShapes Go.WideShapes
end Go.Proofs.YtfablaokggnioaaW.PrintWords
