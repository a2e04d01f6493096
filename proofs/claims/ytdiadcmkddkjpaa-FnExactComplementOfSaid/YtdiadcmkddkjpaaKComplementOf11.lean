/- What the proof of the law ComplementOf stands on, part 11: words, each Go function's Lean function, and that the Go code comes to its answers; no condition. (Packed by wip/myprint/pack.py out of what the kit's printer wrote, its words among it, partly by our patches of it, and out of texts of this session.) -/
import Derived.ChangeSlices
import Derived.ChangeSame
import Derived.Deep.Matrix
import Derived.Lib.SmallJoins
import Derived.SizedLaws
import Derived.Test.YtdiadcmkddkjpaaKComplementOf0
import Derived.Test.YtdiadcmkddkjpaaKComplementOf1
import Derived.Test.YtdiadcmkddkjpaaKComplementOf2
import Derived.Test.YtdiadcmkddkjpaaKComplementOf3
import Derived.Test.YtdiadcmkddkjpaaKComplementOf4
import Derived.Test.YtdiadcmkddkjpaaKComplementOf5
import Derived.Test.YtdiadcmkddkjpaaKComplementOf6
import Derived.Test.YtdiadcmkddkjpaaKComplementOf7
import Derived.Test.YtdiadcmkddkjpaaKComplementOf8
import Derived.Test.YtdiadcmkddkjpaaKComplementOf9
import Derived.Test.YtdiadcmkddkjpaaKComplementOf10
set_option linter.unusedVariables false
set_option linter.unusedSimpArgs false
namespace Go.Proofs.Ytdiadcmkddkjpaa.U
open Go.RowKit Go.Proofs.YtdiadcmkddkjpaaW.PrintWords Go.Proofs.YtdiadcmkddkjpaaW.PrintLast Go.Proofs.YtdiadcmkddkjpaaW.PrintMore Go.Proofs.Ytdiadcmkddkjpaa.Pa
theorem ev_In (x lo hi : Int) : Ev (fun _ => spec_l01In.f x lo hi) (B (lo ≤ x ∧ x ≤ hi)) := by
  refine ev_now fun k => ?_
  unfold spec_l01In.f
  by_cases h : x ≥ lo
  · rw [if_pos h, B_decide, B_congr (show x ≤ hi ↔ (lo ≤ x ∧ x ≤ hi) from ⟨fun h' => ⟨h, h'⟩, fun h' => h'.2⟩)]
  · rw [if_neg h, B_neg (fun h' => h h'.1)]
def LawS (g : List (List Int)) (a : Int) : Prop := T g 0 a = a ∧ T g a 0 = a ∧ (∀ b : Int, 0 ≤ b → b < g.length → ∀ c : Int, 0 ≤ c → c < g.length → T g (T g a b) c = T g a (T g b c)) ∧ ∃ b : Int, 0 ≤ b ∧ b < g.length ∧ T g a b = 0 ∧ T g b a = 0
theorem grp_iffS (g : List (List Int)) : Grp g ↔ (1 ≤ g.length ∧ g.length ≤ 8) ∧ Tab g ∧ ∀ a : Int, 0 ≤ a → a < g.length → LawS g a := by
  rw [grp_iff]
  constructor
  · intro h
    have hg := (grp_iff g).2 h
    refine ⟨h.1, h.2.1, fun a a0 a1 => ?_⟩
    obtain ⟨h1, h2, _, h4⟩ := h.2.2 a a0 a1
    exact ⟨h1, h2, h4, hg.inv2 a0 a1⟩
  · rintro ⟨h1, h2, h3⟩
    refine ⟨h1, h2, fun a a0 a1 => ?_⟩
    obtain ⟨k1, k2, k3, b, b0, b1, hb, _⟩ := h3 a a0 a1
    exact ⟨k1, k2, ⟨b, b0, b1, hb⟩, k3⟩
theorem ev_Is (g : List (List Int)) (hl : g.length ≤ maxLen) : Ev (fun k => spec_l01Is.f k g) (B (Grp g)) := by
  have hm := maxLen_le
  rw [B_congr (grp_iffS g)]
  unfold spec_l01Is.f
  refine ev_bind (fun k => rfl) (ev_In _ _ _) ?_
  by_cases c1 : 1 ≤ (g.length : Int) ∧ (g.length : Int) ≤ 8
  rotate_left
  · rw [B_neg c1, B_neg fun h => c1 (by omega)]
    exact ev_now fun k => by simp
  rw [B_pos c1]
  simp only [↓reduceIte]
  rw [B_congr (show ((1 ≤ g.length ∧ g.length ≤ 8) ∧ Tab g ∧ ∀ a : Int, 0 ≤ a → a < g.length → LawS g a) ↔ (Tab g ∧ ∀ a : Int, 0 ≤ a → a < g.length → LawS g a) from ⟨fun h => h.2, fun h => ⟨by omega, h⟩⟩)]
  have hpos : (0 : Int) < g.length := by omega
  refine scanB g.length (fun i k => spec_l01Is.l0 k (g.length : Int) i g) (fun a => (rd_Li64 g a).length = g.length ∧ AllIn g.length (rd_Li64 g a)) (∀ a : Int, 0 ≤ a → a < g.length → LawS g a) (fun a a0 a1 _ => ?_) (fun ht => ?_)
  · have hwa : wrap64 (a + 1) = a + 1 := w64s a0 a1 (by omega)
    by_cases h2 : ((rd_Li64 g a).length : Int) = g.length
    · have inner := scan g.length (fun b k => spec_l01Is.l1 k (g.length : Int) a b g) (fun b => 0 ≤ rd (rd_Li64 g a) b ∧ rd (rd_Li64 g a) b < g.length) false (fun b b0 b1 _ => by
        have hwb : wrap64 (b + 1) = b + 1 := w64s b0 b1 (by omega)
        have hw1 : wrap64 ((g.length : Int) - 1) = g.length - 1 := w64 (by omega) (by omega)
        have hin := ev_In (rd (rd_Li64 g a) b) 0 (wrap64 ((g.length : Int) - 1))
        rw [B_congr (show (0 ≤ rd (rd_Li64 g a) b ∧ rd (rd_Li64 g a) b ≤ wrap64 ((g.length : Int) - 1)) ↔ (0 ≤ rd (rd_Li64 g a) b ∧ rd (rd_Li64 g a) b < g.length) by rw [hw1]; omega)] at hin
        by_cases h3 : 0 ≤ rd (rd_Li64 g a) b ∧ rd (rd_Li64 g a) b < g.length
        · rw [B_pos h3] at hin
          refine .inl ⟨h3, fun r h => ev_step_bind (fun k => by simp only [spec_l01Is.l1, a0, a1, b0, b1, h2, ↓reduceIte]; rfl) hin ?_⟩
          simp only [hwb, ↓reduceIte]; exact h
        · rw [B_neg h3] at hin
          refine .inr ⟨h3, ev_step_bind (fun k => by simp only [spec_l01Is.l1, a0, a1, b0, b1, h2, ↓reduceIte]; rfl) hin ?_⟩
          exact ev_now fun k => by simp)
      rcases inner with ⟨h5, h6⟩ | ⟨⟨b, b0, b1, h5⟩, h6⟩
      · exact .inl ⟨⟨by omega, fun i i0 i1 => h5 i i0 (by omega)⟩, fun r h => Ev.step (fun k => by simp only [spec_l01Is.l0, a0, a1, h2, ↓reduceIte]) (h6 r (Ev.step (fun k => by simp only [spec_l01Is.l1, Int.lt_irrefl, hwa, ↓reduceIte]) h))⟩
      · exact .inr ⟨fun h => h5 (h.2 b b0 (by omega)), Ev.step (fun k => by simp only [spec_l01Is.l0, a0, a1, h2, ↓reduceIte]) h6⟩
    · exact .inr ⟨fun h => h2 (by omega), ev_step_now fun k => by simp only [spec_l01Is.l0, a0, a1, h2, ↓reduceIte]⟩
  · refine Ev.step (f := fun k => spec_l01Is.l2 k (g.length : Int) 0 g) (fun k => by simp only [spec_l01Is.l0, Int.lt_irrefl, ↓reduceIte]) ?_
    refine scanT g.length (fun i k => spec_l01Is.l2 k (g.length : Int) i g) (LawS g) (fun a a0 a1 _ => ?_) (fun _ => ev_step_now fun k => by simp only [spec_l01Is.l2, Int.lt_irrefl, ↓reduceIte])
    have hlen : ∀ x : Int, 0 ≤ x → x < g.length → ((rd_Li64 g x).length : Int) = g.length := fun x x0 x1 => by rw [(ht x x0 x1).1]
    have hent : ∀ x y : Int, 0 ≤ x → x < g.length → 0 ≤ y → y < g.length → 0 ≤ rd (rd_Li64 g x) y ∧ rd (rd_Li64 g x) y < g.length := fun x y x0 x1 y0 y1 => (ht x x0 x1).2 y y0 (by rw [hlen x x0 x1]; exact y1)
    have l0 := hlen 0 (by omega) hpos
    have la := hlen a a0 a1
    have hwa : wrap64 (a + 1) = a + 1 := w64s a0 a1 (by omega)
    have bad : Ev (fun k => spec_l01Is.j3 k (g.length : Int) a true g) false := ev_step_now fun k => by simp only [spec_l01Is.j3, ↓reduceIte]
    by_cases h2 : rd (rd_Li64 g 0) a = a
    rotate_left
    · exact .inr ⟨fun h => h2 h.1, Ev.step (fun k => by simp only [spec_l01Is.l2, a0, a1, hpos, l0, h2, ↓reduceIte]) bad⟩
    by_cases h3 : rd (rd_Li64 g a) 0 = a
    rotate_left
    · have h3' : (rd (rd_Li64 g a) 0 != a) = true := by simpa using h3
      exact .inr ⟨fun h => h3 h.2.1, Ev.step (fun k => by simp only [spec_l01Is.l2, a0, a1, hpos, l0, la, h2, h3', ↓reduceIte]) bad⟩
    have h3' : (rd (rd_Li64 g a) 0 != a) = false := by simpa using h3
    let Fd : Int → Prop := fun b => ∃ j : Int, 0 ≤ j ∧ j < b ∧ T g a j = 0 ∧ T g j a = 0
    have st : ∀ r, Ev (fun k => spec_l01Is.l3 k (g.length : Int) a (B (Fd 0)) 0 g) r → Ev (fun k => spec_l01Is.l2 k (g.length : Int) a g) r := fun r h => by
      rw [B_neg (show ¬ Fd 0 from fun ⟨j, j0, j1, _⟩ => by omega)] at h
      refine Ev.step (fun k => by simp only [spec_l01Is.l2, a0, a1, hpos, l0, la, h2, h3', ↓reduceIte]; rfl) ?_
      exact Ev.step (fun k => by simp only [spec_l01Is.j3, Bool.false_eq_true, ↓reduceIte]) h
    have inner := scan g.length (fun b k => spec_l01Is.l3 k (g.length : Int) a (B (Fd b)) b g) (fun b => ∀ c : Int, 0 ≤ c → c < g.length → T g (T g a b) c = T g a (T g b c)) false (fun b b0 b1 _ => by
      have hwb : wrap64 (b + 1) = b + 1 := w64s b0 b1 (by omega)
      obtain ⟨e0, e1⟩ := hent a b a0 a1 b0 b1
      have le := hlen _ e0 e1
      have lb := hlen b b0 b1
      have toj : ∀ r, Ev (fun k => spec_l01Is.j5 k (g.length : Int) a (B (Fd (b + 1))) b g) r → Ev (fun k => spec_l01Is.l3 k (g.length : Int) a (B (Fd b)) b g) r := fun r h => by
        by_cases k1 : Fd b
        · rw [B_pos k1]
          rw [B_pos (show Fd (b + 1) from by obtain ⟨j, j0, j1, h⟩ := k1; exact ⟨j, j0, by omega, h⟩)] at h
          exact Ev.step (fun k => by simp only [spec_l01Is.l3, b1, ↓reduceIte]) h
        · rw [B_neg k1]
          by_cases k2 : rd (rd_Li64 g a) b = 0
          · have e : B (Fd (b + 1)) = (rd (rd_Li64 g b) a == 0) := by
              by_cases k3 : rd (rd_Li64 g b) a = 0
              · rw [B_pos ⟨b, b0, by omega, k2, k3⟩]; simp [k3]
              · rw [B_neg]
                · simp [k3]
                · rintro ⟨j, j0, j1, ja, jb⟩
                  by_cases ej : j = b
                  · subst ej; exact k3 jb
                  · exact k1 ⟨j, j0, by omega, ja, jb⟩
            rw [e] at h
            exact Ev.step (fun k => by simp only [spec_l01Is.l3, a0, a1, b0, b1, la, lb, k2, Bool.false_eq_true, ↓reduceIte]) h
          · rw [B_neg (show ¬ Fd (b + 1) from by
              rintro ⟨j, j0, j1, ja, jb⟩
              by_cases ej : j = b
              · subst ej; exact k2 ja
              · exact k1 ⟨j, j0, by omega, ja, jb⟩)] at h
            exact Ev.step (fun k => by simp only [spec_l01Is.l3, a0, a1, b0, b1, la, k2, Bool.false_eq_true, ↓reduceIte]) h
      have inner4 := scan g.length (fun c k => spec_l01Is.l4 k (g.length : Int) a (B (Fd (b + 1))) b c g) (fun c => T g (T g a b) c = T g a (T g b c)) false (fun c c0 c1 _ => by
        have hwc : wrap64 (c + 1) = c + 1 := w64s c0 c1 (by omega)
        obtain ⟨f0, f1⟩ := hent b c b0 b1 c0 c1
        by_cases h5 : rd (rd_Li64 g (rd (rd_Li64 g a) b)) c = rd (rd_Li64 g a) (rd (rd_Li64 g b) c)
        · exact .inl ⟨h5, fun r h => Ev.step (fun k => by simp only [spec_l01Is.l4, a0, a1, b0, b1, c0, c1, e0, e1, f0, f1, la, lb, le, h5, hwc, ↓reduceIte]) h⟩
        · exact .inr ⟨h5, ev_step_now fun k => by simp only [spec_l01Is.l4, a0, a1, b0, b1, c0, c1, e0, e1, f0, f1, la, lb, le, h5, ↓reduceIte]⟩)
      rcases inner4 with ⟨h5, h6⟩ | ⟨⟨c, c0, c1, h5⟩, h6⟩
      · exact .inl ⟨h5, fun r h => toj r (Ev.step (fun k => by simp only [spec_l01Is.j5]) (h6 r (Ev.step (fun k => by simp only [spec_l01Is.l4, Int.lt_irrefl, hwb, ↓reduceIte]) h)))⟩
      · exact .inr ⟨fun h => h5 (h c c0 c1), toj _ (Ev.step (fun k => by simp only [spec_l01Is.j5]) h6)⟩)
    rcases inner with ⟨h5, h6⟩ | ⟨⟨b, b0, b1, h5⟩, h6⟩
    · by_cases h7 : Fd g.length
      · rw [B_pos h7] at h6
        exact .inl ⟨⟨h2, h3, h5, h7⟩, fun r h => st r (h6 r (Ev.step (fun k => by simp only [spec_l01Is.l3, Int.lt_irrefl, hwa, ↓reduceIte]) h))⟩
      · rw [B_neg h7] at h6
        exact .inr ⟨fun h => h7 h.2.2.2, st _ (h6 _ (ev_step_now fun k => by simp only [spec_l01Is.l3, Int.lt_irrefl, Bool.false_eq_true, ↓reduceIte]))⟩
    · exact .inr ⟨fun h => h5 (h.2.2.1 b b0 b1), st _ h6⟩
end Go.Proofs.Ytdiadcmkddkjpaa.U
set_option linter.unusedVariables false
set_option linter.unusedSimpArgs false
namespace Go.Proofs.Ytdiadcmkddkjpaa.U
open Go.RowKit Go.Proofs.YtdiadcmkddkjpaaW.PrintWords Go.Proofs.YtdiadcmkddkjpaaW.PrintLast Go.Proofs.YtdiadcmkddkjpaaW.PrintMore Go.Proofs.Ytdiadcmkddkjpaa.Pa
theorem ev_gcd0 (y : Nat) : ∀ x : Nat, Ev (fun k => impl_gcd.l0 k (x : Int) (y : Int)) ((Nat.gcd x y : Nat) : Int) := by
  induction y using Nat.strongRecOn with
  | _ y ih =>
    intro x
    by_cases h : y = 0
    · subst h
      exact ev_step_now fun k => by simp [impl_gcd.l0]
    · have h' : ¬ ((y : Int) = 0) := by omega
      have e : Int.tmod (x : Int) (y : Int) = ((x % y : Nat) : Int) := by rw [Int.ofNat_tmod]
      have := ih (x % y) (Nat.mod_lt _ (by omega)) y
      rw [show Nat.gcd y (x % y) = Nat.gcd x y by rw [Nat.gcd_comm x y, Nat.gcd_rec y x, Nat.gcd_comm]] at this
      exact Ev.step (fun k => by simp only [impl_gcd.l0, h', e, ↓reduceIte]) this
theorem ev_gcd {a b : Int} (ha : 0 ≤ a) (hb : 0 ≤ b) : Ev (fun k => impl_gcd.f k a b) ((Int.gcd a b : Nat) : Int) := by
  obtain ⟨x, rfl⟩ := Int.eq_ofNat_of_zero_le ha
  obtain ⟨y, rfl⟩ := Int.eq_ofNat_of_zero_le hb
  have := ev_gcd0 y x
  unfold impl_gcd.f
  simpa [Int.gcd] using this
theorem ev_Gcd0 (y : Nat) : ∀ x : Nat, x ≤ 9223372036854775807 → y ≤ 9223372036854775807 → Ev (fun k => spec_l01Gcd.l0 k (x : Int) (y : Int)) ((Nat.gcd x y : Nat) : Int) := by
  induction y using Nat.strongRecOn with
  | _ y ih =>
    intro x hx hy
    by_cases h : y = 0
    · subst h
      refine ev_step_now fun k => ?_
      have hw : wrap64 (-(x : Int)) = -(x : Int) := w64 (by omega) (by omega)
      have hm : mx (x : Int) (-(x : Int)) = x := by unfold mx; split <;> omega
      simp [spec_l01Gcd.l0, hw, hm]
    · have h' : ¬ ((y : Int) = 0) := by omega
      have e : Int.tmod (x : Int) (y : Int) = ((x % y : Nat) : Int) := by rw [Int.ofNat_tmod]
      have hlt := Nat.mod_lt x (show y > 0 by omega)
      have := ih (x % y) hlt y hy (by omega)
      rw [show Nat.gcd y (x % y) = Nat.gcd x y by rw [Nat.gcd_comm x y, Nat.gcd_rec y x, Nat.gcd_comm]] at this
      exact Ev.step (fun k => by simp only [spec_l01Gcd.l0, h', e, ↓reduceIte]) this
theorem ev_Gcd {a b : Int} (ha : 0 ≤ a) (hb : 0 ≤ b) (ha' : a ≤ 9223372036854775807) (hb' : b ≤ 9223372036854775807) : Ev (fun k => spec_l01Gcd.f k a b) ((Int.gcd a b : Nat) : Int) := by
  obtain ⟨x, rfl⟩ := Int.eq_ofNat_of_zero_le ha
  obtain ⟨y, rfl⟩ := Int.eq_ofNat_of_zero_le hb
  have := ev_Gcd0 y x (by omega) (by omega)
  unfold spec_l01Gcd.f
  simpa [Int.gcd] using this
theorem ev_times0 {g : List (List Int)} (hg : Grp g) (xs : List Int) (hx : AllIn g.length xs) (hl : xs.length ≤ maxLen) :
    ∀ (d m : Nat) (x : Int), m + d = xs.length → 0 ≤ x → x < g.length → Ev (fun k => impl_Group_times.l0 k x xs (xs.length : Int) (m : Int) g) ((xs.drop m).foldl (T g) x) := by
  have hm := maxLen_le
  intro d
  induction d with
  | zero =>
    intro m x hd x0 x1
    obtain rfl : m = xs.length := by omega
    rw [List.drop_length]
    exact ev_step_now fun k => by simp only [impl_Group_times.l0, Int.lt_irrefl, ↓reduceIte, List.foldl_nil]
  | succ d ih =>
    intro m x hd x0 x1
    have m1 : (m : Int) < xs.length := by omega
    have m0 : (0 : Int) ≤ m := by omega
    obtain ⟨y0, y1⟩ := hx m m0 m1
    have hw : wrap64 ((m : Int) + 1) = ((m + 1 : Nat) : Int) := by rw [w64s m0 m1 (by omega)]; omega
    have hr : ((rd_Li64 g x).length : Int) = g.length := by rw [hg.row x x0 x1]
    obtain ⟨z0, z1⟩ := hg.ent x (rd xs m) x0 x1 y0 y1
    have e : xs.drop m = rd xs m :: xs.drop (m + 1) := by
      rw [List.drop_eq_getElem_cons (by omega)]
      simp [rd, List.getD_eq_getElem?_getD, List.getElem?_eq_getElem (show m < xs.length by omega)]
    rw [e, List.foldl_cons]
    refine Ev.step (fun k => by simp only [impl_Group_times.l0, m1, m0, x0, x1, y0, hr, y1, hw, ↓reduceIte]; rfl) (ih (m + 1) _ (by omega) z0 z1)
theorem ev_times {g : List (List Int)} (hg : Grp g) (xs : List Int) (hx : AllIn g.length xs) (hl : xs.length ≤ maxLen) : Ev (fun k => impl_Group_times.f k g xs) (xs.foldl (T g) 0) := by
  unfold impl_Group_times.f
  simpa using ev_times0 hg xs hx hl xs.length 0 0 (by omega) (by omega) (by have := hg.n1; omega)
theorem allIn_two {n x y : Int} (h0 : 0 ≤ x) (h1 : x < n) (h2 : 0 ≤ y) (h3 : y < n) : AllIn n [x, y] := by
  intro i i0 i1
  have : i = 0 ∨ i = 1 := by simp at i1; omega
  rcases this with rfl | rfl <;> simp [rd, *]
theorem ev_times2 {g : List (List Int)} (hg : Grp g) {x y : Int} (x0 : 0 ≤ x) (x1 : x < g.length) (y0 : 0 ≤ y) (y1 : y < g.length) : Ev (fun k => impl_Group_times.f k g [x, y]) (T g x y) := by
  have := ev_times hg [x, y] (allIn_two x0 x1 y0 y1) (by unfold maxLen; simp)
  simpa [hg.one x x0 x1] using this
structure Mdl (g : List (List Int)) (m : Int) (u : List Int) : Prop where
  m2 : 2 ≤ m
  m12 : m ≤ 12
  len : u.length = g.length
  unit : ∀ i : Int, 0 ≤ i → i < u.length → 1 ≤ rd u i ∧ rd u i < m ∧ Int.gcd (rd u i) m = 1
  hom : ∀ i : Int, 0 ≤ i → i < u.length → ∀ j : Int, 0 ≤ j → j < u.length → rd u (T g i j) = rd u i * rd u j % m
theorem unit_one : ∀ m : Nat, m ≤ 12 → ∀ u : Nat, u < m → Nat.gcd u m = 1 → u = u * u % m → 1 ≤ u → u = 1 := by decide
theorem Mdl.one {g : List (List Int)} {m : Int} {u : List Int} (hg : Grp g) (h : Mdl g m u) : rd u 0 = 1 := by
  have n1 := hg.n1
  have hl := h.len
  obtain ⟨a1, a2, a3⟩ := h.unit 0 (by omega) (by omega)
  have e := h.hom 0 (by omega) (by omega) 0 (by omega) (by omega)
  rw [hg.one 0 (by omega) (by omega)] at e
  have m2 := h.m2; have m12 := h.m12
  obtain ⟨M, rfl⟩ := Int.eq_ofNat_of_zero_le (show 0 ≤ m by omega)
  obtain ⟨U, hU⟩ := Int.eq_ofNat_of_zero_le (show 0 ≤ rd u 0 by omega)
  rw [hU] at a1 a2 a3 e ⊢
  have := unit_one M (by omega) U (by omega) (by simpa [Int.gcd] using a3) (by exact_mod_cast e) (by omega)
  omega
theorem mul_lt_small {a b m : Int} (a0 : 0 ≤ a) (a1 : a < m) (b0 : 0 ≤ b) (b1 : b < m) (hm : m ≤ 1000) : 0 ≤ a * b ∧ a * b ≤ 1000000 := by
  refine ⟨Int.mul_nonneg a0 b0, ?_⟩
  have h1 : a * b ≤ 1000 * b := Int.mul_le_mul_of_nonneg_right (by omega) b0
  omega
theorem tmod_nn {a m : Int} (h : 0 ≤ a) : Int.tmod a m = a % m := Int.tmod_eq_emod_of_nonneg h
theorem ev_isUnit {m x : Int} (m0 : 0 ≤ m) : Ev (fun k => impl_isUnit.f k m x) (B (1 ≤ x ∧ x < m ∧ Int.gcd x m = 1)) := by
  unfold impl_isUnit.f
  by_cases h1 : x ≥ 1
  · by_cases h2 : x < m
    · simp only [h1, h2, ↓reduceIte]
      refine ev_bind (fun k => rfl) (ev_gcd m0 (by omega)) (ev_now fun k => ?_)
      rw [Int.gcd_comm]
      by_cases h3 : Int.gcd x m = 1
      · rw [B_pos ⟨trivial, trivial, h3⟩]; simp [h3]
      · rw [B_neg fun h => h3 h.2.2]
        have : ¬ ((Int.gcd x m : Nat) : Int) = 1 := by omega
        simp [this]
    · rw [B_neg fun h => h2 h.2.1]
      exact ev_now fun k => by simp only [h1, h2, ↓reduceIte]
  · rw [B_neg fun h => h1 h.1]
    exact ev_now fun k => by simp only [h1, ↓reduceIte]
theorem mdl_iff (g : List (List Int)) (m : Int) (u : List Int) : Mdl g m u ↔ (2 ≤ m ∧ m ≤ 12) ∧ u.length = g.length ∧ (∀ i : Int, 0 ≤ i → i < u.length → 1 ≤ rd u i ∧ rd u i < m ∧ Int.gcd (rd u i) m = 1) ∧ ∀ i : Int, 0 ≤ i → i < u.length → ∀ j : Int, 0 ≤ j → j < u.length → rd u (T g i j) = rd u i * rd u j % m :=
  ⟨fun h => ⟨⟨h.m2, h.m12⟩, h.len, h.unit, h.hom⟩, fun ⟨⟨a, b⟩, c, d, e⟩ => ⟨a, b, c, d, e⟩⟩
theorem ev_isModule {g : List (List Int)} (hg : Grp g) (m : Int) (u : List Int) (hl : u.length ≤ maxLen) : Ev (fun k => impl_isModule.f k g m u) (B (Mdl g m u)) := by
  have hm := maxLen_le
  have n1 := hg.n1
  unfold impl_isModule.f impl_isModulus.f impl_order.f
  have bad : Ev (fun k => impl_isModule.j0 k true g m u) false := ev_step_now fun k => by simp only [impl_isModule.j0, ↓reduceIte]
  by_cases h1 : m ≥ 2
  rotate_left
  · rw [B_neg fun h => h1 h.m2]
    simp only [h1, ↓reduceIte, Option.bind_some, Bool.false_eq_true]
    exact bad
  by_cases h2 : m ≤ 12
  rotate_left
  · rw [B_neg fun h => h2 h.m12]
    simp only [h1, h2, ↓reduceIte, Option.bind_some, decide_false, Bool.false_eq_true]
    exact bad
  simp only [h1, h2, ↓reduceIte, Option.bind_some, decide_true]
  by_cases h3 : (u.length : Int) = g.length
  rotate_left
  · rw [B_neg fun h => h3 (by rw [h.len])]
    simp only [h3, ↓reduceIte]
    exact bad
  have h4 : (0 : Int) < u.length := by omega
  simp only [h3, ↓reduceIte, show (0 : Int) < g.length by omega]
  by_cases h5 : rd u 0 = 1
  rotate_left
  · rw [B_neg fun h => h5 (h.one hg)]
    simp only [show (rd u 0 != 1) = true by simpa using h5]
    exact bad
  simp only [show (rd u 0 != 1) = false by simpa using h5]
  rw [B_congr (mdl_iff g m u), B_congr (show ((2 ≤ m ∧ m ≤ 12) ∧ u.length = g.length ∧ (∀ i : Int, 0 ≤ i → i < u.length → 1 ≤ rd u i ∧ rd u i < m ∧ Int.gcd (rd u i) m = 1) ∧ ∀ i : Int, 0 ≤ i → i < u.length → ∀ j : Int, 0 ≤ j → j < u.length → rd u (T g i j) = rd u i * rd u j % m) ↔ _ from ⟨fun h => h.2.2, fun h => ⟨⟨h1, h2⟩, by omega, h⟩⟩)]
  refine Ev.step (f := fun k => impl_isModule.l0 k u (u.length : Int) 0 g m u) (fun k => by simp only [impl_isModule.j0, Bool.false_eq_true, ↓reduceIte]) ?_
  refine scanB u.length (fun i k => impl_isModule.l0 k u (u.length : Int) i g m u) (fun i => 1 ≤ rd u i ∧ rd u i < m ∧ Int.gcd (rd u i) m = 1) _ (fun i i0 i1 _ => ?_) (fun hu => ?_)
  · have hw : wrap64 (i + 1) = i + 1 := w64s i0 i1 (by omega)
    have hu := ev_isUnit (m := m) (x := rd u i) (by omega)
    by_cases h6 : 1 ≤ rd u i ∧ rd u i < m ∧ Int.gcd (rd u i) m = 1
    · rw [B_pos h6] at hu
      refine .inl ⟨h6, fun r h => ev_step_bind (fun k => by simp only [impl_isModule.l0, i0, i1, ↓reduceIte]; rfl) hu ?_⟩
      simp only [hw, ↓reduceIte]; exact h
    · rw [B_neg h6] at hu
      refine .inr ⟨h6, ev_step_bind (fun k => by simp only [impl_isModule.l0, i0, i1, ↓reduceIte]; rfl) hu ?_⟩
      exact ev_now fun k => by simp
  · refine Ev.step (f := fun k => impl_isModule.l1 k (u.length : Int) 0 g m u) (fun k => by simp only [impl_isModule.l0, Int.lt_irrefl, ↓reduceIte, impl_order.f, Option.bind_some, h3]) ?_
    refine scanT u.length (fun i k => impl_isModule.l1 k (u.length : Int) i g m u) (fun i => ∀ j : Int, 0 ≤ j → j < u.length → rd u (T g i j) = rd u i * rd u j % m) (fun i i0 i1 _ => ?_) (fun _ => ev_step_now fun k => by simp only [impl_isModule.l1, Int.lt_irrefl, ↓reduceIte])
    have hwi : wrap64 (i + 1) = i + 1 := w64s i0 i1 (by omega)
    have inner := scan u.length (fun j k => impl_isModule.l2 k i (u.length : Int) i (u.length : Int) j g m u) (fun j => rd u (T g i j) = rd u i * rd u j % m) false (fun j j0 j1 _ => by
      have hwj : wrap64 (j + 1) = j + 1 := w64s j0 j1 (by omega)
      have ht := ev_times2 hg i0 (by omega) j0 (by omega)
      obtain ⟨e0, e1⟩ := hg.ent i j i0 (by omega) j0 (by omega)
      have e1' : T g i j < u.length := by omega
      obtain ⟨p0, p1⟩ := mul_lt_small (show 0 ≤ rd u i by have := (hu i i0 i1).1; omega) (hu i i0 i1).2.1 (show 0 ≤ rd u j by have := (hu j j0 j1).1; omega) (hu j j0 j1).2.1 (by omega)
      have hwp : wrap64 (rd u i * rd u j) = rd u i * rd u j := w64 (by omega) (by omega)
      have hz : ¬ m = 0 := by omega
      by_cases h6 : rd u (T g i j) = rd u i * rd u j % m
      · refine .inl ⟨h6, fun r h => ev_step_bind (fun k => by simp only [impl_isModule.l2, j1, ↓reduceIte]; rfl) ht ?_⟩
        simp only [e0, e1', i0, i1, j0, j1, hz, hwp, tmod_nn p0, ← h6, hwj, ↓reduceIte]; exact h
      · refine .inr ⟨h6, ev_step_bind (fun k => by simp only [impl_isModule.l2, j1, ↓reduceIte]; rfl) ht ?_⟩
        exact ev_now fun k => by simp only [e0, e1', i0, i1, j0, j1, hz, hwp, tmod_nn p0, h6, ↓reduceIte])
    rcases inner with ⟨h6, h7⟩ | ⟨⟨j, j0, j1, h6⟩, h7⟩
    · exact .inl ⟨h6, fun r h => Ev.step (fun k => by simp only [impl_isModule.l1, i1, ↓reduceIte, impl_order.f, Option.bind_some, ← h3]) (h7 r (Ev.step (fun k => by simp only [impl_isModule.l2, Int.lt_irrefl, hwi, ↓reduceIte]) h))⟩
    · exact .inr ⟨fun h => h6 (h j j0 j1), Ev.step (fun k => by simp only [impl_isModule.l1, i1, ↓reduceIte, impl_order.f, Option.bind_some, ← h3]) h7⟩
theorem ev_Is02 {g : List (List Int)} (hg : Grp g) (m : Int) (u : List Int) (hl : u.length ≤ maxLen) : Ev (fun k => spec_l02Is.f k g m u) (B (Mdl g m u)) := by
  have hm := maxLen_le
  have n1 := hg.n1
  unfold spec_l02Is.f
  have bad : Ev (fun k => spec_l02Is.j0 k true g m u) false := ev_step_now fun k => by simp only [spec_l02Is.j0, ↓reduceIte]
  refine ev_bind (fun k => rfl) (ev_In _ _ _) ?_
  by_cases h1 : 2 ≤ m ∧ m ≤ 12
  rotate_left
  · rw [B_neg h1, B_neg fun h => h1 ⟨h.m2, h.m12⟩]
    simp only [Bool.false_eq_true, ↓reduceIte]
    exact bad
  rw [B_pos h1]
  simp only [↓reduceIte]
  by_cases h3 : (u.length : Int) = g.length
  rotate_left
  · rw [B_neg fun h => h3 (by rw [h.len])]
    simp only [show ((u.length : Int) != g.length) = true by simpa using h3]
    exact bad
  simp only [show ((u.length : Int) != g.length) = false by simpa using h3]
  rw [B_congr (mdl_iff g m u), B_congr (show ((2 ≤ m ∧ m ≤ 12) ∧ u.length = g.length ∧ (∀ i : Int, 0 ≤ i → i < u.length → 1 ≤ rd u i ∧ rd u i < m ∧ Int.gcd (rd u i) m = 1) ∧ ∀ i : Int, 0 ≤ i → i < u.length → ∀ j : Int, 0 ≤ j → j < u.length → rd u (T g i j) = rd u i * rd u j % m) ↔ _ from ⟨fun h => h.2.2, fun h => ⟨h1, by omega, h⟩⟩)]
  refine Ev.step (f := fun k => spec_l02Is.l0 k 0 g m u) (fun k => by simp only [spec_l02Is.j0, Bool.false_eq_true, ↓reduceIte]) ?_
  refine scanB u.length (fun i k => spec_l02Is.l0 k i g m u) (fun i => 1 ≤ rd u i ∧ rd u i < m ∧ Int.gcd (rd u i) m = 1) _ (fun i i0 i1 _ => ?_) (fun hu => ?_)
  · have hw : wrap64 (i + 1) = i + 1 := w64s i0 i1 (by omega)
    have hw1 : wrap64 (m - 1) = m - 1 := w64 (by omega) (by omega)
    have hin := ev_In (rd u i) 1 (wrap64 (m - 1))
    rw [B_congr (show (1 ≤ rd u i ∧ rd u i ≤ wrap64 (m - 1)) ↔ (1 ≤ rd u i ∧ rd u i < m) by rw [hw1]; omega)] at hin
    by_cases h6 : 1 ≤ rd u i ∧ rd u i < m
    · rw [B_pos h6] at hin
      have hgc := ev_Gcd (a := rd u i) (b := m) (by omega) (by omega) (by omega) (by omega)
      by_cases h7 : Int.gcd (rd u i) m = 1
      · refine .inl ⟨⟨h6.1, h6.2, h7⟩, fun r h => ev_step_bind (fun k => by simp only [spec_l02Is.l0, i0, i1, ↓reduceIte]; rfl) hin ?_⟩
        simp only [↓reduceIte]
        refine ev_bind (fun k => rfl) hgc ?_
        simp only [h7, hw, Int.natCast_one, ↓reduceIte]; exact h
      · refine .inr ⟨fun h => h7 h.2.2, ev_step_bind (fun k => by simp only [spec_l02Is.l0, i0, i1, ↓reduceIte]; rfl) hin ?_⟩
        simp only [↓reduceIte]
        refine ev_bind (fun k => rfl) hgc (ev_now fun k => ?_)
        rw [if_neg (by omega)]
    · rw [B_neg h6] at hin
      refine .inr ⟨fun h => h6 ⟨h.1, h.2.1⟩, ev_step_bind (fun k => by simp only [spec_l02Is.l0, i0, i1, ↓reduceIte]; rfl) hin ?_⟩
      exact ev_now fun k => by simp
  · refine Ev.step (f := fun k => spec_l02Is.l1 k 0 g m u) (fun k => by simp only [spec_l02Is.l0, Int.lt_irrefl, ↓reduceIte]) ?_
    refine scanT u.length (fun i k => spec_l02Is.l1 k i g m u) (fun i => ∀ j : Int, 0 ≤ j → j < u.length → rd u (T g i j) = rd u i * rd u j % m) (fun i i0 i1 _ => ?_) (fun _ => ev_step_now fun k => by simp only [spec_l02Is.l1, Int.lt_irrefl, ↓reduceIte])
    have hwi : wrap64 (i + 1) = i + 1 := w64s i0 i1 (by omega)
    have inner := scan u.length (fun j k => spec_l02Is.l2 k i j g m u) (fun j => rd u (T g i j) = rd u i * rd u j % m) false (fun j j0 j1 _ => by
      have hwj : wrap64 (j + 1) = j + 1 := w64s j0 j1 (by omega)
      obtain ⟨e0, e1⟩ := hg.ent i j i0 (by omega) j0 (by omega)
      have i1' : i < (g.length : Int) := by omega
      have lr : j < ((rd_Li64 g i).length : Int) := by rw [hg.row i i0 i1']; omega
      obtain ⟨p0, p1⟩ := mul_lt_small (show 0 ≤ rd u i by have := (hu i i0 i1).1; omega) (hu i i0 i1).2.1 (show 0 ≤ rd u j by have := (hu j j0 j1).1; omega) (hu j j0 j1).2.1 (by omega)
      have hwp : wrap64 (rd u i * rd u j) = rd u i * rd u j := w64 (by omega) (by omega)
      have hz : ¬ m = 0 := by omega
      have e0' : 0 ≤ rd (rd_Li64 g i) j := e0
      have e1' : rd (rd_Li64 g i) j < u.length := by rw [h3]; exact e1
      by_cases h6 : rd u (T g i j) = rd u i * rd u j % m
      · have h6' : rd u (rd (rd_Li64 g i) j) = rd u i * rd u j % m := h6
        exact .inl ⟨h6, fun r h => Ev.step (fun k => by simp only [spec_l02Is.l2, i0, i1, i1', j0, j1, lr, e0', e1', hz, hwp, tmod_nn p0, h6', hwj, ↓reduceIte]) h⟩
      · have h6' : ¬ rd u (rd (rd_Li64 g i) j) = rd u i * rd u j % m := h6
        exact .inr ⟨h6, ev_step_now fun k => by simp only [spec_l02Is.l2, i0, i1, i1', j0, j1, lr, e0', e1', hz, hwp, tmod_nn p0, h6', ↓reduceIte]⟩)
    rcases inner with ⟨h6, h7⟩ | ⟨⟨j, j0, j1, h6⟩, h7⟩
    · exact .inl ⟨h6, fun r h => Ev.step (fun k => by simp only [spec_l02Is.l1, i1, ↓reduceIte]) (h7 r (Ev.step (fun k => by simp only [spec_l02Is.l2, Int.lt_irrefl, hwi, ↓reduceIte]) h))⟩
    · exact .inr ⟨fun h => h6 (h j j0 j1), Ev.step (fun k => by simp only [spec_l02Is.l1, i1, ↓reduceIte]) h7⟩
end Go.Proofs.Ytdiadcmkddkjpaa.U
namespace Go.Proofs.Ytdiadcmkddkjpaa.Pa
open Go.RowKit Go.Proofs.YtdiadcmkddkjpaaW.PrintWords Go.Proofs.YtdiadcmkddkjpaaW.PrintLast Go.Proofs.YtdiadcmkddkjpaaW.PrintMore
attribute [local go_sem] max2_int min2_int max_two min_two max_three min_three max_four min_four
set_option linter.unusedVariables false
set_option linter.unusedSimpArgs false
end Go.Proofs.Ytdiadcmkddkjpaa.Pa
namespace Go.Proofs.Ytdiadcmkddkjpaa.Pa
open Go.RowKit Go.Proofs.YtdiadcmkddkjpaaW.PrintWords Go.Proofs.YtdiadcmkddkjpaaW.PrintLast Go.Proofs.YtdiadcmkddkjpaaW.PrintMore
attribute [local go_sem] max2_int min2_int max_two min_two max_three min_three max_four min_four
set_option linter.unusedVariables false
set_option linter.unusedSimpArgs false
end Go.Proofs.Ytdiadcmkddkjpaa.Pa
namespace Go.Proofs.Ytdiadcmkddkjpaa.Pa
open Go.RowKit Go.Proofs.YtdiadcmkddkjpaaW.PrintWords Go.Proofs.YtdiadcmkddkjpaaW.PrintLast Go.Proofs.YtdiadcmkddkjpaaW.PrintMore
attribute [local go_sem] max2_int min2_int max_two min_two max_three min_three max_four min_four
set_option linter.unusedVariables false
set_option linter.unusedSimpArgs false
end Go.Proofs.Ytdiadcmkddkjpaa.Pa
namespace Go.Proofs.Ytdiadcmkddkjpaa.Pa
open Go.RowKit Go.Proofs.YtdiadcmkddkjpaaW.PrintWords Go.Proofs.YtdiadcmkddkjpaaW.PrintLast Go.Proofs.YtdiadcmkddkjpaaW.PrintMore
attribute [local go_sem] max2_int min2_int max_two min_two max_three min_three max_four min_four
set_option linter.unusedVariables false
set_option linter.unusedSimpArgs false
end Go.Proofs.Ytdiadcmkddkjpaa.Pa
set_option linter.unusedVariables false
set_option linter.unusedSimpArgs false
namespace Go.Proofs.Ytdiadcmkddkjpaa.U
open Go.RowKit Go.Proofs.YtdiadcmkddkjpaaW.PrintWords Go.Proofs.YtdiadcmkddkjpaaW.PrintLast Go.Proofs.YtdiadcmkddkjpaaW.PrintMore Go.Proofs.Ytdiadcmkddkjpaa.Pa
noncomputable def ite_ {α : Type} (p : Prop) (a b : α) : α := @ite α p (Classical.propDecidable p) a b
theorem ite_pos {α : Type} {p : Prop} (h : p) (a b : α) : ite_ p a b = a := by unfold ite_; simp [h]
theorem ite_neg {α : Type} {p : Prop} (h : ¬ p) (a b : α) : ite_ p a b = b := by unfold ite_; simp [h]
def GM (g : List (List Int)) (m : Int) (u : List Int) : Prop := Grp g ∧ Mdl g m u
theorem ev_moduleCode (g : List (List Int)) (hl : g.length ≤ maxLen) (hr : ∀ r ∈ g, r.length ≤ maxLen) (m : Int) (u : List Int) (hu : u.length ≤ maxLen) :
    Ev (fun k => impl_moduleCode.f k g [(⟨m, u⟩ : S34)]) (ite_ (GM g m u) 0 1) := by
  unfold impl_moduleCode.f impl_areModules.f
  have hG := ev_IsGroup g hl hr
  by_cases h1 : Grp g
  · rw [B_pos h1] at hG
    have hM := ev_isModule h1 m u hu
    by_cases h2 : Mdl g m u
    · rw [B_pos h2] at hM
      rw [ite_pos ⟨h1, h2⟩]
      refine ev_bind (fun k => rfl) (a := true) ?_ (ev_now fun k => by simp)
      refine ev_step_bind (fun k => by simp [impl_areModules.l0]; rfl) hG ?_
      simp only [↓reduceIte]
      refine ev_bind (fun k => rfl) hM ?_
      simp only [↓reduceIte, show wrap64 (0 + 1) = 1 from w64 (by omega) (by omega)]
      exact ev_step_now fun k => by simp [impl_areModules.l0, show wrap64 1 = 1 from w64 (by omega) (by omega)]
    · rw [B_neg h2] at hM
      rw [ite_neg fun h => h2 h.2]
      refine ev_bind (fun k => rfl) (a := false) ?_ (ev_now fun k => by simp)
      refine ev_step_bind (fun k => by simp [impl_areModules.l0]; rfl) hG ?_
      simp only [↓reduceIte]
      exact ev_bind (fun k => rfl) hM (ev_now fun k => by simp)
  · rw [B_neg h1] at hG
    rw [ite_neg fun h => h1 h.1]
    refine ev_bind (fun k => rfl) (a := false) ?_ (ev_now fun k => by simp)
    refine ev_step_bind (fun k => by simp [impl_areModules.l0]; rfl) hG ?_
    exact ev_now fun k => by simp
theorem small_prod {m x : Int} {u : List Int} {g : List (List Int)} (hm : Mdl g m u) (x0 : 0 ≤ x) (x1 : x < g.length) {a b : Int} (a0 : 0 ≤ a) (a1 : a < m) (b0 : 0 ≤ b) (b1 : b < m) : 0 ≤ rd u x * b ∧ rd u x * b ≤ 1000000 := by
  have hl := hm.len
  obtain ⟨c1, c2, _⟩ := hm.unit x x0 (by omega)
  exact mul_lt_small (by omega) c2 b0 b1 (by have := hm.m12; omega)
theorem ev_Mod {a m : Int} (h0 : -1000000000 ≤ a) (h1 : a ≤ 1000000000) (m0 : 0 < m) (m1 : m ≤ 1000000) : spec_l01Mod.f a m = some (a % m) := by
  unfold spec_l01Mod.f
  have e1 : Int.tmod a m = a % m ∨ Int.tmod a m = a % m - m := by
    by_cases h : 0 ≤ a
    · exact .inl (tmod_nn h)
    · have h2 := Int.tmod_eq_emod (a := a) (b := m)
      rw [h2]
      have : (m.natAbs : Int) = m := by omega
      split
      · left; omega
      · right; omega
  have b0 := Int.emod_nonneg a (show m ≠ 0 by omega)
  have b1 := Int.emod_lt_of_pos a m0
  rw [if_neg (by omega), w64 (by omega) (by omega)]
  rcases e1 with e1 | e1 <;> rw [e1, tmod_nn (by omega)]
  · rw [Int.add_emod_right, Int.emod_emod_of_dvd _ (Int.dvd_refl m)]
  · rw [show a % m - m + m = a % m by omega, Int.emod_emod_of_dvd _ (Int.dvd_refl m)]
end Go.Proofs.Ytdiadcmkddkjpaa.U
set_option linter.unusedVariables false
set_option linter.unusedSimpArgs false
namespace Go.Proofs.Ytdiadcmkddkjpaa.U
open Go.RowKit Go.Proofs.YtdiadcmkddkjpaaW.PrintWords Go.Proofs.YtdiadcmkddkjpaaW.PrintLast Go.Proofs.YtdiadcmkddkjpaaW.PrintMore Go.Proofs.Ytdiadcmkddkjpaa.Pa
def Nums (g : List (List Int)) (m : Int) (l : List Int) : Prop := (l.length : Int) = g.length ∧ AllIn m l
noncomputable def numsC (g : List (List Int)) (m : Int) (u l : List Int) : Int := ite_ (GM g m u) (ite_ (Nums g m l) 0 2) 1
theorem ev_numbersCode (g : List (List Int)) (hl : g.length ≤ maxLen) (hr : ∀ r ∈ g, r.length ≤ maxLen) (m : Int) (u : List Int) (hu : u.length ≤ maxLen) (l : List Int) (hx : l.length ≤ maxLen) :
    Ev (fun k => impl_numbersCode.f k g m u l) (numsC g m u l) := by
  unfold impl_numbersCode.f numsC
  refine ev_bind (fun k => rfl) (ev_moduleCode g hl hr m u hu) ?_
  by_cases h1 : GM g m u
  · rw [ite_pos h1, ite_pos h1]
    simp only [↓reduceIte]
    unfold impl_isNumbers.f impl_order.f
    by_cases h2 : (l.length : Int) = g.length
    · refine ev_bind (fun k => rfl) (a := B (AllIn m l)) ?_ ?_
      · simp only [Option.bind_some, h2, ↓reduceIte]
        exact ev_bind (fun k => rfl) (ev_areIn m l hx) (ev_now fun k => rfl)
      · by_cases h3 : AllIn m l
        · rw [B_pos h3, ite_pos ⟨h2, h3⟩]; exact ev_now fun k => by simp
        · rw [B_neg h3, ite_neg fun h => h3 h.2]; exact ev_now fun k => by simp
    · rw [ite_neg fun h => h2 h.1]
      refine ev_bind (fun k => rfl) (a := false) (ev_now fun k => by simp only [Option.bind_some, h2, ↓reduceIte]) (ev_now fun k => by simp)
  · rw [ite_neg h1, ite_neg h1]
    exact ev_now fun k => by simp
theorem ev_Code (g : List (List Int)) (hl : g.length ≤ maxLen) (m : Int) (u : List Int) (hu : u.length ≤ maxLen) (l : List Int) (hx : l.length ≤ maxLen) :
    Ev (fun k => spec_l05Code.f k g m u l) (numsC g m u l) := by
  have hmx := maxLen_le
  unfold spec_l05Code.f numsC
  refine ev_bind (fun k => rfl) (ev_Is g hl) ?_
  have bad : Ev (fun k => spec_l05Code.j0 k l true g m u) 1 := ev_step_now fun k => by simp [spec_l05Code.j0]
  by_cases h1 : Grp g
  rotate_left
  · rw [B_neg h1, ite_neg fun h => h1 h.1]
    simp only [Bool.false_eq_true, ↓reduceIte]; exact bad
  rw [B_pos h1]
  simp only [↓reduceIte]
  refine ev_bind (fun k => rfl) (ev_Is02 h1 m u hu) ?_
  by_cases h2 : Mdl g m u
  rotate_left
  · rw [B_neg h2, ite_neg fun h => h2 h.2]
    simp only [Bool.not_false]; exact bad
  rw [B_pos h2, ite_pos ⟨h1, h2⟩]
  simp only [Bool.not_true]
  have m2 := h2.m2; have m12 := h2.m12
  have hw1 : wrap64 (m - 1) = m - 1 := w64 (by omega) (by omega)
  have num : Ev (fun k => spec_l05Numbers.f k g m u l) (B (Nums g m l)) := by
    unfold spec_l05Numbers.f
    have := scanB l.length (fun i k => spec_l05Numbers.l0 k l i g m u) (fun i => 0 ≤ rd l i ∧ rd l i < m) ((l.length : Int) = g.length) (fun i i0 i1 _ => by
      have hwi : wrap64 (i + 1) = i + 1 := w64s i0 i1 (by omega)
      have hin := ev_In (rd l i) 0 (wrap64 (m - 1))
      rw [B_congr (show (0 ≤ rd l i ∧ rd l i ≤ wrap64 (m - 1)) ↔ (0 ≤ rd l i ∧ rd l i < m) by rw [hw1]; omega)] at hin
      by_cases h3 : 0 ≤ rd l i ∧ rd l i < m
      · rw [B_pos h3] at hin
        refine .inl ⟨h3, fun r h => ev_step_bind (fun k => by simp only [spec_l05Numbers.l0, i0, i1, ↓reduceIte]; rfl) hin ?_⟩
        simp only [hwi, ↓reduceIte]; exact h
      · rw [B_neg h3] at hin
        refine .inr ⟨h3, ev_step_bind (fun k => by simp only [spec_l05Numbers.l0, i0, i1, ↓reduceIte]; rfl) hin ?_⟩
        exact ev_now fun k => by simp) (fun _ => ev_step_now fun k => by
          simp only [spec_l05Numbers.l0, Int.lt_irrefl, ↓reduceIte]
          by_cases h : (l.length : Int) = g.length
          · rw [B_pos h]; simp [h]
          · rw [B_neg h]; simp [h])
    rwa [B_congr (show ((∀ j : Int, 0 ≤ j → j < l.length → 0 ≤ rd l j ∧ rd l j < m) ∧ (l.length : Int) = g.length) ↔ Nums g m l from And.comm)] at this
  refine ev_step_bind (fun k => by simp only [spec_l05Code.j0, Bool.false_eq_true, ↓reduceIte]; rfl) num ?_
  by_cases h3 : Nums g m l
  · rw [B_pos h3, ite_pos h3]; exact ev_now fun k => by simp
  · rw [B_neg h3, ite_neg h3]; exact ev_now fun k => by simp
def Crs (g : List (List Int)) (m : Int) (u l : List Int) : Prop := ∀ x : Int, 0 ≤ x → x < g.length → ∀ y : Int, 0 ≤ y → y < g.length → rd l (T g x y) = (rd l x + rd u x * rd l y) % m
theorem crs_mod {m a b : Int} (m0 : 0 < m) (b0 : 0 ≤ b) (b1 : b < m) : (a - b) % m = 0 ↔ b = a % m := by
  constructor
  · intro h
    have h1 := Int.emod_emod_of_dvd a (Int.dvd_refl m)
    have h2 := Int.sub_emod a b m
    rw [h, Int.emod_eq_of_lt b0 b1] at h2
    have a0 := Int.emod_nonneg a (show m ≠ 0 by omega)
    have a1 := Int.emod_lt_of_pos a m0
    have h3 : m ∣ a % m - b := Int.dvd_of_emod_eq_zero h2.symm
    obtain ⟨c, hc⟩ := h3
    have : c = 0 := by
      have : -1 < c := Int.lt_of_mul_lt_mul_left (a := m) (by omega) (by omega)
      have : c < 1 := Int.lt_of_mul_lt_mul_left (a := m) (by omega) (by omega)
      omega
    subst this; omega
  · intro h
    rw [h, Int.sub_emod, Int.emod_emod_of_dvd _ (Int.dvd_refl m), Int.sub_self, Int.zero_emod]
theorem tmod_zero {a m : Int} : Int.tmod a m = 0 ↔ a % m = 0 := by
  rw [← Int.dvd_iff_tmod_eq_zero, ← Int.dvd_iff_emod_eq_zero]
theorem ev_isCrossed {g : List (List Int)} {m : Int} {u l : List Int} (hg : Grp g) (hm : Mdl g m u) (hn : Nums g m l) : Ev (fun k => impl_isCrossed.f k g m u l) (B (Crs g m u l)) := by
  have m2 := hm.m2; have m12 := hm.m12; have n8 := hg.n8; have hlu := hm.len
  obtain ⟨ll, la⟩ := hn
  unfold impl_isCrossed.f impl_order.f
  simp only [Option.bind_some]
  refine scanT g.length (fun x k => impl_isCrossed.l0 k l (g.length : Int) x g m u) (fun x => ∀ y : Int, 0 ≤ y → y < g.length → rd l (T g x y) = (rd l x + rd u x * rd l y) % m) (fun x x0 x1 _ => ?_) (fun _ => ev_step_now fun k => by simp only [impl_isCrossed.l0, Int.lt_irrefl, ↓reduceIte])
  have hwx : wrap64 (x + 1) = x + 1 := w64s x0 x1 (by omega)
  obtain ⟨lx0, lx1⟩ := la x x0 (by omega)
  have inner := scan g.length (fun y k => impl_isCrossed.l1 k l x (g.length : Int) x (g.length : Int) y g m u) (fun y => rd l (T g x y) = (rd l x + rd u x * rd l y) % m) false (fun y y0 y1 _ => by
    have hwy : wrap64 (y + 1) = y + 1 := w64s y0 y1 (by omega)
    obtain ⟨ly0, ly1⟩ := la y y0 (by omega)
    obtain ⟨e0, e1⟩ := hg.ent x y x0 x1 y0 y1
    obtain ⟨lt0, lt1⟩ := la (T g x y) e0 (by omega)
    obtain ⟨c0, c1⟩ := small_prod hm x0 x1 lx0 lx1 ly0 ly1
    have w1 : wrap64 (rd u x * rd l y) = rd u x * rd l y := w64 (by omega) (by omega)
    have w2 : wrap64 (rd l x + rd u x * rd l y) = rd l x + rd u x * rd l y := w64 (by omega) (by omega)
    have w3 : wrap64 (rd l x + rd u x * rd l y - rd l (T g x y)) = rd l x + rd u x * rd l y - rd l (T g x y) := w64 (by omega) (by omega)
    have key : Int.tmod (rd l x + rd u x * rd l y - rd l (T g x y)) m = 0 ↔ rd l (T g x y) = (rd l x + rd u x * rd l y) % m := by rw [tmod_zero]; exact crs_mod (by omega) lt0 lt1
    have ht := ev_times2 hg x0 x1 y0 y1
    by_cases h : rd l (T g x y) = (rd l x + rd u x * rd l y) % m
    · refine .inl ⟨h, fun r hr => ev_step_bind (fun k => by simp only [impl_isCrossed.l1, y1, x0, show x < (l.length : Int) by omega, show x < (u.length : Int) by omega, y0, show y < (l.length : Int) by omega, ↓reduceIte]; rfl) ht ?_⟩
      simp only [e0, show T g x y < (l.length : Int) by omega, show ¬ m = 0 by omega, w1, w2, w3, key.2 h, hwy, ↓reduceIte]
      exact hr
    · refine .inr ⟨h, ev_step_bind (fun k => by simp only [impl_isCrossed.l1, y1, x0, show x < (l.length : Int) by omega, show x < (u.length : Int) by omega, y0, show y < (l.length : Int) by omega, ↓reduceIte]; rfl) ht ?_⟩
      have hk : ¬ Int.tmod (rd l x + rd u x * rd l y - rd l (T g x y)) m = 0 := fun q => h (key.1 q)
      exact ev_now fun k => by simp only [e0, show T g x y < (l.length : Int) by omega, show ¬ m = 0 by omega, w1, w2, w3, hk, ↓reduceIte])
  rcases inner with ⟨h5, h6⟩ | ⟨⟨y, y0, y1, h5⟩, h6⟩
  · exact .inl ⟨h5, fun r h => Ev.step (fun k => by simp only [impl_isCrossed.l0, x1, ↓reduceIte, impl_order.f, Option.bind_some]) (h6 r (Ev.step (fun k => by simp only [impl_isCrossed.l1, Int.lt_irrefl, hwx, ↓reduceIte]) h))⟩
  · exact .inr ⟨fun h => h5 (h y y0 y1), Ev.step (fun k => by simp only [impl_isCrossed.l0, x1, ↓reduceIte, impl_order.f, Option.bind_some]) h6⟩
theorem ev_Crossed {g : List (List Int)} {m : Int} {u l : List Int} (hg : Grp g) (hm : Mdl g m u) (hn : Nums g m l) : Ev (fun k => spec_l05Crossed.f k g m u l) (B (Crs g m u l)) := by
  have m2 := hm.m2; have m12 := hm.m12; have n8 := hg.n8; have hlu := hm.len
  obtain ⟨ll, la⟩ := hn
  unfold spec_l05Crossed.f
  refine scanT g.length (fun x k => spec_l05Crossed.l0 k l x g m u) (fun x => ∀ y : Int, 0 ≤ y → y < g.length → rd l (T g x y) = (rd l x + rd u x * rd l y) % m) (fun x x0 x1 _ => ?_) (fun _ => ev_step_now fun k => by simp only [spec_l05Crossed.l0, spec_l01N.f, Option.bind_some, Int.lt_irrefl, ↓reduceIte])
  have hwx : wrap64 (x + 1) = x + 1 := w64s x0 x1 (by omega)
  obtain ⟨lx0, lx1⟩ := la x x0 (by omega)
  have inner := scan g.length (fun y k => spec_l05Crossed.l1 k l x y g m u) (fun y => rd l (T g x y) = (rd l x + rd u x * rd l y) % m) false (fun y y0 y1 _ => by
    have hwy : wrap64 (y + 1) = y + 1 := w64s y0 y1 (by omega)
    obtain ⟨ly0, ly1⟩ := la y y0 (by omega)
    obtain ⟨e0, e1⟩ := hg.ent x y x0 x1 y0 y1
    obtain ⟨c0, c1⟩ := small_prod hm x0 x1 lx0 lx1 ly0 ly1
    have w1 : wrap64 (rd u x * rd l y) = rd u x * rd l y := w64 (by omega) (by omega)
    have w2 : wrap64 (rd l x + rd u x * rd l y) = rd l x + rd u x * rd l y := w64 (by omega) (by omega)
    have hmod := ev_Mod (a := rd l x + rd u x * rd l y) (m := m) (by omega) (by omega) (by omega) (by omega)
    have lr : ((rd_Li64 g x).length : Int) = g.length := by rw [hg.row x x0 x1]
    have e0' : 0 ≤ rd (rd_Li64 g x) y := e0
    have e1' : rd (rd_Li64 g x) y < (l.length : Int) := by have : rd (rd_Li64 g x) y < (g.length : Int) := e1
                                                           omega
    by_cases h : rd l (T g x y) = (rd l x + rd u x * rd l y) % m
    · refine .inl ⟨h, fun r hr => Ev.step (fun k => ?_) hr⟩
      have h' : rd l (rd (rd_Li64 g x) y) = (rd l x + rd u x * rd l y) % m := h
      simp only [spec_l05Crossed.l1, spec_l01N.f, Option.bind_some, y1, x0, x1, y0, lr, e0', e1', show x < (l.length : Int) by omega, show x < (u.length : Int) by omega, show y < (l.length : Int) by omega, w1, w2, hmod, h', hwy, ↓reduceIte]
    · refine .inr ⟨h, ev_step_now fun k => ?_⟩
      have h' : ¬ rd l (rd (rd_Li64 g x) y) = (rd l x + rd u x * rd l y) % m := h
      simp only [spec_l05Crossed.l1, spec_l01N.f, Option.bind_some, y1, x0, x1, y0, lr, e0', e1', show x < (l.length : Int) by omega, show x < (u.length : Int) by omega, show y < (l.length : Int) by omega, w1, w2, hmod, h', ↓reduceIte])
  rcases inner with ⟨h5, h6⟩ | ⟨⟨y, y0, y1, h5⟩, h6⟩
  · exact .inl ⟨h5, fun r h => Ev.step (fun k => by simp only [spec_l05Crossed.l0, spec_l01N.f, Option.bind_some, x1, ↓reduceIte]) (h6 r (Ev.step (fun k => by simp only [spec_l05Crossed.l1, spec_l01N.f, Option.bind_some, Int.lt_irrefl, hwx, ↓reduceIte]) h))⟩
  · exact .inr ⟨fun h => h5 (h y y0 y1), Ev.step (fun k => by simp only [spec_l05Crossed.l0, spec_l01N.f, Option.bind_some, x1, ↓reduceIte]) h6⟩
theorem nums_codes (g : List (List Int)) (hl : g.length ≤ maxLen) (hr : ∀ r ∈ g, r.length ≤ maxLen) (m : Int) (u : List Int) (hu : u.length ≤ maxLen) (l : List Int) (hx : l.length ≤ maxLen) :
    (Grp g ∧ Mdl g m u ∧ Nums g m l ∧ Ev (fun k => impl_numbersCode.f k g m u l) 0 ∧ Ev (fun k => spec_l05Code.f k g m u l) 0) ∨
    ∃ c : Int, ¬ c = 0 ∧ Ev (fun k => impl_numbersCode.f k g m u l) c ∧ Ev (fun k => spec_l05Code.f k g m u l) c := by
  have cI := ev_numbersCode g hl hr m u hu l hx
  have cS := ev_Code g hl m u hu l hx
  unfold numsC at cI cS
  by_cases h1 : GM g m u
  · rw [ite_pos h1] at cI cS
    by_cases h2 : Nums g m l
    · rw [ite_pos h2] at cI cS
      exact .inl ⟨h1.1, h1.2, h2, cI, cS⟩
    · rw [ite_neg h2] at cI cS
      exact .inr ⟨2, by omega, cI, cS⟩
  · rw [ite_neg h1] at cI cS
    exact .inr ⟨1, by omega, cI, cS⟩
end Go.Proofs.Ytdiadcmkddkjpaa.U
set_option linter.unusedVariables false
set_option linter.unusedSimpArgs false
namespace Go.Proofs.Ytdiadcmkddkjpaa.U
open Go.RowKit Go.Proofs.YtdiadcmkddkjpaaW.PrintWords Go.Proofs.YtdiadcmkddkjpaaW.PrintLast Go.Proofs.YtdiadcmkddkjpaaW.PrintMore Go.Proofs.Ytdiadcmkddkjpaa.Pa
theorem given_codes (g : List (List Int)) (hl : g.length ≤ maxLen) (hr : ∀ r ∈ g, r.length ≤ maxLen) (m : Int) (u : List Int) (hu : u.length ≤ maxLen) (l : List Int) (hx : l.length ≤ maxLen) :
    (Grp g ∧ Mdl g m u ∧ Nums g m l ∧ Crs g m u l ∧ Ev (fun k => impl_crossedCode.f k g m u l) 0 ∧ Ev (fun k => spec_l05Given.f k g m u l) 0) ∨
    ∃ c : Int, ¬ c = 0 ∧ Ev (fun k => impl_crossedCode.f k g m u l) c ∧ Ev (fun k => spec_l05Given.f k g m u l) c := by
  rcases nums_codes g hl hr m u hu l hx with ⟨hg, hm, hn, cI, cS⟩ | ⟨c, hc, cI, cS⟩
  · have eI := ev_isCrossed hg hm hn
    have eS := ev_Crossed hg hm hn
    by_cases h : Crs g m u l
    · rw [B_pos h] at eI eS
      refine .inl ⟨hg, hm, hn, h, ?_, ?_⟩
      · unfold impl_crossedCode.f
        exact ev_bind (fun k => rfl) cI (by simp only [↓reduceIte]; exact ev_bind (fun k => rfl) eI (ev_now fun k => by simp))
      · unfold spec_l05Given.f
        exact ev_bind (fun k => rfl) cS (by simp only [↓reduceIte]; exact ev_bind (fun k => rfl) eS (ev_now fun k => by simp))
    · rw [B_neg h] at eI eS
      refine .inr ⟨5, by omega, ?_, ?_⟩
      · unfold impl_crossedCode.f
        exact ev_bind (fun k => rfl) cI (by simp only [↓reduceIte]; exact ev_bind (fun k => rfl) eI (ev_now fun k => by simp))
      · unfold spec_l05Given.f
        exact ev_bind (fun k => rfl) cS (by simp only [↓reduceIte]; exact ev_bind (fun k => rfl) eS (ev_now fun k => by simp))
  · refine .inr ⟨c, hc, ?_, ?_⟩
    · unfold impl_crossedCode.f
      exact ev_bind (fun k => rfl) cI (ev_now fun k => by simp only [hc, ↓reduceIte])
    · unfold spec_l05Given.f
      exact ev_bind (fun k => rfl) cS (ev_now fun k => by simp only [hc, ↓reduceIte])
end Go.Proofs.Ytdiadcmkddkjpaa.U
set_option linter.unusedVariables false
set_option linter.unusedSimpArgs false
namespace Go.Proofs.Ytdiadcmkddkjpaa.U
open Go.RowKit Go.Proofs.YtdiadcmkddkjpaaW.PrintWords Go.Proofs.YtdiadcmkddkjpaaW.PrintLast Go.Proofs.YtdiadcmkddkjpaaW.PrintMore Go.Proofs.Ytdiadcmkddkjpaa.Pa
theorem same_ComplementOf (g : List (List Int)) (m : Int) (u l : List Int) (hl : g.length ≤ maxLen) (hr : ∀ r ∈ g, r.length ≤ maxLen) (hu : u.length ≤ maxLen) (hx : l.length ≤ maxLen) :
    ∃ (R : List Int) (c : Int), Ev (fun k => spec_ComplementOf.f k g m u l) (R, c) ∧ Ev (fun k => impl_ComplementOf.f k g m u l) (R, c) ∧ R.length ≤ 1048576 := by
  rcases given_codes g hl hr m u hu l hx with ⟨hg, hm, hn, hc, cI, cS⟩ | ⟨c, hc, cI, cS⟩
  rotate_left
  · refine ⟨[], c, ?_, ?_, by simp⟩
    · unfold spec_ComplementOf.f
      exact ev_bind (fun k => rfl) cS (ev_now fun k => by simp only [hc, ↓reduceIte])
    · unfold impl_ComplementOf.f
      exact ev_bind (fun k => rfl) cI (ev_now fun k => by simp only [hc, ↓reduceIte])
  have m2 := hm.m2; have m12 := hm.m12; have n8 := hg.n8; have hlu := hm.len
  obtain ⟨ll, la⟩ := hn
  let F : Nat → List Int := fun j => (List.range j).map fun (i : Nat) => m * (i : Int) + rd l i
  have hF : ∀ j, (F j).length = j := fun j => by simp [F]
  have hF1 : ∀ j, F j ++ [m * (j : Int) + rd l j] = F (j + 1) := fun j => by simp [F, List.range_succ]
  have fact : ∀ j : Nat, j < g.length → (0 : Int) ≤ j ∧ (j : Int) < g.length ∧ (j : Int) < l.length ∧ wrap64 ((j : Int) + 1) = ((j + 1 : Nat) : Int) ∧ wrap64 (m * (j : Int)) = m * j ∧ wrap64 (m * (j : Int) + rd l j) = m * j + rd l j ∧ (F j).length < 17592186044416 := by
    intro j hj
    obtain ⟨l0, l1⟩ := la j (by omega) (by omega)
    have c1 : 0 ≤ m * (j : Int) := Int.mul_nonneg (by omega) (by omega)
    have c2 : m * (j : Int) ≤ 12 * 8 := Int.mul_le_mul (by omega) (by omega) (by omega) (by omega)
    exact ⟨by omega, by omega, by omega, by rw [w64 (by omega) (by omega)]; omega, w64 (by omega) (by omega), w64 (by omega) (by omega), by rw [hF]; omega⟩
  refine ⟨F g.length, 0, ?_, ?_, by rw [hF]; omega⟩
  · unfold spec_ComplementOf.f
    refine ev_bind (fun k => rfl) cS ?_
    simp only [↓reduceIte]
    have := fold g.length (fun i s k => spec_ComplementOf.l0 k l s i g m u) F (fun j hj r h => by
      obtain ⟨f1, f2, f3, f4, f5, f6, f7⟩ := fact j hj
      refine Ev.step (fun k => ?_) h
      simp only [spec_ComplementOf.l0, spec_l01N.f, Option.bind_some, f1, f2, f3, f4, f5, f6, f7, hF1, ↓reduceIte]) (F g.length, 0)
      (ev_step_now fun k => by simp only [spec_ComplementOf.l0, spec_l01N.f, Option.bind_some, Int.lt_irrefl, ↓reduceIte])
    simpa [F] using this
  · unfold impl_ComplementOf.f
    refine ev_bind (fun k => rfl) cI ?_
    simp only [↓reduceIte, ll]
    have := fold g.length (fun i s k => impl_ComplementOf.l0 k s l (g.length : Int) i m u) F (fun j hj r h => by
      obtain ⟨f1, f2, f3, f4, f5, f6, f7⟩ := fact j hj
      refine Ev.step (fun k => ?_) h
      simp only [impl_ComplementOf.l0, f1, f2, f3, f4, f5, f6, f7, hF1, ↓reduceIte]) (F g.length, 0)
      (ev_step_now fun k => by simp only [impl_ComplementOf.l0, Int.lt_irrefl, ↓reduceIte])
    simpa [F] using this
end Go.Proofs.Ytdiadcmkddkjpaa.U
set_option linter.unusedVariables false
set_option linter.unusedSimpArgs false
set_option maxRecDepth 10000
namespace Go.Proofs.Ytdiadcmkddkjpaa.Pure
open Go.RowKit Go.Proofs.YtdiadcmkddkjpaaW.PrintWords Go.Proofs.YtdiadcmkddkjpaaW.PrintLast Go.Proofs.YtdiadcmkddkjpaaW.PrintMore Go.Proofs.Ytdiadcmkddkjpaa.Pa Go.Proofs.Ytdiadcmkddkjpaa.U
theorem FnExactComplementOf_pure : ∀ (g0 : List (List Int)) (m1 : Int) (u1 : List Int) (l2 : List Int), g0.length ≤ maxLen → (∀ r ∈ g0, r.length ≤ maxLen ∧ ∀ x ∈ r, (Lit.int .i64 x).wf = true) → (Lit.int .i64 m1).wf = true → u1.length ≤ maxLen → (∀ x ∈ u1, (Lit.int .i64 x).wf = true) → l2.length ≤ maxLen → (∀ x ∈ l2, (Lit.int .i64 x).wf = true) → ∃ k, laws_FnExactComplementOf.f k g0 m1 u1 l2 = some true := by
  intro g0 m1 u1 l2 hl0 hr0' hw1 hu1 hx1 hu2 hx2
  have hr0 : ∀ r ∈ g0, r.length ≤ maxLen := fun r h => (hr0' r h).1
  apply Ev.rounds
  unfold laws_FnExactComplementOf.f
  by_cases hb2 : (l2.length : Int) > 1048576
  · exact ev_now fun k => by simp only [hb2, ↓reduceIte]
  refine ev_neg hb2 ?_
  have hs2 : l2.length ≤ 1048576 := by omega
  obtain ⟨t1, ht_, ht1⟩ := ev_szGroup g0 1048576 hl0 hr0 (by omega) (by omega)
  refine ev_bind (fun k => rfl) ht_ ?_
  rcases ht1 with ht1 | ⟨t1a, t1b, gl0, gr0⟩
  · exact ev_now fun k => by simp only [ht1, ↓reduceIte]
  refine ev_neg (show ¬ t1 < 0 by omega) ?_
  obtain ⟨t2, ht_, ht2⟩ := ev_szModule m1 u1 t1 hu1 (by omega) (by omega)
  refine ev_bind (fun k => rfl) ht_ ?_
  rcases ht2 with ht2 | ⟨t2a, t2b, hs1⟩
  · exact ev_now fun k => by simp only [ht2, ↓reduceIte]
  refine ev_neg (show ¬ t2 < 0 by omega) ?_
  refine ev_bind (fun k => rfl) (ev_toGroup g0 gl0 gr0) ?_
  refine ev_bind (fun k => rfl) (ev_toModule m1 u1 hs1) ?_
  refine ev_bind (fun k => rfl) (ev_toInt64S l2 hs2) ?_
  obtain ⟨R0, R1, hS, hI, hR0⟩ := same_ComplementOf g0 m1 u1 l2 hl0 hr0 hu1 hu2
  refine ev_bind (fun k => rfl) hS ?_
  refine ev_bind (fun k => rfl) (ev_toGroup g0 gl0 gr0) ?_
  refine ev_bind (fun k => rfl) (ev_toModule m1 u1 hs1) ?_
  refine ev_bind (fun k => rfl) (ev_toInt64S l2 hs2) ?_
  refine ev_bind (fun k => rfl) hI ?_
  refine ev_bind (fun k => rfl) (same_Ints R0 (le_maxLen (by omega))) ?_
  refine ev_pos rfl ?_
  refine ev_pos (by first | rfl | omega) ?_
  refine ev_bind (fun k => rfl) (ev_toGroup g0 gl0 gr0) ?_
  refine ev_bind (fun k => rfl) (same_Group g0 hl0 hr0) ?_
  refine ev_pos rfl ?_
  refine ev_bind (fun k => rfl) (ev_toModule m1 u1 hs1) ?_
  refine ev_bind (fun k => rfl) (same_Module m1 u1 hu1) ?_
  refine ev_pos rfl ?_
  refine ev_bind (fun k => rfl) (ev_toInt64S l2 hs2) ?_
  refine ev_bind (fun k => rfl) (same_Ints l2 hu2) ?_
  refine ev_pos rfl ?_
  have hm25_ := tot_small gl0 gr0
  have mk25_ : Ev (fun k => laws_markGroup.f k g0 1) (1 + ((tot g0 : Nat) : Int), (MkSS 1 g0)) := by unfold laws_markGroup.f; exact ev_bind (fun k => rfl) (ev_markSS g0 1 (by omega) (by omega) (by omega)) (ev_now fun k => rfl)
  refine ev_bind (fun k => rfl) (mk25_) ?_
  have mk26_ : Ev (fun k => laws_markModule.f k m1 u1 (1 + ((tot g0 : Nat) : Int))) ((1 + ((tot g0 : Nat) : Int)) + ((u1.length : Nat) : Int), (MkS (1 + ((tot g0 : Nat) : Int)) u1.length)) := by unfold laws_markModule.f; exact ev_bind (fun k => rfl) (ev_markS u1 (1 + ((tot g0 : Nat) : Int)) (by omega) (by omega)) (ev_now fun k => rfl)
  refine ev_bind (fun k => rfl) (mk26_) ?_
  refine ev_bind (fun k => rfl) (ev_markS l2 ((1 + ((tot g0 : Nat) : Int)) + ((u1.length : Nat) : Int)) (by omega) (by omega)) ?_
  refine ev_bind (fun k => rfl) (same_Ints R0 (le_maxLen (by omega))) ?_
  refine ev_neg (show ¬ ((((1 + ((tot g0 : Nat) : Int)) + ((u1.length : Nat) : Int)) + ((l2.length : Nat) : Int)) < 0) by omega) ?_
  refine ev_pos rfl ?_
  refine ev_pos (by first | rfl | omega) ?_
  refine ev_bind (fun k => rfl) (ev_markS R0 1 (by omega) (by omega)) ?_
  refine ev_bind (fun k => rfl) (ev_heldS 1 R0.length (by omega) (by omega)) ?_
  refine ev_neg (show ¬ ((1 + ((R0.length : Nat) : Int)) < 0) by omega) ?_
  refine ev_pos (by first | rfl | omega) ?_
  refine ev_bind (fun k => rfl) (ev_toGroup g0 gl0 gr0) ?_
  refine ev_bind (fun k => rfl) (ev_toModule m1 u1 hs1) ?_
  refine ev_bind (fun k => rfl) (ev_toInt64S l2 hs2) ?_
  refine ev_bind (fun k => rfl) hI ?_
  refine ev_bind (fun k => rfl) (same_Ints R0 (le_maxLen (by omega))) ?_
  refine ev_pos rfl ?_
  refine ev_pos (by first | rfl | omega) ?_
  refine ev_bind (fun k => rfl) (ev_heldS 1 R0.length (by omega) (by omega)) ?_
  refine ev_neg (show ¬ ((1 + ((R0.length : Nat) : Int)) < 0) by omega) ?_
  refine ev_pos (by first | rfl | omega) ?_
  exact ev_now fun k => rfl
end Go.Proofs.Ytdiadcmkddkjpaa.Pure
set_option linter.unusedVariables false
namespace Go.Proofs.YtdiadcmkddkjpaaW.PrintWords
open Go.RowKit Go.ChangeShapes Go.WideShapes Go.Joins Go.Deep
section
variable {H : Type} {enc : TypeId × Value → H} {P : Program} {w : World} {base : Nat} {held : Bool}
theorem C_of_row {k : IntKind} {a : Option Addr} {len cap : Nat} {zs : List Int} (h : (a = none ∧ len = 0 ∧ cap = 0 ∧ zs = []) ∨ ∃ x, a = some x ∧ len ≤ cap ∧ cap ≤ maxLen ∧ zs.length = cap ∧ (∀ i, i < zs.length → w.cell? (x.add i) = some (.int k (zs.getD i 0))) ∧ ∀ n ∈ zs, (Lit.int k n).wf = true) :
    ∃ l : List Int, len = l.length ∧ Kd.C (Kd.int k) w a l.length l ∧ l.length ≤ maxLen ∧ (∀ x ∈ l, (Lit.int k x).wf = true) ∧ l.length ≤ cap := by
  obtain ⟨l, e, h1, h2, h3, h4⟩ := ReadsInt.ofRowC h
  exact ⟨l, e, Kd.C_of_reads (d := (0 : Int)) (h1 := fun _ => rfl) h1, h2, h3, h4⟩
theorem came_ints {t e : TypeId} {k : IntKind} {fuel : Nat} {v : Value} {x : DataW H × List MemPlace} (ht : P.underlying t = some (.slice e)) (he : P.underlying e = some (.int k)) (hc : P.cellsOf e = 1)
    (h : DataW.trod enc P w base (fun _ => true) held fuel t [v] = some x) :
    ∃ (A : Option Addr) (c : Nat) (l : List Int), v = .slice A l.length c ∧ l.length ≤ c ∧ Kd.C (Kd.int k) w A l.length l ∧ l.length ≤ maxLen ∧ (∀ x ∈ l, (Lit.int k x).wf = true) := by
  rcases open_ints ht he hc h with ⟨hcs, _⟩ | ⟨a, len, cap, zs, hcs, _, hl, hm, hz, _, hcell, hw⟩
  · obtain ⟨l, e1, h1, h2, h3, h4⟩ := C_of_row (w := w) (k := k) (a := none) (len := 0) (cap := 0) (zs := []) (.inl ⟨rfl, rfl, rfl, rfl⟩)
    have hv : v = .slice none 0 0 := by simpa using hcs
    exact ⟨none, 0, l, by rw [hv, ← e1], h4, h1, h2, h3⟩
  · simp only [if_true] at hz
    obtain ⟨l, e1, h1, h2, h3, h4⟩ := C_of_row (w := w) (k := k) (a := some a) (len := len) (cap := cap) (zs := zs) (.inr ⟨a, rfl, hl, hm, hz, hcell, hw⟩)
    have hv : v = .slice (some a) len cap := by simpa using hcs
    exact ⟨some a, cap, l, by rw [hv, ← e1], h4, h1, h2, h3⟩
theorem came_rows {t e q : TypeId} {k : IntKind} {fuel : Nat} {v : Value} {x : DataW H × List MemPlace} (ht : P.underlying t = some (.slice e)) (he : P.underlying e = some (.slice q)) (hq : P.underlying q = some (.int k))
    (ce : P.cellsOf e = 1) (cq : P.cellsOf q = 1) (h : DataW.trod enc P w base (fun _ => true) held fuel t [v] = some x) :
    ∃ (A : Option Addr) (c : Nat) (l : List (List Int)), v = .slice A l.length c ∧ l.length ≤ c ∧ Kd.C (Kd.slice q (Kd.int k)) w A l.length l ∧ l.length ≤ maxLen ∧ (∀ r ∈ l, r.length ≤ maxLen ∧ ∀ x ∈ r, (Lit.int k x).wf = true) := by
  rcases open_int_rows ht he hq ce cq h with ⟨hcs, _⟩ | ⟨a, len, cap, A, L, C, Z, hcs, _, hl, hm, _, hr⟩
  · refine ⟨none, 0, [], by simpa using hcs, Nat.le_refl _, ⟨rfl, by simp, fun hn => absurd hn (by simp)⟩, by simp, by simp⟩
  · have hv : v = .slice (some a) len cap := by simpa using hcs
    have each : ∀ r, r < cap → ∃ y : List Int, L r = y.length ∧ Kd.C (Kd.int k) w (A r) y.length y ∧ y.length ≤ maxLen ∧ (∀ x ∈ y, (Lit.int k x).wf = true) ∧ y.length ≤ C r := by
      intro r hrc
      obtain ⟨_, h1, h2, h3, h4, h5, h6⟩ := hr r hrc
      cases hA : A r with
      | none =>
        have hC := h5 hA
        exact C_of_row (w := w) (k := k) (a := none) (len := L r) (cap := C r) (zs := Z r) (.inl ⟨rfl, by omega, hC, List.eq_nil_of_length_eq_zero (by omega)⟩)
      | some a' => exact C_of_row (w := w) (k := k) (a := some a') (len := L r) (cap := C r) (zs := Z r) (.inr ⟨a', rfl, h1, h2, h3, fun i hi => (h6 a' hA).2 i (by omega), h4⟩)
    obtain ⟨Y, hY⟩ := choose_lt each
    refine ⟨some a, cap, (List.range len).map Y, by rw [hv]; simp, by simpa using hl, ⟨rfl, by simp only [maxLen] at hm; simp; omega, fun _ => ⟨a, rfl, fun j p hj => ?_⟩⟩, by simpa using Nat.le_trans hl hm, fun r hr' => ?_⟩
    · have hjl : j < len := by
        have := (List.getElem?_eq_some_iff.1 hj).1
        simpa using this
      have hp : p = Y j := by simpa [hjl] using hj.symm
      subst hp
      obtain ⟨e1, h1, h2, h3, h4⟩ := hY j (by omega)
      refine ⟨[.slice (A j) (Y j).length (C j)], rfl, ⟨A j, C j, rfl, h4, h1⟩, fun i u hu => ?_⟩
      cases i with
      | zero =>
        simp only [List.getElem?_cons_zero, Option.some.injEq] at hu
        subst hu
        have := (hr j (by omega)).1
        rw [e1] at this
        simpa [Kd.slice] using this
      | succ i => simp at hu
    · obtain ⟨j, hj, rfl⟩ := List.mem_map.1 hr'
      obtain ⟨e1, h1, h2, h3, h4⟩ := hY j (by have := List.mem_range.1 hj; omega)
      exact ⟨h2, h3⟩
theorem came_int {t : TypeId} {k : IntKind} {fuel : Nat} {v : Value} {x : DataW H × List MemPlace} (ht : P.underlying t = some (.int k)) (h : DataW.trod enc P w base (fun _ => true) held fuel t [v] = some x) : ∃ n, v = .int k n ∧ (Lit.int k n).wf = true := by
  obtain ⟨n, h1, _, h2⟩ := DataW.trod_int ht h
  exact ⟨n, by simpa using h1, h2⟩
theorem open_agg1 {r : Reach} {b0 : Nat} {t : TypeId} {f0 : Field} {v : Value} {d : DataW H} {p : List MemPlace} {spare : Nat → Bool} (hs : P.underlying t = some (.struct #[f0])) (hone : oneCellFields P #[f0] = true) (hC : P.cellsOf t = 1)
    (hv : Value.okWide P w r b0 t v) (h : DataW.Trod enc P w base spare held t v d p) :
    ∃ (v0 : Value) (y0 : DataW H × List MemPlace) (n : Nat), v = .agg #[v0] ∧ DataW.trod enc P w base spare held n f0.type [v0] = some y0 := by
  obtain ⟨cs, rfl, hsz⟩ := okWide_struct hs hv
  have hsz1 : cs.size = 1 := hsz.trans hC
  obtain ⟨c0, rfl⟩ : ∃ c0, cs = #[c0] := by
    obtain ⟨l⟩ := cs
    match l, hsz1 with
    | [c0], _ => exact ⟨c0, rfl⟩
  obtain ⟨fuel, hf⟩ := h
  obtain ⟨y0, n, hx, _, h0⟩ := trod_struct1 hs hf
  obtain ⟨o0, k0⟩ := hone_of hone 0 f0 rfl
  exact ⟨c0, y0, n, rfl, by simpa [Value.cells, o0, k0] using h0⟩
end
end Go.Proofs.YtdiadcmkddkjpaaW.PrintWords
namespace Go.Proofs.YtdiadcmkddkjpaaW.PrintWords
open Go.ChangeShapes Go.WideShapes
end Go.Proofs.YtdiadcmkddkjpaaW.PrintWords
