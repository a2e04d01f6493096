/- What the proof of the law ClassOfCrossed stands on, part 7: words, each Go function's Lean function, and that the Go code comes to its answers; no condition. (Packed by wip/myprint/pack.py out of what the kit's printer wrote, its words among it, partly by our patches of it, and out of texts of this session.) -/
import Derived.Test.YtpppnoliogdkiaaRows
import Derived.WalkKit
import Derived.ProofKit
import Derived.KernelRfl
import Derived.Test.YtpppnoliogdkiaaKClassOfCrossed3
import Derived.Test.YtpppnoliogdkiaaKClassOfCrossed4
import Derived.Test.YtpppnoliogdkiaaKClassOfCrossed6
set_option linter.unusedVariables false
set_option linter.unusedSimpArgs false
set_option maxHeartbeats 2000000
set_option maxRecDepth 20000
namespace Go.Proofs.Ytpppnoliogdkiaa.V
open Go.RowKit Go.Proofs.Ytpppnoliogdkiaa.D Go.Proofs.Ytpppnoliogdkiaa.P
theorem In_ (x lo hi : Int) : spec_l01In.f x lo hi = some (B (lo ≤ x ∧ x ≤ hi)) := by
  rw [spec_l01In.f_eq]
  by_cases h : x ≥ lo
  · rw [if_pos h, B_decide, B_congr (show x ≤ hi ↔ (lo ≤ x ∧ x ≤ hi) from ⟨fun h' => ⟨h, h'⟩, fun h' => h'.2⟩)]
  · rw [if_neg h, B_neg (fun h' => h h'.1)]
def LawS (g : List (List Int)) (a : Int) : Prop := T g 0 a = a ∧ T g a 0 = a ∧ (∀ b : Int, 0 ≤ b → b < g.length → ∀ c : Int, 0 ≤ c → c < g.length → T g (T g a b) c = T g a (T g b c)) ∧ ∃ b : Int, 0 ≤ b ∧ b < g.length ∧ T g a b = 0 ∧ T g b a = 0
theorem grp_iffS (g : List (List Int)) : Grp g ↔ (1 ≤ g.length ∧ g.length ≤ 8) ∧ Tab g ∧ ∀ a : Int, 0 ≤ a → a < g.length → LawS g a := by
  rw [grp_iff]
  constructor
  · intro h
    have hg := (grp_iff g).2 h
    refine ⟨h.1, h.2.1, fun a a0 a1 => ?_⟩
    obtain ⟨h1, h2, _, h4⟩ := h.2.2 a a0 a1
    exact ⟨h1, h2, h4, hg.inv2 a0 a1⟩
  · rintro ⟨h1, h2, h3⟩
    refine ⟨h1, h2, fun a a0 a1 => ?_⟩
    obtain ⟨k1, k2, k3, b, b0, b1, hb, _⟩ := h3 a a0 a1
    exact ⟨k1, k2, ⟨b, b0, b1, hb⟩, k3⟩
theorem Is_ (g : List (List Int)) : spec_l01Is.f g = some (B (Grp g)) := by
  rw [B_congr (grp_iffS g)]
  (rw [spec_l01Is.f_eq])
  by_cases c1 : 1 ≤ (g.length : Int) ∧ (g.length : Int) ≤ 8
  rotate_left
  · rw [B_neg fun h => c1 (by omega)]
    ((with_reducible repeat (first | refine go_pos (by first | assumption | omega | rfl | exact B_pos (by omega)) ?_ | refine go_neg (by first | assumption | omega | decide | exact B_not (by omega)) ?_ | refine go_bind (by first | assumption | exact In_ _ _ _) ?_ | dsimp only)); first | done | (with_reducible rfl) | simp (disch := omega) only [w64] | (show False; done))
  rw [B_congr (show ((1 ≤ g.length ∧ g.length ≤ 8) ∧ Tab g ∧ ∀ a : Int, 0 ≤ a → a < g.length → LawS g a) ↔ (Tab g ∧ ∀ a : Int, 0 ≤ a → a < g.length → LawS g a) from ⟨fun h => h.2, fun h => ⟨by omega, h⟩⟩)]
  (with_reducible repeat (first | refine go_pos (by first | assumption | omega | rfl | exact B_pos (by omega)) ?_ | refine go_neg (by first | assumption | omega | decide | exact B_not (by omega)) ?_ | refine go_bind (by first | assumption | exact In_ _ _ _) ?_ | dsimp only))
  have hw1 : wrapI ((g.length : Int) - 1) = g.length - 1 := w64 (by omega) (by omega)
  refine scanB g.length (fun i => spec_l01Is.l0 (g.length : Int) i g) (fun a => (row g a).length = g.length ∧ AllIn g.length (row g a)) (∀ a : Int, 0 ≤ a → a < g.length → LawS g a) (fun a a0 a1 _ => ?_) (fun ht => ?_)
  · by_cases h2 : ((row g a).length : Int) = g.length
    rotate_left
    · refine ⟨fun h => absurd h.1 (by omega), fun _ => ?_⟩
      (rw [spec_l01Is.l0_eq])
      ((with_reducible repeat (first | refine go_pos (by first | assumption | omega | rfl | exact B_pos (by omega)) ?_ | refine go_neg (by first | assumption | omega | decide | exact B_not (by omega)) ?_ | refine go_bind (by first | assumption) ?_ | dsimp only)); first | done | (with_reducible rfl) | simp (disch := omega) only [w64] | (show False; done))
    have inner := scanI g.length (fun b => spec_l01Is.l1 (g.length : Int) a b g) (fun b => 0 ≤ T g a b ∧ T g a b < g.length) (some false) (spec_l01Is.l0 (g.length : Int) (a + 1) g)
      (fun b b0 b1 _ => by refine ⟨fun h => ?_, fun h => ?_⟩ <;> (rw [spec_l01Is.l1_eq, hw1]) <;> ((with_reducible repeat (first | refine go_pos (by first | assumption | omega | rfl | exact B_pos (by omega)) ?_ | refine go_neg (by first | assumption | omega | decide | exact B_not (by omega)) ?_ | refine go_bind (by first | assumption | exact In_ _ _ _) ?_ | dsimp only)); first | done | (with_reducible rfl) | simp (disch := omega) only [w64] | (show False; done))) (fun _ => by (rw [spec_l01Is.l1_eq]); ((with_reducible repeat (first | refine go_pos (by first | assumption | omega | rfl | exact B_pos (by omega)) ?_ | refine go_neg (by first | assumption | omega | decide | exact B_not (by omega)) ?_ | refine go_bind (by first | assumption) ?_ | dsimp only)); first | done | (with_reducible rfl) | simp (disch := omega) only [w64] | (show False; done)))
    refine ⟨fun h => ?_, fun h => ?_⟩ <;> (rw [spec_l01Is.l0_eq]) <;> (with_reducible repeat (first | refine go_pos (by first | assumption | omega | rfl | exact B_pos (by omega)) ?_ | refine go_neg (by first | assumption | omega | decide | exact B_not (by omega)) ?_ | refine go_bind (by first | assumption) ?_ | dsimp only))
    · exact inner.1 fun j j0 j1 => h.2 j j0 (by omega)
    · exact inner.2 fun k => h ⟨by omega, fun j j0 j1 => k j j0 (by omega)⟩
  (rw [spec_l01Is.l0_eq])
  (with_reducible repeat (first | refine go_pos (by first | assumption | omega | rfl | exact B_pos (by omega)) ?_ | refine go_neg (by first | assumption | omega | decide | exact B_not (by omega)) ?_ | refine go_bind (by first | assumption) ?_ | dsimp only))
  refine scanT g.length (fun i => spec_l01Is.l2 (g.length : Int) i g) (LawS g) (fun a a0 a1 _ => ?_) (fun _ => by (rw [spec_l01Is.l2_eq]); ((with_reducible repeat (first | refine go_pos (by first | assumption | omega | rfl | exact B_pos (by omega)) ?_ | refine go_neg (by first | assumption | omega | decide | exact B_not (by omega)) ?_ | refine go_bind (by first | assumption) ?_ | dsimp only)); first | done | (with_reducible rfl) | simp (disch := omega) only [w64] | (show False; done)))
  have hlen : ∀ x : Int, 0 ≤ x → x < g.length → ((row g x).length : Int) = g.length := fun x x0 x1 => by rw [(ht x x0 x1).1]
  have hent : ∀ x y : Int, 0 ≤ x → x < g.length → 0 ≤ y → y < g.length → 0 ≤ T g x y ∧ T g x y < g.length := fun x y x0 x1 y0 y1 => (ht x x0 x1).2 y y0 (by rw [hlen x x0 x1]; exact y1)
  have l0 := hlen 0 (by omega) (by omega)
  have la := hlen a a0 a1
  by_cases h2 : T g 0 a = a
  rotate_left
  · refine ⟨fun h => absurd h.1 h2, fun _ => ?_⟩
    (rw [spec_l01Is.l2_eq])
    ((with_reducible repeat (first | refine go_pos (by first | assumption | omega | rfl | exact B_pos (by omega)) ?_ | refine go_neg (by first | assumption | omega | decide | exact B_not (by omega)) ?_ | refine go_bind (by first | assumption) ?_ | dsimp only)); first | done | (with_reducible rfl) | simp (disch := omega) only [w64] | (show False; done))
  by_cases h3 : T g a 0 = a
  rotate_left
  · refine ⟨fun h => absurd h.2.1 h3, fun _ => ?_⟩
    (rw [spec_l01Is.l2_eq])
    ((with_reducible repeat (first | refine go_pos (by first | assumption | omega | rfl | exact B_pos (by omega)) ?_ | refine go_neg (by first | assumption | omega | decide | exact B_not (by omega)) ?_ | refine go_bind (by first | assumption) ?_ | dsimp only)); first | done | (with_reducible rfl) | simp (disch := omega) only [w64] | (show False; done))
  let Fd : Int → Prop := fun b => ∃ j : Int, 0 ≤ j ∧ j < b ∧ T g a j = 0 ∧ T g j a = 0
  have fd0 : B (Fd 0) = false := B_neg fun ⟨j, j0, j1, _⟩ => by omega
  have inner := scan g.length (fun b => spec_l01Is.l3 (g.length : Int) a (B (Fd b)) b g) (fun b => ∀ c : Int, 0 ≤ c → c < g.length → T g (T g a b) c = T g a (T g b c)) (some false) (fun b b0 b1 _ => by
    obtain ⟨e0, e1⟩ := hent a b a0 a1 b0 b1
    have le := hlen _ e0 e1
    have lb := hlen b b0 b1
    have toj : spec_l01Is.l3 (g.length : Int) a (B (Fd b)) b g = spec_l01Is.l4 (g.length : Int) a (B (Fd (b + 1))) b 0 g := by
      by_cases k1 : Fd b
      · rw [B_pos k1, B_pos (show Fd (b + 1) from by obtain ⟨j, j0, j1, h⟩ := k1; exact ⟨j, j0, by omega, h⟩)]
        (rw [spec_l01Is.l3_eq])
        ((with_reducible repeat (first | refine go_pos (by first | assumption | omega | rfl | exact B_pos (by omega)) ?_ | refine go_neg (by first | assumption | omega | decide | exact B_not (by omega)) ?_ | refine go_bind (by first | assumption) ?_ | dsimp only)); first | done | (with_reducible rfl) | simp (disch := omega) only [w64] | (show False; done))
      · rw [B_neg k1]
        by_cases k2 : T g a b = 0
        · have e : B (Fd (b + 1)) = decide (T g b a = 0) := by
            by_cases k3 : T g b a = 0
            · rw [B_pos ⟨b, b0, by omega, k2, k3⟩]; simp [k3]
            · rw [B_neg]
              · simp [k3]
              · rintro ⟨j, j0, j1, ja, jb⟩
                by_cases ej : j = b
                · subst ej; exact k3 jb
                · exact k1 ⟨j, j0, by omega, ja, jb⟩
          rw [e]
          (rw [spec_l01Is.l3_eq])
          ((with_reducible repeat (first | refine go_pos (by first | assumption | omega | rfl | exact B_pos (by omega)) ?_ | refine go_neg (by first | assumption | omega | decide | exact B_not (by omega)) ?_ | refine go_bind (by first | assumption) ?_ | dsimp only)); first | done | (with_reducible rfl) | simp (disch := omega) only [w64] | (show False; done))
        · rw [B_neg (show ¬ Fd (b + 1) from by
            rintro ⟨j, j0, j1, ja, jb⟩
            by_cases ej : j = b
            · subst ej; exact k2 ja
            · exact k1 ⟨j, j0, by omega, ja, jb⟩)]
          (rw [spec_l01Is.l3_eq])
          ((with_reducible repeat (first | refine go_pos (by first | assumption | omega | rfl | exact B_pos (by omega)) ?_ | refine go_neg (by first | assumption | omega | decide | exact B_not (by omega)) ?_ | refine go_bind (by first | assumption) ?_ | dsimp only)); first | done | (with_reducible rfl) | simp (disch := omega) only [w64] | (show False; done))
    have inner4 := scanI g.length (fun c => spec_l01Is.l4 (g.length : Int) a (B (Fd (b + 1))) b c g) (fun c => T g (T g a b) c = T g a (T g b c)) (some false) (spec_l01Is.l3 (g.length : Int) a (B (Fd (b + 1))) (b + 1) g) (fun c c0 c1 _ => by
      obtain ⟨f0, f1⟩ := hent b c b0 b1 c0 c1
      refine ⟨fun h => ?_, fun h => ?_⟩ <;> (rw [spec_l01Is.l4_eq]) <;> ((with_reducible repeat (first | refine go_pos (by first | assumption | omega | rfl | exact B_pos (by omega)) ?_ | refine go_neg (by first | assumption | omega | decide | exact B_not (by omega)) ?_ | refine go_bind (by first | assumption) ?_ | dsimp only)); first | done | (with_reducible rfl) | simp (disch := omega) only [w64] | (show False; done))) (fun _ => by (rw [spec_l01Is.l4_eq]); ((with_reducible repeat (first | refine go_pos (by first | assumption | omega | rfl | exact B_pos (by omega)) ?_ | refine go_neg (by first | assumption | omega | decide | exact B_not (by omega)) ?_ | refine go_bind (by first | assumption) ?_ | dsimp only)); first | done | (with_reducible rfl) | simp (disch := omega) only [w64] | (show False; done)))
    exact ⟨fun h => toj.trans (inner4.1 h), fun h => toj.trans (inner4.2 h)⟩)
  have st : spec_l01Is.l2 (g.length : Int) a g = spec_l01Is.l3 (g.length : Int) a (B (Fd 0)) 0 g := by
    rw [fd0]
    (rw [spec_l01Is.l2_eq])
    ((with_reducible repeat (first | refine go_pos (by first | assumption | omega | rfl | exact B_pos (by omega)) ?_ | refine go_neg (by first | assumption | omega | decide | exact B_not (by omega)) ?_ | refine go_bind (by first | assumption) ?_ | dsimp only)); first | done | (with_reducible rfl) | simp (disch := omega) only [w64] | (show False; done))
  rw [st]
  rcases inner with ⟨h5, h6⟩ | ⟨b, b0, b1, _, h5, _, h6⟩
  · simp only [h6]
    by_cases h7 : Fd g.length
    · refine ⟨fun _ => ?_, fun h => absurd ⟨h2, h3, h5, h7⟩ h⟩
      rw [B_pos h7]
      (rw [spec_l01Is.l3_eq])
      ((with_reducible repeat (first | refine go_pos (by first | assumption | omega | rfl | exact B_pos (by omega)) ?_ | refine go_neg (by first | assumption | omega | decide | exact B_not (by omega)) ?_ | refine go_bind (by first | assumption) ?_ | dsimp only)); first | done | (with_reducible rfl) | simp (disch := omega) only [w64] | (show False; done))
    · refine ⟨fun h => absurd h.2.2.2 h7, fun h => ?_⟩
      rw [B_neg h7]
      (rw [spec_l01Is.l3_eq])
      ((with_reducible repeat (first | refine go_pos (by first | assumption | omega | rfl | exact B_pos (by omega)) ?_ | refine go_neg (by first | assumption | omega | decide | exact B_not (by omega)) ?_ | refine go_bind (by first | assumption) ?_ | dsimp only)); first | done | (with_reducible rfl) | simp (disch := omega) only [w64] | (show False; done))
  · exact ⟨fun h => absurd (h.2.2.1 b b0 b1) h5, fun _ => h6⟩
theorem gcd0 (y : Nat) : ∀ x : Nat, impl_gcd.l0 (x : Int) (y : Int) = some ((Nat.gcd x y : Nat) : Int) := by
  induction y using Nat.strongRecOn with
  | _ y ih =>
    intro x
    (rw [impl_gcd.l0_eq])
    by_cases h : y = 0
    · subst h
      simp
    · have e : Int.tmod (x : Int) (y : Int) = ((x % y : Nat) : Int) := by rw [Int.ofNat_tmod]
      have := ih (x % y) (Nat.mod_lt _ (by omega)) y
      rw [show Nat.gcd y (x % y) = Nat.gcd x y by rw [Nat.gcd_comm x y, Nat.gcd_rec y x, Nat.gcd_comm]] at this
      rw [e]
      (with_reducible repeat (first | refine go_pos (by first | assumption | omega | rfl | exact B_pos (by omega)) ?_ | refine go_neg (by first | assumption | omega | decide | exact B_not (by omega)) ?_ | refine go_bind (by first | assumption) ?_ | dsimp only))
      exact this
theorem gcd_ {a b : Int} (ha : 0 ≤ a) (hb : 0 ≤ b) : impl_gcd.f a b = some ((Int.gcd a b : Nat) : Int) := by
  obtain ⟨x, rfl⟩ := Int.eq_ofNat_of_zero_le ha
  obtain ⟨y, rfl⟩ := Int.eq_ofNat_of_zero_le hb
  have := gcd0 y x
  rw [impl_gcd.f_eq]
  simpa [Int.gcd] using this
theorem Gcd0 (y : Nat) : ∀ x : Nat, x ≤ 9223372036854775807 → y ≤ 9223372036854775807 → spec_l01Gcd.l0 (x : Int) (y : Int) = some ((Nat.gcd x y : Nat) : Int) := by
  induction y using Nat.strongRecOn with
  | _ y ih =>
    intro x hx hy
    (rw [spec_l01Gcd.l0_eq])
    by_cases h : y = 0
    · subst h
      have hw : wrapI (0 - (x : Int)) = -(x : Int) := by rw [w64 (by omega) (by omega)]; omega
      rw [hw, if_pos (by simp), if_neg (by omega)]
      simp
    · have e : Int.tmod (x : Int) (y : Int) = ((x % y : Nat) : Int) := by rw [Int.ofNat_tmod]
      have hlt := Nat.mod_lt x (show y > 0 by omega)
      have := ih (x % y) hlt y hy (by omega)
      rw [show Nat.gcd y (x % y) = Nat.gcd x y by rw [Nat.gcd_comm x y, Nat.gcd_rec y x, Nat.gcd_comm]] at this
      rw [e]
      (with_reducible repeat (first | refine go_pos (by first | assumption | omega | rfl | exact B_pos (by omega)) ?_ | refine go_neg (by first | assumption | omega | decide | exact B_not (by omega)) ?_ | refine go_bind (by first | assumption) ?_ | dsimp only))
      exact this
theorem Gcd_ {a b : Int} (ha : 0 ≤ a) (hb : 0 ≤ b) (ha' : a ≤ 9223372036854775807) (hb' : b ≤ 9223372036854775807) : spec_l01Gcd.f a b = some ((Int.gcd a b : Nat) : Int) := by
  obtain ⟨x, rfl⟩ := Int.eq_ofNat_of_zero_le ha
  obtain ⟨y, rfl⟩ := Int.eq_ofNat_of_zero_le hb
  have := Gcd0 y x (by omega) (by omega)
  rw [spec_l01Gcd.f_eq]
  simpa [Int.gcd] using this
theorem Grp.foldl_in {g : List (List Int)} (hg : Grp g) : ∀ (xs : List Int) (x : Int), AllIn g.length xs → 0 ≤ x → x < g.length → 0 ≤ xs.foldl (T g) x ∧ xs.foldl (T g) x < g.length := by
  intro xs
  induction xs with
  | nil => exact fun x _ a b => ⟨a, b⟩
  | cons y ys ih =>
    intro x hx x0 x1
    obtain ⟨y0, y1⟩ := hx.mem (List.mem_cons_self ..)
    obtain ⟨z0, z1⟩ := hg.ent x y x0 x1 y0 y1
    exact ih _ (allIn_of fun z hz => hx.mem (List.mem_cons_of_mem _ hz)) z0 z1
theorem take_rd {xs : List Int} {m : Nat} (h : m < xs.length) : xs.take (m + 1) = xs.take m ++ [rd xs m] := by
  rw [List.take_succ_eq_append_getElem h, rd_get h]
theorem times {g : List (List Int)} (hg : Grp g) (xs : List Int) (hx : AllIn g.length xs) (hl : xs.length ≤ maxLen) : impl_Group_times.f g xs = some (xs.foldl (T g) 0) := by
  have hm := maxLen_le
  have n1 := hg.n1
  rw [impl_Group_times.f_eq]
  have := up xs.length (fun i => impl_Group_times.l0 ((xs.take i).foldl (T g) 0) xs (xs.length : Int) (i : Int) g) (fun i hi => by
    obtain ⟨z0, z1⟩ := hg.foldl_in (xs.take i) 0 (hx.take i) (by omega) (by omega)
    obtain ⟨y0, y1⟩ := hx i (by omega) (by omega)
    have hr : ((row g ((xs.take i).foldl (T g) 0)).length : Int) = g.length := by rw [hg.row _ z0 z1]
    have hw : wrapI ((i : Int) + 1) = ((i + 1 : Nat) : Int) := by rw [w64 (by omega) (by omega)]; omega
    rw [take_rd hi, List.foldl_append, List.foldl_cons, List.foldl_nil]
    (rw [impl_Group_times.l0_eq, hw])
    ((with_reducible repeat (first | refine go_pos (by first | assumption | omega | rfl | exact B_pos (by omega)) ?_ | refine go_neg (by first | assumption | omega | decide | exact B_not (by omega)) ?_ | refine go_bind (by first | assumption) ?_ | dsimp only)); first | done | (with_reducible rfl) | simp (disch := omega) only [w64] | (show False; done)))
  simp only [List.take_zero, List.foldl_nil, List.take_length, Int.natCast_zero] at this
  rw [this]
  (rw [impl_Group_times.l0_eq])
  ((with_reducible repeat (first | refine go_pos (by first | assumption | omega | rfl | exact B_pos (by omega)) ?_ | refine go_neg (by first | assumption | omega | decide | exact B_not (by omega)) ?_ | refine go_bind (by first | assumption) ?_ | dsimp only)); first | done | (with_reducible rfl) | simp (disch := omega) only [w64] | (show False; done))
theorem times2 {g : List (List Int)} (hg : Grp g) {x y : Int} (x0 : 0 ≤ x) (x1 : x < g.length) (y0 : 0 ≤ y) (y1 : y < g.length) : impl_Group_times.f g [x, y] = some (T g x y) := by
  have := times hg [x, y] (allIn_two x0 x1 y0 y1) (by unfold maxLen; simp)
  simpa [hg.one x x0 x1] using this
end Go.Proofs.Ytpppnoliogdkiaa.V
set_option linter.unusedVariables false
set_option linter.unusedSimpArgs false
set_option maxHeartbeats 2000000
set_option maxRecDepth 20000
namespace Go.Proofs.Ytpppnoliogdkiaa.V
open Go.RowKit Go.Proofs.Ytpppnoliogdkiaa.D Go.Proofs.Ytpppnoliogdkiaa.P
structure Mdl (g : List (List Int)) (m : Int) (u : List Int) : Prop where
  m2 : 2 ≤ m
  m12 : m ≤ 12
  len : u.length = g.length
  unit : ∀ i : Int, 0 ≤ i → i < u.length → 1 ≤ rd u i ∧ rd u i < m ∧ Int.gcd (rd u i) m = 1
  hom : ∀ i : Int, 0 ≤ i → i < u.length → ∀ j : Int, 0 ≤ j → j < u.length → rd u (T g i j) = rd u i * rd u j % m
theorem unit_one : ∀ m : Nat, m ≤ 12 → ∀ u : Nat, u < m → Nat.gcd u m = 1 → u = u * u % m → 1 ≤ u → u = 1 := by decide
theorem Mdl.one {g : List (List Int)} {m : Int} {u : List Int} (hg : Grp g) (h : Mdl g m u) : rd u 0 = 1 := by
  have n1 := hg.n1
  have hl := h.len
  obtain ⟨a1, a2, a3⟩ := h.unit 0 (by omega) (by omega)
  have e := h.hom 0 (by omega) (by omega) 0 (by omega) (by omega)
  rw [hg.one 0 (by omega) (by omega)] at e
  have m2 := h.m2; have m12 := h.m12
  obtain ⟨M, rfl⟩ := Int.eq_ofNat_of_zero_le (show 0 ≤ m by omega)
  obtain ⟨U, hU⟩ := Int.eq_ofNat_of_zero_le (show 0 ≤ rd u 0 by omega)
  rw [hU] at a1 a2 a3 e ⊢
  have := unit_one M (by omega) U (by omega) (by simpa [Int.gcd] using a3) (by exact_mod_cast e) (by omega)
  omega
theorem mul_lt_small {a b m : Int} (a0 : 0 ≤ a) (a1 : a < m) (b0 : 0 ≤ b) (b1 : b < m) (hm : m ≤ 1000) : 0 ≤ a * b ∧ a * b ≤ 1000000 := by
  refine ⟨Int.mul_nonneg a0 b0, ?_⟩
  have h1 : a * b ≤ 1000 * b := Int.mul_le_mul_of_nonneg_right (by omega) b0
  omega
theorem Mdl.at {g : List (List Int)} {m : Int} {u : List Int} (h : Mdl g m u) {x : Int} (x0 : 0 ≤ x) (x1 : x < g.length) : 1 ≤ rd u x ∧ rd u x < m := by
  have hl := h.len
  obtain ⟨a, b, _⟩ := h.unit x x0 (by omega)
  exact ⟨a, b⟩
theorem small_prod {m x : Int} {u : List Int} {g : List (List Int)} (hm : Mdl g m u) (x0 : 0 ≤ x) (x1 : x < g.length) {b : Int} (b0 : 0 ≤ b) (b1 : b < m) : 0 ≤ rd u x * b ∧ rd u x * b ≤ 1000000 := by
  have m12 := hm.m12
  have := hm.at x0 x1
  exact mul_lt_small (by omega) this.2 b0 b1 (by omega)
theorem isUnit {m x : Int} (m0 : 0 ≤ m) : impl_isUnit.f m x = some (B (1 ≤ x ∧ x < m ∧ Int.gcd x m = 1)) := by
  rw [impl_isUnit.f_eq]
  by_cases h1 : 1 ≤ x ∧ x < m
  · have h := gcd_ m0 (show 0 ≤ x by omega)
    (with_reducible repeat (first | refine go_pos (by first | assumption | omega | rfl | exact B_pos (by omega)) ?_ | refine go_neg (by first | assumption | omega | decide | exact B_not (by omega)) ?_ | refine go_bind (by first | assumption) ?_ | dsimp only))
    rw [Int.gcd_comm]
    by_cases h3 : Int.gcd x m = 1
    · rw [B_pos ⟨h1.1, h1.2, h3⟩]; simp [h3]
    · rw [B_neg fun h => h3 h.2.2]
      simp; omega
  · rw [B_neg fun h => h1 ⟨h.1, h.2.1⟩]
    by_cases h2 : 1 ≤ x <;> ((with_reducible repeat (first | refine go_pos (by first | assumption | omega | rfl | exact B_pos (by omega)) ?_ | refine go_neg (by first | assumption | omega | decide | exact B_not (by omega)) ?_ | refine go_bind (by first | assumption) ?_ | dsimp only)); first | done | (with_reducible rfl) | simp (disch := omega) only [w64] | (show False; done))
theorem isModulus (m : Int) : impl_isModulus.f m = some (B (2 ≤ m ∧ m ≤ 12)) := by
  rw [impl_isModulus.f_eq]
  by_cases h : m ≥ 2
  · rw [if_pos h, B_decide, B_congr (show m ≤ 12 ↔ (2 ≤ m ∧ m ≤ 12) from ⟨fun h' => ⟨h, h'⟩, fun h' => h'.2⟩)]
  · rw [if_neg h, B_neg (fun h' => h h'.1)]
theorem mdl_iff (g : List (List Int)) (m : Int) (u : List Int) : Mdl g m u ↔ (2 ≤ m ∧ m ≤ 12) ∧ u.length = g.length ∧ (∀ i : Int, 0 ≤ i → i < u.length → 1 ≤ rd u i ∧ rd u i < m ∧ Int.gcd (rd u i) m = 1) ∧ ∀ i : Int, 0 ≤ i → i < u.length → ∀ j : Int, 0 ≤ j → j < u.length → rd u (T g i j) = rd u i * rd u j % m :=
  ⟨fun h => ⟨⟨h.m2, h.m12⟩, h.len, h.unit, h.hom⟩, fun ⟨⟨a, b⟩, c, d, e⟩ => ⟨a, b, c, d, e⟩⟩
theorem isModule {g : List (List Int)} (hg : Grp g) (m : Int) (u : List Int) (hl : u.length ≤ maxLen) : impl_isModule.f g m u = some (B (Mdl g m u)) := by
  have hm := maxLen_le
  have n1 := hg.n1
  (rw [impl_isModule.f_eq])
  by_cases h1 : 2 ≤ m ∧ m ≤ 12
  rotate_left
  · rw [B_neg fun h => h1 ⟨h.m2, h.m12⟩]
    ((with_reducible repeat (first | refine go_pos (by first | assumption | omega | rfl | exact B_pos (by omega)) ?_ | refine go_neg (by first | assumption | omega | decide | exact B_not (by omega)) ?_ | refine go_bind (by first | assumption | exact isModulus _ | exact impl_order.f_eq _) ?_ | dsimp only)); first | done | (with_reducible rfl) | simp (disch := omega) only [w64] | (show False; done))
  by_cases h3 : (u.length : Int) = g.length
  rotate_left
  · rw [B_neg fun h => h3 (by rw [h.len])]
    ((with_reducible repeat (first | refine go_pos (by first | assumption | omega | rfl | exact B_pos (by omega)) ?_ | refine go_neg (by first | assumption | omega | decide | exact B_not (by omega)) ?_ | refine go_bind (by first | assumption | exact isModulus _ | exact impl_order.f_eq _) ?_ | dsimp only)); first | done | (with_reducible rfl) | simp (disch := omega) only [w64] | (show False; done))
  by_cases h5 : rd u 0 = 1
  rotate_left
  · rw [B_neg fun h => h5 (h.one hg)]
    ((with_reducible repeat (first | refine go_pos (by first | assumption | omega | rfl | exact B_pos (by omega)) ?_ | refine go_neg (by first | assumption | omega | decide | exact B_not (by omega)) ?_ | refine go_bind (by first | assumption | exact isModulus _ | exact impl_order.f_eq _) ?_ | dsimp only)); first | done | (with_reducible rfl) | simp (disch := omega) only [w64] | (show False; done))
  (with_reducible repeat (first | refine go_pos (by first | assumption | omega | rfl | exact B_pos (by omega)) ?_ | refine go_neg (by first | assumption | omega | decide | exact B_not (by omega)) ?_ | refine go_bind (by first | assumption | exact isModulus _ | exact impl_order.f_eq _) ?_ | dsimp only))
  rw [B_congr (mdl_iff g m u), B_congr (show ((2 ≤ m ∧ m ≤ 12) ∧ u.length = g.length ∧ (∀ i : Int, 0 ≤ i → i < u.length → 1 ≤ rd u i ∧ rd u i < m ∧ Int.gcd (rd u i) m = 1) ∧ ∀ i : Int, 0 ≤ i → i < u.length → ∀ j : Int, 0 ≤ j → j < u.length → rd u (T g i j) = rd u i * rd u j % m) ↔ _ from ⟨fun h => h.2.2, fun h => ⟨h1, by omega, h⟩⟩)]
  refine scanB u.length (fun i => impl_isModule.l0 u (u.length : Int) i g m u) (fun i => 1 ≤ rd u i ∧ rd u i < m ∧ Int.gcd (rd u i) m = 1) _ (fun i i0 i1 _ => ?_) (fun hu => ?_)
  · have hu := isUnit (m := m) (x := rd u i) (by omega)
    refine ⟨fun h => ?_, fun h => ?_⟩ <;> (rw [impl_isModule.l0_eq]) <;> ((with_reducible repeat (first | refine go_pos (by first | assumption | omega | rfl | exact B_pos (by omega)) ?_ | refine go_neg (by first | assumption | omega | decide | exact B_not (by omega)) ?_ | refine go_bind (by first | assumption) ?_ | dsimp only)); first | done | (with_reducible rfl) | simp (disch := omega) only [w64] | (show False; done))
  (rw [impl_isModule.l0_eq])
  (with_reducible repeat (first | refine go_pos (by first | assumption | omega | rfl | exact B_pos (by omega)) ?_ | refine go_neg (by first | assumption | omega | decide | exact B_not (by omega)) ?_ | refine go_bind (by first | assumption | exact impl_order.f_eq _) ?_ | dsimp only))
  rw [← h3]
  refine scanT u.length (fun i => impl_isModule.l1 (u.length : Int) i g m u) (fun i => ∀ j : Int, 0 ≤ j → j < u.length → rd u (T g i j) = rd u i * rd u j % m) (fun i i0 i1 _ => ?_) (fun _ => by (rw [impl_isModule.l1_eq]); ((with_reducible repeat (first | refine go_pos (by first | assumption | omega | rfl | exact B_pos (by omega)) ?_ | refine go_neg (by first | assumption | omega | decide | exact B_not (by omega)) ?_ | refine go_bind (by first | assumption) ?_ | dsimp only)); first | done | (with_reducible rfl) | simp (disch := omega) only [w64] | (show False; done)))
  have inner := scanI u.length (fun j => impl_isModule.l2 i (u.length : Int) i (u.length : Int) j g m u) (fun j => rd u (T g i j) = rd u i * rd u j % m) (some false) (impl_isModule.l1 (u.length : Int) (i + 1) g m u) (fun j j0 j1 _ => by
    have ht := times2 hg i0 (by omega) j0 (by omega)
    obtain ⟨e0, e1⟩ := hg.ent i j i0 (by omega) j0 (by omega)
    obtain ⟨p0, p1⟩ := mul_lt_small (show 0 ≤ rd u i by have := (hu i i0 i1).1; omega) (hu i i0 i1).2.1 (show 0 ≤ rd u j by have := (hu j j0 j1).1; omega) (hu j j0 j1).2.1 (by omega)
    have hwp : wrapI (rd u i * rd u j) = rd u i * rd u j := w64 (by omega) (by omega)
    have e := tmod_nn (m := m) p0
    refine ⟨fun h => ?_, fun h => ?_⟩ <;> (rw [impl_isModule.l2_eq, hwp, e]) <;> ((with_reducible repeat (first | refine go_pos (by first | assumption | omega | rfl | exact B_pos (by omega)) ?_ | refine go_neg (by first | assumption | omega | decide | exact B_not (by omega)) ?_ | refine go_bind (by first | assumption) ?_ | dsimp only)); first | done | (with_reducible rfl) | simp (disch := omega) only [w64] | (show False; done))) (fun _ => by (rw [impl_isModule.l2_eq]); ((with_reducible repeat (first | refine go_pos (by first | assumption | omega | rfl | exact B_pos (by omega)) ?_ | refine go_neg (by first | assumption | omega | decide | exact B_not (by omega)) ?_ | refine go_bind (by first | assumption) ?_ | dsimp only)); first | done | (with_reducible rfl) | simp (disch := omega) only [w64] | (show False; done)))
  refine ⟨fun h => ?_, fun h => ?_⟩ <;> (rw [impl_isModule.l1_eq]) <;> (with_reducible repeat (first | refine go_pos (by first | assumption | omega | rfl | exact B_pos (by omega)) ?_ | refine go_neg (by first | assumption | omega | decide | exact B_not (by omega)) ?_ | refine go_bind (by first | assumption | exact impl_order.f_eq _) ?_ | dsimp only)) <;> rw [← h3]
  · exact inner.1 h
  · exact inner.2 h
theorem Is02 {g : List (List Int)} (hg : Grp g) (m : Int) (u : List Int) (hl : u.length ≤ maxLen) : spec_l02Is.f g m u = some (B (Mdl g m u)) := by
  have hm := maxLen_le
  have n1 := hg.n1
  (rw [spec_l02Is.f_eq])
  by_cases h1 : 2 ≤ m ∧ m ≤ 12
  rotate_left
  · rw [B_neg fun h => h1 ⟨h.m2, h.m12⟩]
    ((with_reducible repeat (first | refine go_pos (by first | assumption | omega | rfl | exact B_pos (by omega)) ?_ | refine go_neg (by first | assumption | omega | decide | exact B_not (by omega)) ?_ | refine go_bind (by first | assumption | exact In_ _ _ _) ?_ | dsimp only)); first | done | (with_reducible rfl) | simp (disch := omega) only [w64] | (show False; done))
  by_cases h3 : (u.length : Int) = g.length
  rotate_left
  · rw [B_neg fun h => h3 (by rw [h.len])]
    ((with_reducible repeat (first | refine go_pos (by first | assumption | omega | rfl | exact B_pos (by omega)) ?_ | refine go_neg (by first | assumption | omega | decide | exact B_not (by omega)) ?_ | refine go_bind (by first | assumption | exact In_ _ _ _) ?_ | dsimp only)); first | done | (with_reducible rfl) | simp (disch := omega) only [w64] | (show False; done))
  (with_reducible repeat (first | refine go_pos (by first | assumption | omega | rfl | exact B_pos (by omega)) ?_ | refine go_neg (by first | assumption | omega | decide | exact B_not (by omega)) ?_ | refine go_bind (by first | assumption | exact In_ _ _ _) ?_ | dsimp only))
  rw [B_congr (mdl_iff g m u), B_congr (show ((2 ≤ m ∧ m ≤ 12) ∧ u.length = g.length ∧ (∀ i : Int, 0 ≤ i → i < u.length → 1 ≤ rd u i ∧ rd u i < m ∧ Int.gcd (rd u i) m = 1) ∧ ∀ i : Int, 0 ≤ i → i < u.length → ∀ j : Int, 0 ≤ j → j < u.length → rd u (T g i j) = rd u i * rd u j % m) ↔ _ from ⟨fun h => h.2.2, fun h => ⟨h1, by omega, h⟩⟩)]
  have hw1 : wrapI (m - 1) = m - 1 := w64 (by omega) (by omega)
  refine scanB u.length (fun i => spec_l02Is.l0 i g m u) (fun i => 1 ≤ rd u i ∧ rd u i < m ∧ Int.gcd (rd u i) m = 1) _ (fun i i0 i1 _ => ?_) (fun hu => ?_)
  · refine ⟨fun h => ?_, fun h => ?_⟩ <;> (rw [spec_l02Is.l0_eq, hw1])
    · have hgc := Gcd_ (a := rd u i) (b := m) (by omega) (by omega) (by omega) (by omega)
      ((with_reducible repeat (first | refine go_pos (by first | assumption | omega | rfl | exact B_pos (by omega)) ?_ | refine go_neg (by first | assumption | omega | decide | exact B_not (by omega)) ?_ | refine go_bind (by first | assumption | exact In_ _ _ _) ?_ | dsimp only)); first | done | (with_reducible rfl) | simp (disch := omega) only [w64] | (show False; done))
    · by_cases h6 : 1 ≤ rd u i ∧ rd u i < m
      · have hgc := Gcd_ (a := rd u i) (b := m) (by omega) (by omega) (by omega) (by omega)
        ((with_reducible repeat (first | refine go_pos (by first | assumption | omega | rfl | exact B_pos (by omega)) ?_ | refine go_neg (by first | assumption | omega | decide | exact B_not (by omega)) ?_ | refine go_bind (by first | assumption | exact In_ _ _ _) ?_ | dsimp only)); first | done | (with_reducible rfl) | simp (disch := omega) only [w64] | (show False; done))
      · ((with_reducible repeat (first | refine go_pos (by first | assumption | omega | rfl | exact B_pos (by omega)) ?_ | refine go_neg (by first | assumption | omega | decide | exact B_not (by omega)) ?_ | refine go_bind (by first | assumption | exact In_ _ _ _) ?_ | dsimp only)); first | done | (with_reducible rfl) | simp (disch := omega) only [w64] | (show False; done))
  (rw [spec_l02Is.l0_eq])
  (with_reducible repeat (first | refine go_pos (by first | assumption | omega | rfl | exact B_pos (by omega)) ?_ | refine go_neg (by first | assumption | omega | decide | exact B_not (by omega)) ?_ | refine go_bind (by first | assumption) ?_ | dsimp only))
  refine scanT u.length (fun i => spec_l02Is.l1 i g m u) (fun i => ∀ j : Int, 0 ≤ j → j < u.length → rd u (T g i j) = rd u i * rd u j % m) (fun i i0 i1 _ => ?_) (fun _ => by (rw [spec_l02Is.l1_eq]); ((with_reducible repeat (first | refine go_pos (by first | assumption | omega | rfl | exact B_pos (by omega)) ?_ | refine go_neg (by first | assumption | omega | decide | exact B_not (by omega)) ?_ | refine go_bind (by first | assumption) ?_ | dsimp only)); first | done | (with_reducible rfl) | simp (disch := omega) only [w64] | (show False; done)))
  have ri := hg.row i i0 (by omega)
  have inner := scanI u.length (fun j => spec_l02Is.l2 i j g m u) (fun j => rd u (T g i j) = rd u i * rd u j % m) (some false) (spec_l02Is.l1 (i + 1) g m u) (fun j j0 j1 _ => by
    obtain ⟨e0, e1⟩ := hg.ent i j i0 (by omega) j0 (by omega)
    obtain ⟨p0, p1⟩ := mul_lt_small (show 0 ≤ rd u i by have := (hu i i0 i1).1; omega) (hu i i0 i1).2.1 (show 0 ≤ rd u j by have := (hu j j0 j1).1; omega) (hu j j0 j1).2.1 (by omega)
    have hwp : wrapI (rd u i * rd u j) = rd u i * rd u j := w64 (by omega) (by omega)
    have e := tmod_nn (m := m) p0
    refine ⟨fun h => ?_, fun h => ?_⟩ <;> (rw [spec_l02Is.l2_eq, hwp, e]) <;> ((with_reducible repeat (first | refine go_pos (by first | assumption | omega | rfl | exact B_pos (by omega)) ?_ | refine go_neg (by first | assumption | omega | decide | exact B_not (by omega)) ?_ | refine go_bind (by first | assumption) ?_ | dsimp only)); first | done | (with_reducible rfl) | simp (disch := omega) only [w64] | (show False; done))) (fun _ => by (rw [spec_l02Is.l2_eq]); ((with_reducible repeat (first | refine go_pos (by first | assumption | omega | rfl | exact B_pos (by omega)) ?_ | refine go_neg (by first | assumption | omega | decide | exact B_not (by omega)) ?_ | refine go_bind (by first | assumption) ?_ | dsimp only)); first | done | (with_reducible rfl) | simp (disch := omega) only [w64] | (show False; done)))
  refine ⟨fun h => ?_, fun h => ?_⟩ <;> (rw [spec_l02Is.l1_eq]) <;> (with_reducible repeat (first | refine go_pos (by first | assumption | omega | rfl | exact B_pos (by omega)) ?_ | refine go_neg (by first | assumption | omega | decide | exact B_not (by omega)) ?_ | refine go_bind (by first | assumption) ?_ | dsimp only))
  · exact inner.1 h
  · exact inner.2 h
def GM (g : List (List Int)) (m : Int) (u : List Int) : Prop := Grp g ∧ Mdl g m u
theorem areModules1 (g : List (List Int)) (hl : g.length ≤ maxLen) (hr : ∀ r ∈ g, r.length ≤ maxLen) (m : Int) (u : List Int) (hu : u.length ≤ maxLen) : impl_areModules.f g [(m, u)] = some (B (GM g m u)) := by
  have hG := isGroup g hl hr
  rw [impl_areModules.f_eq]
  have st : impl_areModules.l0 [(m, u)] (([(m, u)] : List (Int × List Int)).length : Int) 1 g = some true := by (rw [impl_areModules.l0_eq]); exact if_neg (by simp)
  (rw [impl_areModules.l0_eq])
  rw [if_pos (by simp), if_pos (by simp), if_pos (by simp), hG]
  by_cases h1 : Grp g
  · have hM := isModule h1 m u hu
    rw [B_pos h1]
    show (Option.bind (impl_isModule.f g m u) _) = _
    rw [hM]
    by_cases h2 : Mdl g m u
    · rw [B_pos h2, B_pos ⟨h1, h2⟩]
      simpa [show wrapI 1 = 1 from w64 (by omega) (by omega)] using st
    · rw [B_neg h2, B_neg fun h => h2 h.2]
      rfl
  · rw [B_neg h1, B_neg fun h => h1 h.1]
    rfl
theorem moduleCode1 (g : List (List Int)) (hl : g.length ≤ maxLen) (hr : ∀ r ∈ g, r.length ≤ maxLen) (m : Int) (u : List Int) (hu : u.length ≤ maxLen) : impl_moduleCode.f g [(m, u)] = some (ite_ (GM g m u) 0 1) := by
  rw [impl_moduleCode.f_eq, areModules1 g hl hr m u hu]
  by_cases h : GM g m u
  · rw [B_pos h, ite_pos h]; rfl
  · rw [B_neg h, ite_neg h]; rfl
end Go.Proofs.Ytpppnoliogdkiaa.V
set_option linter.unusedVariables false
set_option linter.unusedSimpArgs false
set_option maxHeartbeats 2000000
set_option maxRecDepth 20000
namespace Go.Proofs.Ytpppnoliogdkiaa.V
open Go.RowKit Go.Proofs.Ytpppnoliogdkiaa.D Go.Proofs.Ytpppnoliogdkiaa.P
theorem Mod_ {a m : Int} (h0 : -1000000000 ≤ a) (h1 : a ≤ 1000000000) (m0 : 0 < m) (m1 : m ≤ 1000000) : spec_l01Mod.f a m = some (a % m) := by
  rw [spec_l01Mod.f_eq]
  have t0 := Int.tmod_lt_of_pos a m0
  have t1 : -m < Int.tmod a m := Int.lt_tmod_of_pos a m0
  have hq := Int.mul_tdiv_add_tmod a m
  have h5 : (m * a.tdiv m + a.tmod m) % m = a.tmod m % m := by rw [Int.add_comm, Int.add_mul_emod_self_left]
  rw [hq] at h5
  rw [w64 (by omega) (by omega), Int.tmod_eq_emod_of_nonneg (show 0 ≤ Int.tmod a m + m by omega), Int.add_emod_right, ← h5]
  ((with_reducible repeat (first | refine go_pos (by first | assumption | omega | rfl | exact B_pos (by omega)) ?_ | refine go_neg (by first | assumption | omega | decide | exact B_not (by omega)) ?_ | refine go_bind (by first | assumption) ?_ | dsimp only)); first | done | (with_reducible rfl) | simp (disch := omega) only [w64] | (show False; done))
theorem pow_nat : ∀ n : Nat, n ≤ 7 → ∀ i : Nat, i ≤ 5 → n ^ i ≤ 16807 := by decide
theorem pow_bd {a : Int} (h0 : 0 ≤ a) (h1 : a ≤ 7) (i : Nat) (hi : i ≤ 5) : 0 ≤ a ^ i ∧ a ^ i ≤ 16807 := by
  obtain ⟨n, rfl⟩ := Int.eq_ofNat_of_zero_le h0
  have h := pow_nat n (by omega) i hi
  rw [← Int.natCast_pow]
  omega
def cells (g : List (List Int)) (d : Int) : Int := ((g.length : Int) - 1) ^ d.toNat
theorem cells_bd {g : List (List Int)} (hg : Grp g) {d : Int} (h1 : d ≤ 5) : 0 ≤ cells g d ∧ cells g d ≤ 16807 := by
  have n8 := hg.n8; have n0 := hg.n1
  exact pow_bd (by omega) (by omega) _ (by omega)
def Co (g : List (List Int)) (m d : Int) (v : List Int) : Prop := (0 ≤ d ∧ d ≤ 3) ∧ (v.length : Int) = cells g d ∧ AllIn m v
def idx (g : List (List Int)) (xs : List Int) : Int := xs.foldl (fun a x => a * ((g.length : Int) - 1) + x - 1) 0
def NoUnit (xs : List Int) : Prop := ∀ j : Int, 0 ≤ j → j < xs.length → ¬ rd xs j = 0
noncomputable def At (g : List (List Int)) (v xs : List Int) : Int := ite_ (NoUnit xs) (rd v (idx g xs)) 0
end Go.Proofs.Ytpppnoliogdkiaa.V
set_option linter.unusedVariables false
set_option linter.unusedSimpArgs false
set_option maxHeartbeats 2000000
set_option maxRecDepth 20000
namespace Go.Proofs.Ytpppnoliogdkiaa.V
open Go.RowKit Go.Proofs.Ytpppnoliogdkiaa.D Go.Proofs.Ytpppnoliogdkiaa.P
def lst (b : Int) : Nat → Int → List Int
  | 0, _ => []
  | n + 1, i => lst b n (i / b) ++ [i % b + 1]
theorem mapped {F : Int → Option Int} {G : Int → Int} (xs : List Int) (hl : xs.length ≤ 1048576) (hF : ∀ x ∈ xs, F x = some (G x)) : impl_mapped.f xs F = some (xs.map G) := by
  rw [impl_mapped.f_eq]
  have := up xs.length (fun j => impl_mapped.l0 F xs (xs.length : Int) (j : Int) ((xs.take j).map G)) (fun j h => by
    have hw : wrapI ((j : Int) + 1) = ((j + 1 : Nat) : Int) := by rw [w64 (by omega) (by omega)]; omega
    have l1 : ((xs.take j).map G).length = j := by rw [List.length_map, List.length_take]; omega
    have l2 : ∀ x : Int, ([x] : List Int).length = 1 := fun _ => rfl
    have hf := hF _ (rd_mem (show (0 : Int) ≤ j by omega) (show (j : Int) < xs.length by omega))
    rw [take_rd h, List.map_append, List.map_singleton, impl_mapped.l0_eq, hw, hf, Option.bind_some, l1, l2]
    ((with_reducible repeat (first | refine go_pos (by first | assumption | omega | rfl | exact B_pos (by omega)) ?_ | refine go_neg (by first | assumption | omega | decide | exact B_not (by omega)) ?_ | refine go_bind (by first | assumption) ?_ | dsimp only)); first | done | (with_reducible rfl) | simp (disch := omega) only [w64] | (show False; done)))
  simp only [Int.natCast_zero, List.take_zero, List.map_nil, List.take_length] at this
  rw [this, impl_mapped.l0_eq]
  ((with_reducible repeat (first | refine go_pos (by first | assumption | omega | rfl | exact B_pos (by omega)) ?_ | refine go_neg (by first | assumption | omega | decide | exact B_not (by omega)) ?_ | refine go_bind (by first | assumption) ?_ | dsimp only)); first | done | (with_reducible rfl) | simp (disch := omega) only [w64] | (show False; done))
end Go.Proofs.Ytpppnoliogdkiaa.V
set_option linter.unusedVariables false
set_option linter.unusedSimpArgs false
set_option maxHeartbeats 2000000
set_option maxRecDepth 20000
namespace Go.Proofs.Ytpppnoliogdkiaa.V
open Go.RowKit Go.Proofs.Ytpppnoliogdkiaa.D Go.Proofs.Ytpppnoliogdkiaa.P
def join2 (g : List (List Int)) (xs : List Int) (j : Nat) : List Int := (xs.take j ++ [T g (rd xs j) (rd xs (j + 1 : Nat))]) ++ xs.drop (j + 2)
noncomputable def bsum (g : List (List Int)) (u v xs : List Int) : Nat → Int × Int
  | 0 => (rd u (rd xs 0) * At g v (xs.drop 1), -1)
  | j + 1 => ((bsum g u v xs j).1 + (bsum g u v xs j).2 * At g v (join2 g xs j), 0 - (bsum g u v xs j).2)
noncomputable def Bd (g : List (List Int)) (u v xs : List Int) (d : Nat) : Int := (bsum g u v xs d).1 + (bsum g u v xs d).2 * At g v (xs.take d)
noncomputable def bdV (g : List (List Int)) (u v : List Int) (d i : Nat) : Int := Bd g u v (lst ((g.length : Int) - 1) (d + 1) (i : Int)) d
noncomputable def bdL (g : List (List Int)) (m : Int) (u v : List Int) (d : Nat) : List Int := (List.range (cells g ((d + 1 : Nat) : Int)).toNat).map fun i => bdV g u v d i % m
end Go.Proofs.Ytpppnoliogdkiaa.V
set_option linter.unusedVariables false
set_option linter.unusedSimpArgs false
namespace Go.Proofs.Ytpppnoliogdkiaa.V
open Go.RowKit Go.Proofs.Ytpppnoliogdkiaa.D
abbrev Vc := Nat → Int
inductive Sp (m : Int) (W : Nat) (G : Vc → Prop) : Vc → Prop
  | nil : Sp m W G (fun _ => 0)
  | add {x g : Vc} (c : Int) : Sp m W G x → G g → Sp m W G (fun i => x i + c * g i)
  | alike {x y : Vc} : Sp m W G x → (∀ i, i < W → m ∣ x i - y i) → Sp m W G y
section
variable {m : Int} {W : Nat} {G G' : Vc → Prop} {x y : Vc}
theorem dvd_same {m a b : Int} (h : a = b) : m ∣ a - b := ⟨0, by omega⟩
theorem Sp.plus (hx : Sp m W G x) (hy : Sp m W G y) : Sp m W G (fun i => x i + y i) := by
  induction hy with
  | nil => exact .alike hx fun i _ => dvd_same (by dsimp only; omega)
  | add c _ hg ih => exact .alike (.add c ih hg) fun i _ => dvd_same (by dsimp only; omega)
  | alike _ h ih =>
    refine .alike ih fun i hi => ?_
    have := h i hi
    rwa [show ∀ a b c : Int, a + b - (a + c) = b - c from fun a b c => by omega]
theorem Sp.mul (c : Int) (hx : Sp m W G x) : Sp m W G (fun i => c * x i) := by
  induction hx with
  | nil => exact .alike .nil fun i _ => dvd_same (by simp)
  | add d _ hg ih => exact .alike (.add (c * d) ih hg) fun i _ => dvd_same (by rw [Int.mul_add, Int.mul_assoc])
  | alike _ h ih =>
    refine .alike ih fun i hi => ?_
    rw [← Int.mul_sub]
    exact Int.dvd_mul_of_dvd_right (h i hi)
theorem Sp.gen {g : Vc} (h : G g) : Sp m W G g := .alike (.add 1 .nil h) fun i _ => dvd_same (by omega)
theorem Sp.mono (h : ∀ g, G g → Sp m W G' g) (hx : Sp m W G x) : Sp m W G' x := by
  induction hx with
  | nil => exact .nil
  | add c _ hg ih => exact ih.plus ((h _ hg).mul c)
  | alike _ h' ih => exact .alike ih h'
theorem Sp.two {a b : Int} (hx : Sp m W G x) (hy : Sp m W G y) {z : Vc} (h : ∀ i, i < W → m ∣ a * x i + b * y i - z i) : Sp m W G z := .alike ((hx.mul a).plus (hy.mul b)) h
theorem Sp.dvd {d : Int} (hd : d ∣ m) {i : Nat} (hi : i < W) (h : ∀ g, G g → d ∣ g i) (hx : Sp m W G x) : d ∣ x i := by
  induction hx with
  | nil => exact Int.dvd_zero d
  | add c _ hg ih => exact Int.dvd_add ih (Int.dvd_mul_of_dvd_right (h _ hg))
  | alike _ h' ih =>
    have := Int.dvd_sub ih (Int.dvd_trans hd (h' i hi))
    rwa [show ∀ a b : Int, a - (a - b) = b from fun a b => by omega] at this
structure Sub (m : Int) (W : Nat) (M : Vc → Prop) : Prop where
  zero : M fun _ => 0
  lin : ∀ x y, M x → M y → ∀ c, M fun i => x i + c * y i
  alike : ∀ x y, M x → (∀ i, i < W → m ∣ x i - y i) → M y
theorem Sp.sub : Sub m W (Sp m W G) := ⟨.nil, fun _ _ hx hy c => hx.plus (hy.mul c), fun _ _ hx h => .alike hx h⟩
theorem Sub.all {M : Vc → Prop} (hM : Sub m W M) (h : ∀ g, G g → M g) (hx : Sp m W G x) : M x := by
  induction hx with
  | nil => exact hM.zero
  | add c _ hg ih => exact hM.lin _ _ ih (h _ hg) c
  | alike _ h' ih => exact hM.alike _ _ ih h'
end
def V (x : List Int) : Vc := fun i => rd x (i : Int)
structure PRow (m : Int) (W j : Nat) (r : List Int) : Prop where
  len : r.length = W
  ent : AllIn m r
  zero : ∀ i : Nat, i < j → rd r (i : Int) = 0
  pos : 0 < rd r (j : Int)
  lt : rd r (j : Int) < m
  dvd : rd r (j : Int) ∣ m
structure PTab (m : Int) (W : Nat) (p : List (List Int)) : Prop where
  len : p.length = W
  rws : ∀ j : Nat, j < W → row p (j : Int) = [] ∨ PRow m W j (row p (j : Int))
def Rws (W : Nat) (p : List (List Int)) (k : Nat) : Vc → Prop := fun g => ∃ j : Nat, k ≤ j ∧ j < W ∧ row p (j : Int) ≠ [] ∧ g = V (row p (j : Int))
def GT (W : Nat) (p st : List (List Int)) (k : Nat) : Vc → Prop := fun g => Rws W p k g ∨ ∃ s ∈ st, (∀ i : Nat, i < k → rd s (i : Int) = 0) ∧ g = V s
def How (m : Int) (W : Nat) (p : List (List Int)) (G : Nat → Vc → Prop) : Prop := ∀ j : Nat, j < W → row p (j : Int) ≠ [] → Sp m W (G (j + 1)) (fun i => m / rd (row p (j : Int)) (j : Int) * rd (row p (j : Int)) (i : Int))
structure Inv (m : Int) (W : Nat) (p st : List (List Int)) : Prop where
  tab : PTab m W p
  sts : ∀ s ∈ st, s.length = W ∧ AllIn m s
  how : How m W p (GT W p st)
def dv (m : Int) (p : List (List Int)) (j : Nat) : Int := if row p (j : Int) = [] then m else rd (row p (j : Int)) (j : Int)
structure Lead (m : Int) (W : Nat) (p : List (List Int)) (M : Vc → Prop) : Prop where
  tab : PTab m W p
  sub : Sub m W M
  own : ∀ j : Nat, j < W → row p (j : Int) ≠ [] → M (V (row p (j : Int)))
  lead : ∀ x, M x → ∀ j : Nat, j < W → (∀ i : Nat, i < j → m ∣ x i) → dv m p j ∣ x j
section
variable {m : Int} {W : Nat} {p : List (List Int)}
theorem PTab.prow (h : PTab m W p) {j : Nat} (hj : j < W) (hr : row p (j : Int) ≠ []) : PRow m W j (row p (j : Int)) := (h.rws j hj).resolve_left hr
theorem Rws.zero (h : PTab m W p) {k j : Nat} {g : Vc} (hg : Rws W p k g) (hj : j < k) : g j = 0 := by
  obtain ⟨i, h1, h2, h3, rfl⟩ := hg
  exact (h.prow h2 h3).zero j (by omega)
theorem Rws.part {k : Nat} (hk : k < W) (hr : row p (k : Int) ≠ []) {x : Vc} (hx : Sp m W (Rws W p k) x) : ∃ (c : Int) (w : Vc), Sp m W (Rws W p (k + 1)) w ∧ ∀ i, i < W → m ∣ c * V (row p (k : Int)) i + w i - x i := by
  induction hx with
  | nil => exact ⟨0, _, .nil, fun i _ => dvd_same (by simp)⟩
  | add d _ hg ih =>
    obtain ⟨c, w, h1, h2⟩ := ih
    obtain ⟨j, j1, j2, j3, rfl⟩ := hg
    by_cases e : j = k
    · subst e
      refine ⟨c + d, w, h1, fun i hi => ?_⟩
      have := h2 i hi
      rw [Int.add_mul]
      rwa [show ∀ a b c d : Int, a + b + c - (d + b) = a + c - d from fun a b c d => by omega]
    · refine ⟨c, _, .add d h1 ⟨j, by omega, j2, j3, rfl⟩, fun i hi => ?_⟩
      have := h2 i hi
      dsimp only
      rwa [show ∀ a b c d : Int, a + (b + c) - (d + c) = a + b - d from fun a b c d => by omega]
  | alike _ h ih =>
    obtain ⟨c, w, h1, h2⟩ := ih
    refine ⟨c, w, h1, fun i hi => ?_⟩
    have := Int.dvd_add (h2 i hi) (h i hi)
    rwa [show ∀ a b c : Int, a - b + (b - c) = a - c from fun a b c => by omega] at this
theorem Rws.next {k : Nat} (hr : row p (k : Int) = []) {x : Vc} (hx : Sp m W (Rws W p k) x) : Sp m W (Rws W p (k + 1)) x := hx.mono fun g ⟨j, j1, j2, j3, e⟩ => .gen ⟨j, by
  rcases Nat.lt_or_eq_of_le j1 with h | rfl
  · exact h
  · exact absurd hr j3, j2, j3, e⟩
theorem Rws.down (m0 : 0 < m) (ht : PTab m W p) (hh : How m W p (Rws W p)) {x : Vc} (hx : Sp m W (Rws W p 0) x) {j : Nat} (hj : j ≤ W) (hz : ∀ i : Nat, i < j → m ∣ x i) : ∀ k, k ≤ j → Sp m W (Rws W p k) x := by
  intro k
  induction k with
  | zero => exact fun _ => hx
  | succ k ih =>
    intro hk
    have h := ih (by omega)
    by_cases hr : row p (k : Int) = []
    · exact Rws.next hr h
    have hp := ht.prow (by omega) hr
    obtain ⟨c, w, h1, h2⟩ := Rws.part (by omega) hr h
    have hw : m ∣ w k := h1.dvd (Int.dvd_refl m) (by omega) fun g hg => by rw [Rws.zero ht hg (by omega)]; exact Int.dvd_zero m
    have hc : m ∣ c * rd (row p (k : Int)) (k : Int) := by
      have := Int.dvd_add (h2 k (by omega)) (hz k (by omega))
      rw [show ∀ a b c : Int, a + b - c + c = a + b from fun a b c => by omega] at this
      have := Int.dvd_sub this hw
      rwa [show ∀ a b : Int, a + b - b = a from fun a b => by omega] at this
    obtain ⟨q, hq⟩ := hp.dvd
    have hd := hp.pos
    have hmd : m / rd (row p (k : Int)) (k : Int) = q := by rw [hq]; exact Int.mul_ediv_cancel_left _ (by omega)
    obtain ⟨t, ht'⟩ : q ∣ c := by
      obtain ⟨t, ht'⟩ := hc
      refine ⟨t, Int.eq_of_mul_eq_mul_left (show rd (row p (k : Int)) (k : Int) ≠ 0 by omega) ?_⟩
      rw [Int.mul_comm, ht', hq, Int.mul_assoc]
    have hH := hh k (by omega) hr
    rw [hmd] at hH
    refine .alike ((hH.mul t).plus h1) fun i hi => ?_
    have := h2 i hi
    rwa [show t * (q * rd (row p (k : Int)) (i : Int)) = c * V (row p (k : Int)) i by rw [ht', ← Int.mul_assoc, Int.mul_comm t q]; rfl]
theorem lead_of (m0 : 0 < m) (ht : PTab m W p) (hh : How m W p (Rws W p)) {M : Vc → Prop} (hM : ∀ x, Sp m W (Rws W p 0) x ↔ M x) : Lead m W p M where
  tab := ht
  sub := by rw [show M = Sp m W (Rws W p 0) from funext fun x => propext (hM x).symm]; exact Sp.sub
  own := fun j hj hr => (hM _).1 (.gen ⟨j, Nat.zero_le _, hj, hr, rfl⟩)
  lead := fun x hx j hj hz => by
    have h := Rws.down m0 ht hh ((hM x).2 hx) (Nat.le_of_lt hj) hz j (Nat.le_refl _)
    unfold dv
    by_cases hr : row p (j : Int) = []
    · rw [if_pos hr]
      exact (Rws.next hr h).dvd (Int.dvd_refl m) hj fun g hg => by rw [Rws.zero ht hg (by omega)]; exact Int.dvd_zero m
    · rw [if_neg hr]
      have hp := ht.prow hj hr
      refine h.dvd hp.dvd hj fun g hg => ?_
      obtain ⟨i, i1, i2, i3, rfl⟩ := hg
      by_cases e : i = j
      · subst e; exact Int.dvd_refl _
      · have : V (row p (i : Int)) j = 0 := (ht.prow i2 i3).zero j (by omega)
        rw [this]; exact Int.dvd_zero _
theorem dv_bd (m0 : 0 < m) (ht : PTab m W p) {j : Nat} (hj : j < W) : 0 < dv m p j ∧ dv m p j ≤ m ∧ dv m p j ∣ m := by
  unfold dv
  by_cases hr : row p (j : Int) = []
  · rw [if_pos hr]; exact ⟨m0, Int.le_refl _, Int.dvd_refl _⟩
  · rw [if_neg hr]
    have hp := ht.prow hj hr
    exact ⟨hp.pos, by have := hp.lt; omega, hp.dvd⟩
theorem dvd_pos {a b : Int} (ha : 0 < a) (hb : 0 < b) (h : a ∣ b) : a ≤ b := Int.le_of_dvd hb h
theorem dv_same (m0 : 0 < m) {p' : List (List Int)} {M : Vc → Prop} (h : Lead m W p M) (h' : Lead m W p' M) {j : Nat} (hj : j < W) : dv m p j = dv m p' j := by
  have key : ∀ {p p' : List (List Int)}, Lead m W p M → Lead m W p' M → dv m p j ∣ dv m p' j := fun {p p'} h h' => by
    by_cases hr : row p' (j : Int) = []
    · rw [show dv m p' j = m from if_pos hr]; exact (dv_bd m0 h.tab hj).2.2
    · rw [show dv m p' j = rd (row p' (j : Int)) (j : Int) from if_neg hr]
      have hp := h'.tab.prow hj hr
      exact h.lead _ (h'.own j hj hr) j hj fun i hi => by rw [show V (row p' (j : Int)) i = 0 from hp.zero i hi]; exact Int.dvd_zero m
  have a := dvd_pos (dv_bd m0 h.tab hj).1 (dv_bd m0 h'.tab hj).1 (key h h')
  have b := dvd_pos (dv_bd m0 h'.tab hj).1 (dv_bd m0 h.tab hj).1 (key h' h)
  omega
structure Least (m : Int) (W : Nat) (p : List (List Int)) (M : Vc → Prop) (x y : List Int) : Prop where
  len : y.length = W
  ent : AllIn m y
  dif : M fun i => rd x (i : Int) - rd y (i : Int)
  lt : ∀ j : Nat, j < W → rd y (j : Int) < dv m p j
theorem Least.same (m0 : 0 < m) {p' : List (List Int)} {M : Vc → Prop} (h : Lead m W p M) (h' : Lead m W p' M) {x y y' : List Int} (hy : Least m W p M x y) (hy' : Least m W p' M x y') : y = y' := by
  have hd : M fun i => rd y (i : Int) - rd y' (i : Int) := by
    refine h.sub.alike _ _ (h.sub.lin _ _ hy'.dif hy.dif (-1)) fun i _ => dvd_same ?_
    omega
  have hall : ∀ n, n ≤ W → ∀ i : Nat, i < n → rd y (i : Int) = rd y' (i : Int) := by
    intro n
    induction n with
    | zero => intro _ i hi; omega
    | succ n ih =>
      intro hn i hi
      have ih := ih (by omega)
      by_cases e : i = n
      · subst e
        have hl := h.lead _ hd i (by omega) fun k hk => by rw [ih k hk]; exact ⟨0, by omega⟩
        have a1 := hy.lt i (by omega)
        have a2 := hy'.lt i (by omega)
        rw [← dv_same m0 h h' (show i < W by omega)] at a2
        obtain ⟨b1, _⟩ := hy.ent i (by omega) (by rw [hy.len]; omega)
        obtain ⟨b2, _⟩ := hy'.ent i (by omega) (by rw [hy'.len]; omega)
        have hd0 := (dv_bd m0 h.tab (show i < W by omega)).1
        obtain ⟨q, hq⟩ := hl
        have q0 : q = 0 := by
          rcases Int.lt_trichotomy q 0 with h | h | h
          · have := Int.mul_le_mul_of_nonneg_left (show q ≤ -1 by omega) (Int.le_of_lt hd0)
            omega
          · exact h
          · have := Int.mul_le_mul_of_nonneg_left (show 1 ≤ q by omega) (Int.le_of_lt hd0)
            omega
        rw [q0] at hq
        omega
      · exact ih i (by omega)
  refine ext_rd (by rw [hy.len, hy'.len]) fun i i0 i1 => ?_
  obtain ⟨n, rfl⟩ := Int.eq_ofNat_of_zero_le i0
  exact hall W (Nat.le_refl _) n (by have := hy.len; omega)
end
end Go.Proofs.Ytpppnoliogdkiaa.V
set_option linter.unusedVariables false
set_option linter.unusedSimpArgs false
set_option maxHeartbeats 2000000
set_option maxRecDepth 20000
namespace Go.Proofs.Ytpppnoliogdkiaa.V
open Go.RowKit Go.Proofs.Ytpppnoliogdkiaa.D Go.Proofs.Ytpppnoliogdkiaa.P
def mix (m x : Int) (a : List Int) (y : Int) (b : List Int) : List Int := (List.range a.length).map fun (i : Nat) => (x * rd a (i : Int) + y * rd b (i : Int)) % m
theorem mix_length (m x : Int) (a : List Int) (y : Int) (b : List Int) : (mix m x a y b).length = a.length := by simp [mix]
theorem mix_rd {m x : Int} {a : List Int} {y : Int} {b : List Int} {i : Nat} (h : i < a.length) : rd (mix m x a y b) (i : Int) = (x * rd a (i : Int) + y * rd b (i : Int)) % m := by
  rw [rd_get (by rw [mix_length]; exact h)]
  simp [mix]
theorem mix_in {m x : Int} {a : List Int} {y : Int} {b : List Int} (m0 : 0 < m) : AllIn m (mix m x a y b) := by
  refine allIn_of fun z hz => ?_
  obtain ⟨i, _, rfl⟩ := List.mem_map.1 hz
  exact ⟨Int.emod_nonneg _ (by omega), Int.emod_lt_of_pos _ m0⟩
theorem mix_dvd {m x : Int} {a : List Int} {y : Int} {b : List Int} {i : Nat} (h : i < a.length) : m ∣ x * rd a (i : Int) + y * rd b (i : Int) - rd (mix m x a y b) (i : Int) := by
  rw [mix_rd h]
  exact Int.dvd_self_sub_emod
end Go.Proofs.Ytpppnoliogdkiaa.V
set_option linter.unusedVariables false
set_option linter.unusedSimpArgs false
set_option maxHeartbeats 2000000
set_option maxRecDepth 20000
namespace Go.Proofs.Ytpppnoliogdkiaa.V
open Go.RowKit Go.Proofs.Ytpppnoliogdkiaa.D Go.Proofs.Ytpppnoliogdkiaa.P
end Go.Proofs.Ytpppnoliogdkiaa.V
set_option linter.unusedVariables false
set_option linter.unusedSimpArgs false
namespace Go.Proofs.Ytpppnoliogdkiaa.V
open Go.RowKit Go.Proofs.Ytpppnoliogdkiaa.D
theorem row_set_same {p : List (List Int)} {j : Nat} {n : List Int} (h : j < p.length) : row (p.set j n) (j : Int) = n := by
  rw [row_get (by rw [List.length_set]; exact h)]
  simp
theorem row_set_ne {p : List (List Int)} {i j : Nat} {n : List Int} (h : i ≠ j) : row (p.set j n) (i : Int) = row p (i : Int) := by
  simp only [row, Int.toNat_natCast, List.getD_eq_getElem?_getD, List.getElem?_set, if_neg (show ¬ j = i from fun e => h e.symm)]
def Zb (k : Nat) (s : List Int) : Prop := ∀ i : Nat, i < k → rd s (i : Int) = 0
section
variable {m : Int} {W : Nat} {p p' st st' : List (List Int)} {M : Vc → Prop}
theorem PTab.set (h : PTab m W p) {j : Nat} {n : List Int} (hj : j < W) (hn : PRow m W j n) : PTab m W (p.set j n) where
  len := by rw [List.length_set]; exact h.len
  rws := fun i hi => by
    by_cases e : i = j
    · subst e; rw [row_set_same (by rw [h.len]; exact hj)]; exact .inr hn
    · rw [row_set_ne e]; exact h.rws i hi
theorem PRow.ne {j : Nat} {n : List Int} (h : PRow m W j n) : n ≠ [] := fun e => by
  have := h.pos
  rw [e] at this
  simp [rd] at this
structure Pst (m : Int) (W : Nat) (p st : List (List Int)) (M : Vc → Prop) : Prop where
  inv : Inv m W p st
  spn : ∀ x, Sp m W (GT W p st 0) x ↔ M x
theorem Pst.step (h : Pst m W p st M) (ht : PTab m W p') (hs : ∀ s ∈ st', s.length = W ∧ AllIn m s)
    (ha : ∀ k g, GT W p st k g → Sp m W (GT W p' st' k) g) (hb : ∀ g, GT W p' st' 0 g → Sp m W (GT W p st 0) g)
    (hn : ∀ j : Nat, j < W → row p' (j : Int) ≠ [] → row p' (j : Int) ≠ row p (j : Int) → Sp m W (GT W p' st' (j + 1)) (fun i => m / rd (row p' (j : Int)) (j : Int) * rd (row p' (j : Int)) (i : Int))) : Pst m W p' st' M where
  inv := ⟨ht, hs, fun j hj hr => by
    by_cases e : row p' (j : Int) = row p (j : Int)
    · have := h.inv.how j hj (by rw [← e]; exact hr)
      rw [e]
      exact this.mono (ha (j + 1))
    · exact hn j hj hr e⟩
  spn := fun x => by
    rw [← h.spn x]
    exact ⟨fun hx => hx.mono hb, fun hx => hx.mono (ha 0)⟩
theorem GT.zb {k : Nat} {s : List Int} (hs : s ∈ st) (hz : Zb k s) : GT W p st k (V s) := .inr ⟨s, hs, hz, rfl⟩
theorem Pst.drop {v : List Int} (h : Pst m W p (st ++ [v]) M) (hz : Zb W v) : Pst m W p st M := by
  refine h.step h.inv.tab (fun s hs => h.inv.sts s (List.mem_append_left _ hs)) (fun k g hg => ?_) (fun g hg => .gen ?_) (fun j _ _ e => absurd rfl e)
  · rcases hg with hg | ⟨s, hs, hk, rfl⟩
    · exact .gen (.inl hg)
    · rcases List.mem_append.1 hs with hs | hs
      · exact .gen (.inr ⟨s, hs, hk, rfl⟩)
      · rw [List.mem_singleton] at hs
        subst hs
        exact .alike .nil fun i hi => by rw [show V s i = 0 from hz i hi]; exact ⟨0, by omega⟩
  · rcases hg with hg | ⟨s, hs, hk, rfl⟩
    · exact .inl hg
    · exact .inr ⟨s, List.mem_append_left _ hs, hk, rfl⟩
theorem Pst.less {v w : List Int} {c : Int} (h : Pst m W p (st ++ [v]) M) {j : Nat} (hj : j < W) (hr : row p (j : Int) ≠ []) (hvj : rd v (j : Int) ≠ 0) (hw : w.length = W ∧ AllIn m w) (hz : Zb j w)
    (he : ∀ i : Nat, i < W → m ∣ 1 * rd v (i : Int) + (-c) * rd (row p (j : Int)) (i : Int) - rd w (i : Int)) : Pst m W p (st ++ [w]) M := by
  refine h.step h.inv.tab (fun s hs => ?_) (fun k g hg => ?_) (fun g hg => ?_) (fun j _ _ e => absurd rfl e)
  · rcases List.mem_append.1 hs with hs | hs
    · exact h.inv.sts s (List.mem_append_left _ hs)
    · rw [List.mem_singleton] at hs; subst hs; exact hw
  · rcases hg with hg | ⟨s, hs, hk, rfl⟩
    · exact .gen (.inl hg)
    · rcases List.mem_append.1 hs with hs | hs
      · exact .gen (.inr ⟨s, List.mem_append_left _ hs, hk, rfl⟩)
      · rw [List.mem_singleton] at hs
        subst hs
        have hkj : k ≤ j := by
          by_cases q : k ≤ j
          · exact q
          · exact absurd (hk j (by omega)) hvj
        refine Sp.two (a := 1) (b := c) (x := V w) (y := V (row p (j : Int))) (.gen (GT.zb (List.mem_append_right _ (List.mem_singleton.2 rfl)) fun i hi => hz i (by omega))) (.gen (.inl ⟨j, hkj, hj, hr, rfl⟩)) fun i hi => ?_
        obtain ⟨q, hq⟩ := he i hi
        refine ⟨-q, ?_⟩
        rw [Int.mul_neg, ← hq, Int.neg_mul]
        show 1 * rd w (i : Int) + c * rd (row p (j : Int)) (i : Int) - rd s (i : Int) = _
        omega
  · rcases hg with hg | ⟨s, hs, hk, rfl⟩
    · exact .gen (.inl hg)
    · rcases List.mem_append.1 hs with hs | hs
      · exact .gen (.inr ⟨s, List.mem_append_left _ hs, hk, rfl⟩)
      · rw [List.mem_singleton] at hs
        subst hs
        exact Sp.two (a := 1) (b := -c) (x := V v) (y := V (row p (j : Int))) (.gen (GT.zb (List.mem_append_right _ (List.mem_singleton.2 rfl)) fun i hi => by omega)) (.gen (.inl ⟨j, Nat.zero_le _, hj, hr, rfl⟩)) fun i hi => he i hi
theorem Pst.swap {v n : List Int} {ws : List (List Int)} (h : Pst m W p (st ++ [v]) M) {j : Nat} (hj : j < W) (hvj : rd v (j : Int) ≠ 0) (hn : PRow m W j n) (hws : ∀ w ∈ ws, (w.length = W ∧ AllIn m w) ∧ Zb (j + 1) w)
    (ho : row p (j : Int) ≠ [] → Sp m W (fun g => g = V n ∨ ∃ w ∈ ws, g = V w) (V (row p (j : Int))))
    (hv : Sp m W (fun g => g = V n ∨ ∃ w ∈ ws, g = V w) (V v))
    (hd : Sp m W (fun g => ∃ w ∈ ws, g = V w) (fun i => m / rd n (j : Int) * rd n (i : Int)))
    (hb : ∀ g, (g = V n ∨ ∃ w ∈ ws, g = V w) → Sp m W (fun g => g = V v ∨ (row p (j : Int) ≠ [] ∧ g = V (row p (j : Int)))) g) : Pst m W (p.set j n) (st ++ ws) M := by
  have hpl : j < p.length := by rw [h.inv.tab.len]; exact hj
  have hsame : row (p.set j n) (j : Int) = n := row_set_same hpl
  have new : ∀ k, k ≤ j → ∀ g, (g = V n ∨ ∃ w ∈ ws, g = V w) → Sp m W (GT W (p.set j n) (st ++ ws) k) g := fun k hk g hg => by
    rcases hg with rfl | ⟨w, hw, rfl⟩
    · exact .gen (.inl ⟨j, hk, hj, by rw [hsame]; exact hn.ne, by rw [hsame]⟩)
    · exact .gen (GT.zb (List.mem_append_right _ hw) fun i hi => (hws w hw).2 i (by omega))
  have old : ∀ g, (g = V v ∨ (row p (j : Int) ≠ [] ∧ g = V (row p (j : Int)))) → Sp m W (GT W p (st ++ [v]) 0) g := fun g hg => by
    rcases hg with rfl | ⟨hr, rfl⟩
    · exact .gen (GT.zb (List.mem_append_right _ (List.mem_singleton.2 rfl)) fun i hi => by omega)
    · exact .gen (.inl ⟨j, Nat.zero_le _, hj, hr, rfl⟩)
  refine h.step (h.inv.tab.set hj hn) (fun s hs => ?_) (fun k g hg => ?_) (fun g hg => ?_) (fun i hi hr e => ?_)
  · rcases List.mem_append.1 hs with hs | hs
    · exact h.inv.sts s (List.mem_append_left _ hs)
    · exact (hws s hs).1
  · rcases hg with ⟨i, hk, hi, hr, rfl⟩ | ⟨s, hs, hk, rfl⟩
    · by_cases e : i = j
      · subst e
        exact (ho hr).mono (new k hk)
      · exact .gen (.inl ⟨i, hk, hi, by rw [row_set_ne e]; exact hr, by rw [row_set_ne e]⟩)
    · rcases List.mem_append.1 hs with hs | hs
      · exact .gen (.inr ⟨s, List.mem_append_left _ hs, hk, rfl⟩)
      · rw [List.mem_singleton] at hs
        subst hs
        have hkj : k ≤ j := by
          by_cases q : k ≤ j
          · exact q
          · exact absurd (hk j (by omega)) hvj
        exact hv.mono (new k hkj)
  · rcases hg with ⟨i, hk, hi, hr, rfl⟩ | ⟨s, hs, hk, rfl⟩
    · by_cases e : i = j
      · subst e
        rw [hsame]
        exact (hb _ (.inl rfl)).mono old
      · rw [row_set_ne e] at hr ⊢
        exact .gen (.inl ⟨i, hk, hi, hr, rfl⟩)
    · rcases List.mem_append.1 hs with hs | hs
      · exact .gen (.inr ⟨s, List.mem_append_left _ hs, hk, rfl⟩)
      · exact (hb _ (.inr ⟨s, hs, rfl⟩)).mono old
  · by_cases q : i = j
    · subst q
      rw [hsame]
      exact hd.mono fun g hg => by
        obtain ⟨w, hw, rfl⟩ := hg
        exact .gen (GT.zb (List.mem_append_right _ hw) (hws w hw).2)
    · exact absurd (row_set_ne q) e
end
end Go.Proofs.Ytpppnoliogdkiaa.V
set_option linter.unusedVariables false
set_option linter.unusedSimpArgs false
set_option maxHeartbeats 4000000
set_option maxRecDepth 20000
namespace Go.Proofs.Ytpppnoliogdkiaa.V
open Go.RowKit Go.Proofs.Ytpppnoliogdkiaa.D Go.Proofs.Ytpppnoliogdkiaa.P
end Go.Proofs.Ytpppnoliogdkiaa.V
set_option linter.unusedVariables false
set_option linter.unusedSimpArgs false
set_option maxHeartbeats 4000000
set_option maxRecDepth 20000
namespace Go.Proofs.Ytpppnoliogdkiaa.V
open Go.RowKit Go.Proofs.Ytpppnoliogdkiaa.D Go.Proofs.Ytpppnoliogdkiaa.P
end Go.Proofs.Ytpppnoliogdkiaa.V
set_option linter.unusedVariables false
set_option linter.unusedSimpArgs false
set_option maxHeartbeats 4000000
set_option maxRecDepth 20000
namespace Go.Proofs.Ytpppnoliogdkiaa.V
open Go.RowKit Go.Proofs.Ytpppnoliogdkiaa.D Go.Proofs.Ytpppnoliogdkiaa.P
section
variable {m : Int} {W : Nat} {p : List (List Int)} {M : Vc → Prop} {G G' : Vc → Prop}
theorem Pst.lead (m0 : 0 < m) (h : Pst m W p [] M) : Lead m W p M := by
  have e : ∀ k g, GT W p [] k g → Sp m W (Rws W p k) g := fun k g hg => by
    rcases hg with hg | ⟨s, hs, _⟩
    · exact .gen hg
    · cases hs
  exact lead_of m0 h.inv.tab (fun j hj hr => (h.inv.how j hj hr).mono (e _)) fun x => by
    rw [← h.spn x]
    exact ⟨fun hx => hx.mono fun g hg => .gen (.inl hg), fun hx => hx.mono (e 0)⟩
theorem Pst.add {r : List Int} (h : Pst m W p [] (Sp m W G)) (hr : r.length = W ∧ AllIn m r) (hG : ∀ g, G' g ↔ G g ∨ g = V r) : Pst m W p [r] (Sp m W G') where
  inv := ⟨h.inv.tab, fun s hs => by rw [List.mem_singleton] at hs; subst hs; exact hr, fun j hj hn => (h.inv.how j hj hn).mono fun g hg => by
    rcases hg with hg | ⟨s, hs, _⟩
    · exact .gen (.inl hg)
    · cases hs⟩
  spn := fun x => by
    constructor
    · intro hx
      refine hx.mono fun g hg => ?_
      rcases hg with hg | ⟨s, hs, _, rfl⟩
      · exact ((h.spn g).1 (.gen (.inl hg))).mono fun g hg => .gen ((hG g).2 (.inl hg))
      · rw [List.mem_singleton] at hs
        subst hs
        exact .gen ((hG _).2 (.inr rfl))
    · intro hx
      refine hx.mono fun g hg => ?_
      rcases (hG g).1 hg with hg | rfl
      · refine ((h.spn g).2 (.gen hg)).mono fun g hg => ?_
        rcases hg with hg | ⟨s, hs, _⟩
        · exact .gen (.inl hg)
        · cases hs
      · exact .gen (.inr ⟨r, List.mem_singleton.2 rfl, fun i hi => by omega, rfl⟩)
theorem row_repl (n : Nat) (i : Int) : row (List.replicate n ([] : List Int)) i = [] := by
  simp only [row, List.getD_eq_getElem?_getD, List.getElem?_replicate]
  split <;> rfl
theorem Pst.none (hG : ∀ g, ¬ G g) : Pst m W (List.replicate W []) [] (Sp m W G) where
  inv := ⟨⟨List.length_replicate, fun j _ => .inl (row_repl _ _)⟩, fun s hs => (by cases hs), fun j _ hn => absurd (row_repl _ _) hn⟩
  spn := fun x => by
    constructor
    · intro hx
      refine hx.mono fun g hg => ?_
      rcases hg with ⟨j, _, _, hn, _⟩ | ⟨s, hs, _⟩
      · exact absurd (row_repl _ _) hn
      · cases hs
    · intro hx
      exact hx.mono fun g hg => absurd hg (hG g)
def Gn (f : Nat → List Int) (k : Nat) : Vc → Prop := fun g => ∃ i : Nat, i < k ∧ g = V (f i)
theorem rd_take {r : List Int} {A i : Nat} (h : i < A) : rd (r.take A) (i : Int) = rd r (i : Int) := by
  simp [rd, List.getD_eq_getElem?_getD, List.getElem?_take, h]
theorem Lead.first {A B : Nat} {q : List (List Int)} (h : Lead m (A + B) p M) (m0 : 0 < m) (hl : q.length = A) (hr : ∀ j : Nat, j < A → row q (j : Int) = (row p (j : Int)).take A) :
    Lead m A q (fun x => ∃ y, M y ∧ ∀ i, i < A → m ∣ y i - x i) := by
  have hP : ∀ j : Nat, j < A → row p (j : Int) ≠ [] → PRow m A j (row q (j : Int)) := fun j hj hn => by
    have k := h.tab.prow (show j < A + B by omega) hn
    rw [hr j hj]
    refine ⟨by rw [List.length_take, k.len]; omega, k.ent.take _, fun i hi => by rw [rd_take (by omega)]; exact k.zero i hi, ?_, ?_, ?_⟩ <;> rw [rd_take hj]
    · exact k.pos
    · exact k.lt
    · exact k.dvd
  have hE : ∀ j : Nat, j < A → (row q (j : Int) = [] ↔ row p (j : Int) = []) := fun j hj => by
    constructor
    · intro e
      by_cases hn : row p (j : Int) = []
      · exact hn
      · exact absurd e (hP j hj hn).ne
    · intro e; rw [hr j hj, e]; simp
  have hdv : ∀ j : Nat, j < A → dv m q j = dv m p j := fun j hj => by
    unfold dv
    by_cases hn : row p (j : Int) = []
    · rw [if_pos hn, if_pos ((hE j hj).2 hn)]
    · rw [if_neg hn, if_neg fun e => hn ((hE j hj).1 e), hr j hj, rd_take hj]
  exact {
    tab := ⟨hl, fun j hj => by
      by_cases hn : row p (j : Int) = []
      · exact .inl ((hE j hj).2 hn)
      · exact .inr (hP j hj hn)⟩
    sub := ⟨⟨_, h.sub.zero, fun i _ => dvd_same rfl⟩, fun x y ⟨x', hx, ex⟩ ⟨y', hy, ey⟩ c => ⟨_, h.sub.lin _ _ hx hy c, fun i hi => by
      have := Int.dvd_add (ex i hi) (Int.dvd_mul_of_dvd_right (b := c) (ey i hi))
      rw [Int.mul_sub] at this
      rwa [show ∀ a b c d : Int, a + c - (b + d) = a - b + (c - d) from fun a b c d => by omega]⟩,
      fun x y ⟨x', hx, ex⟩ e => ⟨x', hx, fun i hi => by
        have := Int.dvd_add (ex i hi) (e i hi)
        rwa [show ∀ a b c : Int, a - b + (b - c) = a - c from fun a b c => by omega] at this⟩⟩
    own := fun j hj hn => ⟨V (row p (j : Int)), h.own j (by omega) fun e => hn ((hE j hj).2 e), fun i hi => by
      refine dvd_same ?_
      show rd (row p (j : Int)) (i : Int) = rd (row q (j : Int)) (i : Int)
      rw [hr j hj, rd_take hi]⟩
    lead := fun x ⟨y, hy, e⟩ j hj hz => by
      have := h.lead y hy j (by omega) fun i hi => by
        have := Int.dvd_add (e i (by omega)) (hz i hi)
        rwa [show ∀ a b : Int, a - b + b = a from fun a b => by omega] at this
      rw [hdv j hj]
      have hd := (dv_bd m0 h.tab (show j < A + B by omega)).2.2
      have := Int.dvd_sub this (Int.dvd_trans hd (e j hj))
      rwa [show ∀ a b : Int, a - (a - b) = b from fun a b => by omega] at this }
def pad (A : Nat) (x : Vc) : Vc := fun i => if i < A then 0 else x (i - A)
theorem rd_app_left {a b : List Int} {i : Nat} (h : i < a.length) : rd (a ++ b) (i : Int) = rd a (i : Int) := by
  simp [rd, List.getD_eq_getElem?_getD, List.getElem?_append, h]
theorem rd_app_right {a b : List Int} {i : Nat} (h : a.length ≤ i) : rd (a ++ b) (i : Int) = rd b ((i - a.length : Nat) : Int) := by
  simp only [rd, Int.toNat_natCast, List.getD_eq_getElem?_getD, List.getElem?_append, if_neg (show ¬ i < a.length by omega)]
end
end Go.Proofs.Ytpppnoliogdkiaa.V
set_option linter.unusedVariables false
set_option linter.unusedSimpArgs false
set_option maxHeartbeats 4000000
set_option maxRecDepth 20000
namespace Go.Proofs.Ytpppnoliogdkiaa.V
open Go.RowKit Go.Proofs.Ytpppnoliogdkiaa.D Go.Proofs.Ytpppnoliogdkiaa.P
def unitC (c i : Nat) : List Int := (List.replicate c (0 : Int)).set i 1
noncomputable def bdU (g : List (List Int)) (m : Int) (u : List Int) (e i : Nat) : List Int := bdL g m u (unitC (cells g (e : Int)).toNat i) e
noncomputable def bdA (g : List (List Int)) (m : Int) (u : List Int) (e i : Nat) : List Int := bdU g m u e i ++ unitC (cells g (e : Int)).toNat i
noncomputable def nB (g : List (List Int)) (e : Nat) : Nat := (cells g (e : Int)).toNat
theorem nA_bd {g : List (List Int)} (hg : Grp g) {e : Nat} (he : e ≤ 4) : nB g e ≤ 16807 ∧ ((nB g e : Nat) : Int) = cells g (e : Int) := by
  have hb := cells_bd hg (d := (e : Int)) (by omega)
  unfold nB
  omega
noncomputable def coM (g : List (List Int)) (m : Int) (u : List Int) (n : Nat) : Vc → Prop := fun x => Sp m (nB g (n + 1) + nB g n) (Gn (bdA g m u n) (nB g n)) (pad (nB g (n + 1)) x)
end Go.Proofs.Ytpppnoliogdkiaa.V
set_option linter.unusedVariables false
set_option linter.unusedSimpArgs false
set_option maxHeartbeats 4000000
set_option maxRecDepth 20000
namespace Go.Proofs.Ytpppnoliogdkiaa.V
open Go.RowKit Go.Proofs.Ytpppnoliogdkiaa.D Go.Proofs.Ytpppnoliogdkiaa.P
def lc (p : List (List Int)) (t : List Int) : Nat → Vc
  | 0 => fun _ => 0
  | k + 1 => fun i => lc p t k i + rd t (k : Int) * rd (row p (k : Int)) (i : Int)
theorem lc_succ (p : List (List Int)) (t : List Int) (k i : Nat) : lc p t (k + 1) i = lc p t k i + rd t (k : Int) * rd (row p (k : Int)) (i : Int) := rfl
structure Least0 (m : Int) (W k : Nat) (p : List (List Int)) (M : Vc → Prop) (x y t : List Int) : Prop where
  len : y.length = W
  ent : AllIn m y
  dif : M fun i => rd x (i : Int) - rd y (i : Int)
  lt : ∀ j : Nat, j < k → rd y (j : Int) < dv m p j
  tlen : t.length = W
  tbd : ∀ j : Nat, j < W → 0 ≤ rd t (j : Int) ∧ rd t (j : Int) ≤ 12
  tnil : ∀ j : Nat, row p (j : Int) = [] → rd t (j : Int) = 0
  tak : ∀ i : Nat, i < W → m ∣ rd x (i : Int) - rd y (i : Int) - lc p t k i
theorem lc_congr {p : List (List Int)} {t t' : List Int} : ∀ k, (∀ j : Nat, j < k → rd t (j : Int) = rd t' (j : Int)) → lc p t k = lc p t' k := by
  intro k
  induction k with
  | zero => intro _; rfl
  | succ k ih =>
    intro h
    funext i
    rw [lc, lc, ih fun j hj => h j (by omega), h k (by omega)]
theorem rd_set_same {t : List Int} {j : Nat} {x : Int} (h : j < t.length) : rd (t.set j x) (j : Int) = x := by
  rw [rd_get (by rw [List.length_set]; exact h)]; simp
theorem rd_set_ne {t : List Int} {i j : Nat} {x : Int} (h : i ≠ j) : rd (t.set j x) (i : Int) = rd t (i : Int) := by
  simp only [rd, Int.toNat_natCast, List.getD_eq_getElem?_getD, List.getElem?_set, if_neg (show ¬ j = i from fun e => h e.symm)]
theorem Least0.skip {m : Int} {W k : Nat} {p : List (List Int)} {M : Vc → Prop} {x y t : List Int} (h : Least0 m W k p M x y t) (hk : k < W) (hr : row p (k : Int) = []) : Least0 m W (k + 1) p M x y t :=
  { h with
    lt := fun j hj => by
      by_cases e : j = k
      · subst e
        rw [show dv m p j = m from if_pos hr]
        exact (h.ent j (by omega) (by rw [h.len]; omega)).2
      · exact h.lt j (by omega)
    tak := fun i hi => by
      rw [lc_succ, h.tnil k hr, Int.zero_mul, Int.add_zero]
      exact h.tak i hi }
theorem Least0.take {m : Int} {W k : Nat} {p : List (List Int)} {M : Vc → Prop} {x y t : List Int} (m2 : 2 ≤ m) (m12 : m ≤ 12) (hM : Lead m W p M) (h : Least0 m W k p M x y t) (hk : k < W) (hr : row p (k : Int) ≠ []) :
    Least0 m W (k + 1) p M x (mix m 1 y (-(rd y (k : Int) / rd (row p (k : Int)) (k : Int))) (row p (k : Int))) (t.set k (rd y (k : Int) / rd (row p (k : Int)) (k : Int))) := by
  have hP := hM.tab.prow hk hr
  have p0 := hP.pos
  have p1 := hP.lt
  have yl := h.len
  have tl := h.tlen
  obtain ⟨y0, y1⟩ := h.ent k (by omega) (by omega)
  obtain ⟨q, hq⟩ : ∃ q, q = rd y (k : Int) / rd (row p (k : Int)) (k : Int) := ⟨_, rfl⟩
  rw [← hq]
  have hmod := Int.mul_ediv_add_emod (rd y (k : Int)) (rd (row p (k : Int)) (k : Int))
  rw [← hq] at hmod
  have r0 := Int.emod_nonneg (rd y (k : Int)) (show rd (row p (k : Int)) (k : Int) ≠ 0 by omega)
  have r1 := Int.emod_lt_of_pos (rd y (k : Int)) p0
  have q0 : 0 ≤ q := by rw [hq]; exact Int.ediv_nonneg y0 (by omega)
  have q1 : q ≤ rd y (k : Int) := by rw [hq]; exact Int.ediv_le_self _ y0
  have hy : ∀ i : Nat, i < W → m ∣ 1 * rd y (i : Int) + (-q) * rd (row p (k : Int)) (i : Int) - rd (mix m 1 y (-q) (row p (k : Int))) (i : Int) := fun i hi => mix_dvd (by omega)
  refine ⟨by rw [mix_length]; exact yl, mix_in (by omega), ?_, fun j hj => ?_, by rw [List.length_set]; exact tl, fun j hj => ?_, fun j hn => ?_, fun i hi => ?_⟩
  · refine hM.sub.alike _ _ (hM.sub.lin _ _ h.dif (hM.own k hk hr) q) fun i hi => ?_
    obtain ⟨z, hz⟩ := hy i hi
    refine ⟨-z, ?_⟩
    rw [Int.mul_neg, ← hz, Int.neg_mul]
    show rd x (i : Int) - rd y (i : Int) + q * rd (row p (k : Int)) (i : Int) - (rd x (i : Int) - rd (mix m 1 y (-q) (row p (k : Int))) (i : Int)) = _
    omega
  · by_cases e : j = k
    · subst e
      rw [mix_rd (by omega), show dv m p j = rd (row p (j : Int)) (j : Int) from if_neg hr, show 1 * rd y (j : Int) + -q * rd (row p (j : Int)) (j : Int) = rd y (j : Int) % rd (row p (j : Int)) (j : Int) by rw [Int.neg_mul, Int.mul_comm q]; omega, Int.emod_eq_of_lt r0 (by omega)]
      exact r1
    · obtain ⟨a0, a1⟩ := h.ent j (by omega) (by omega)
      rw [mix_rd (by omega), hP.zero j (by omega), Int.mul_zero, Int.add_zero, Int.one_mul, Int.emod_eq_of_lt a0 a1]
      exact h.lt j (by omega)
  · by_cases e : j = k
    · subst e; rw [rd_set_same (by omega)]; omega
    · rw [rd_set_ne e]; exact h.tbd j hj
  · have e : j ≠ k := fun e => hr (e ▸ hn)
    rw [rd_set_ne e]; exact h.tnil j hn
  · rw [lc_succ, rd_set_same (by omega), lc_congr k fun j hj => rd_set_ne (show j ≠ k by omega)]
    obtain ⟨z, hz⟩ := hy i hi
    obtain ⟨z', hz'⟩ := h.tak i hi
    refine ⟨z' + z, ?_⟩
    rw [Int.mul_add, ← hz, ← hz', Int.neg_mul]
    omega
end Go.Proofs.Ytpppnoliogdkiaa.V
set_option linter.unusedVariables false
set_option linter.unusedSimpArgs false
set_option maxHeartbeats 4000000
set_option maxRecDepth 20000
namespace Go.Proofs.Ytpppnoliogdkiaa.V
open Go.RowKit Go.Proofs.Ytpppnoliogdkiaa.D Go.Proofs.Ytpppnoliogdkiaa.P
theorem Co.nB {g : List (List Int)} (hg : Grp g) {m : Int} {k : Nat} {v : List Int} (h : Co g m k v) : v.length = nB g k := by
  have := h.2.1
  have hk := h.1.2
  obtain ⟨b1, b2⟩ := nA_bd hg (e := k) (by omega)
  omega
end Go.Proofs.Ytpppnoliogdkiaa.V
set_option linter.unusedVariables false
set_option linter.unusedSimpArgs false
set_option maxHeartbeats 4000000
set_option maxRecDepth 20000
namespace Go.Proofs.Ytpppnoliogdkiaa.V
open Go.RowKit Go.Proofs.Ytpppnoliogdkiaa.D Go.Proofs.Ytpppnoliogdkiaa.P
noncomputable def allM (g : List (List Int)) (m : Int) (u : List Int) (e : Nat) : Vc → Prop := Sp m (nB g (e + 1) + nB g e) (Gn (bdA g m u e) (nB g e))
structure LB (g : List (List Int)) (m : Int) (u : List Int) (e : Nat) (v y : List Int) : Prop where
  len : y.length = nB g e
  ent : AllIn m y
  mem : allM g m u e (V (v ++ y))
  lt : ∀ q, Lead m (nB g e) q (coM g m u e) → ∀ j : Nat, j < nB g e → rd y (j : Int) < dv m q j
theorem LB.same {g : List (List Int)} {m : Int} {u : List Int} {e : Nat} {v y y' : List Int} (m0 : 0 < m) (hv : v.length = nB g (e + 1)) {q : List (List Int)} (hq : Lead m (nB g e) q (coM g m u e)) (h : LB g m u e v y) (h' : LB g m u e v y') : y = y' := by
  have hd : coM g m u e fun i => rd y (i : Int) - rd y' (i : Int) := by
    refine .alike ((show Sp m _ _ _ from h.mem).plus ((show Sp m _ _ _ from h'.mem).mul (-1))) fun i hi => dvd_same ?_
    show rd (v ++ y) (i : Int) + -1 * rd (v ++ y') (i : Int) = pad (nB g (e + 1)) (fun i => rd y (i : Int) - rd y' (i : Int)) i
    unfold pad
    by_cases k : i < nB g (e + 1)
    · rw [if_pos k, rd_app_left (by omega), rd_app_left (by omega)]; omega
    · rw [if_neg k, rd_app_right (by omega), rd_app_right (by omega), hv]; dsimp only; omega
  exact Least.same m0 hq hq (x := y) ⟨h.len, h.ent, hq.sub.alike _ _ hq.sub.zero fun i _ => dvd_same (by simp), h.lt q hq⟩ ⟨h'.len, h'.ent, hd, h'.lt q hq⟩
end Go.Proofs.Ytpppnoliogdkiaa.V
set_option linter.unusedVariables false
set_option linter.unusedSimpArgs false
set_option maxHeartbeats 4000000
set_option maxRecDepth 20000
namespace Go.Proofs.Ytpppnoliogdkiaa.V
open Go.RowKit Go.Proofs.Ytpppnoliogdkiaa.D
def LexLe (W : Nat) (x y : List Int) : Prop := (∀ i : Nat, i < W → rd x (i : Int) = rd y (i : Int)) ∨ ∃ j : Nat, j < W ∧ (∀ i : Nat, i < j → rd x (i : Int) = rd y (i : Int)) ∧ rd x (j : Int) < rd y (j : Int)
theorem LB.first {g : List (List Int)} {m : Int} (m0 : 0 < m) {u : List Int} {e : Nat} {v y h : List Int} (hv : v.length = nB g (e + 1)) {q : List (List Int)} (hq : Lead m (nB g e) q (coM g m u e)) (hy : LB g m u e v y) (hl : h.length = nB g e) (ha : AllIn m h) (hh : allM g m u e (V (v ++ h))) : LexLe (nB g e) y h := by
  have hd : coM g m u e fun i => rd h (i : Int) - rd y (i : Int) := by
    refine .alike ((show Sp m _ _ _ from hh).plus ((show Sp m _ _ _ from hy.mem).mul (-1))) fun i hi => dvd_same ?_
    show rd (v ++ h) (i : Int) + -1 * rd (v ++ y) (i : Int) = pad (nB g (e + 1)) (fun i => rd h (i : Int) - rd y (i : Int)) i
    unfold pad
    by_cases k : i < nB g (e + 1)
    · rw [if_pos k, rd_app_left (by omega), rd_app_left (by omega)]; omega
    · rw [if_neg k, rd_app_right (by omega), rd_app_right (by omega), hv]; dsimp only; omega
  have main : ∀ k, k ≤ nB g e → (∀ i : Nat, i < k → rd y (i : Int) = rd h (i : Int)) ∨ ∃ j : Nat, j < nB g e ∧ (∀ i : Nat, i < j → rd y (i : Int) = rd h (i : Int)) ∧ rd y (j : Int) < rd h (j : Int) := by
    intro k
    induction k with
    | zero => exact fun _ => .inl fun i hi => by omega
    | succ k ih =>
      intro hk
      rcases ih (by omega) with h1 | h1
      rotate_left
      · exact .inr h1
      by_cases h2 : rd y (k : Int) = rd h (k : Int)
      · refine .inl fun i hi => ?_
        by_cases q : i = k
        · rw [q]; exact h2
        · exact h1 i (by omega)
      · refine .inr ⟨k, by omega, h1, ?_⟩
        have hdv := hq.lead _ hd k (by omega) fun i hi => by rw [h1 i hi]; exact ⟨0, by omega⟩
        have b := hy.lt q hq k (by omega)
        have yl := hy.len
        obtain ⟨y0, y1⟩ := hy.ent k (by omega) (by omega)
        obtain ⟨h0, _⟩ := ha k (by omega) (by omega)
        by_cases hc : rd y (k : Int) < rd h (k : Int)
        · exact hc
        · have h3 : dv m q k ∣ rd y (k : Int) - rd h (k : Int) := by
            have := Int.dvd_neg.2 hdv
            rwa [show -(rd h (k : Int) - rd y (k : Int)) = rd y (k : Int) - rd h (k : Int) by omega] at this
          have := Int.le_of_dvd (by omega) h3
          omega
  exact (main _ (Nat.le_refl _)).imp id id
end Go.Proofs.Ytpppnoliogdkiaa.V
set_option linter.unusedVariables false
set_option linter.unusedSimpArgs false
set_option maxHeartbeats 4000000
set_option maxRecDepth 20000
namespace Go.Proofs.Ytpppnoliogdkiaa.V
open Go.RowKit Go.Proofs.Ytpppnoliogdkiaa.D Go.Proofs.Ytpppnoliogdkiaa.P
def Ll (W : Nat) (x y : List Int) : Prop := ∃ j : Nat, j < W ∧ (∀ i : Nat, i < j → rd x (i : Int) = rd y (i : Int)) ∧ rd x (j : Int) < rd y (j : Int)
theorem Ll.irrefl {W : Nat} {x : List Int} : ¬ Ll W x x := fun ⟨j, _, _, h⟩ => by omega
theorem Ll.trans {W : Nat} {x y z : List Int} (h : Ll W x y) (k : Ll W y z) : Ll W x z := by
  obtain ⟨i, i1, i2, i3⟩ := h
  obtain ⟨j, j1, j2, j3⟩ := k
  rcases Nat.lt_trichotomy i j with q | q | q
  · exact ⟨i, i1, fun t ht => (i2 t ht).trans (j2 t (by omega)), by rw [← j2 i q]; exact i3⟩
  · subst q; exact ⟨i, i1, fun t ht => (i2 t ht).trans (j2 t ht), by omega⟩
  · exact ⟨j, j1, fun t ht => (i2 t (by omega)).trans (j2 t ht), by rw [i2 j q]; exact j3⟩
theorem Ll.asymm {W : Nat} {x y : List Int} (h : Ll W x y) : ¬ Ll W y x := fun k => Ll.irrefl (h.trans k)
theorem Ll.tri (W : Nat) (x y : List Int) : Ll W x y ∨ (∀ i : Nat, i < W → rd x (i : Int) = rd y (i : Int)) ∨ Ll W y x := by
  have main : ∀ k, k ≤ W → Ll W x y ∨ (∀ i : Nat, i < k → rd x (i : Int) = rd y (i : Int)) ∨ Ll W y x := by
    intro k
    induction k with
    | zero => exact fun _ => .inr (.inl fun i hi => by omega)
    | succ k ih =>
      intro hk
      rcases ih (by omega) with h | h | h
      · exact .inl h
      · rcases Int.lt_trichotomy (rd x (k : Int)) (rd y (k : Int)) with q | q | q
        · exact .inl ⟨k, by omega, h, q⟩
        · refine .inr (.inl fun i hi => ?_)
          by_cases e : i = k
          · rw [e]; exact q
          · exact h i (by omega)
        · exact .inr (.inr ⟨k, by omega, fun i hi => (h i hi).symm, q⟩)
      · exact .inr (.inr h)
  exact main W (Nat.le_refl _)
theorem eq_of_all {W : Nat} {x y : List Int} (hx : x.length = W) (hy : y.length = W) (h : ∀ i : Nat, i < W → rd x (i : Int) = rd y (i : Int)) : x = y :=
  ext_rd (by omega) fun i i0 i1 => by
    obtain ⟨n, rfl⟩ := Int.eq_ofNat_of_zero_le i0
    exact h n (by omega)
theorem Ll.le_trans {W : Nat} {x y z : List Int} (hx : x.length = W) (hy : y.length = W) (hz : z.length = W) (h : ¬ Ll W y x) (k : ¬ Ll W z y) : ¬ Ll W z x := by
  intro q
  rcases Ll.tri W x y with a | a | a
  · rcases Ll.tri W y z with b | b | b
    · exact Ll.asymm q (a.trans b)
    · have := eq_of_all hy hz b; subst this; exact Ll.asymm q a
    · exact k b
  · have := eq_of_all hx hy a; subst this
    exact k q
  · exact h a
theorem Compare_ {x y : List Int} {W : Nat} (hx : x.length = W) (hy : y.length = W) (hW : W ≤ 1000000) : ∃ c : Int, slices_Compare_int64.f x y = some c ∧ (c < 0 ↔ Ll W x y) ∧ (c = 0 ↔ x = y) := by
  rw [slices_Compare_int64.f_eq]
  have hc : ∀ a b : Int, cmp_Compare_int64.f a b = some (if a < b then -1 else if a > b then 1 else 0) := fun a b => by
    have n1 : cmp_isNaN_int64.f a = some false := by rw [cmp_isNaN_int64.f_eq]; simp
    have n2 : cmp_isNaN_int64.f b = some false := by rw [cmp_isNaN_int64.f_eq]; simp
    rw [cmp_Compare_int64.f_eq, n1, n2]
    by_cases h : a < b
    · simp [h]
    · by_cases h2 : a > b
      · simp [h, h2]
      · simp [h, h2]
  suffices H : ∀ d k : Nat, k + d = W → (∀ i : Nat, i < k → rd x (i : Int) = rd y (i : Int)) → ∃ c : Int, slices_Compare_int64.l0 x y x (x.length : Int) (k : Int) = some c ∧ (c < 0 ↔ Ll W x y) ∧ (c = 0 ↔ x = y) from H W 0 (by omega) fun i hi => by omega
  intro d
  induction d with
  | zero =>
    intro k hk he
    have exy := eq_of_all hx hy fun i hi => he i (by omega)
    refine ⟨0, ?_, ⟨fun h => by omega, fun h => by rw [exy] at h; exact absurd h Ll.irrefl⟩, ⟨fun _ => exy, fun _ => rfl⟩⟩
    rw [slices_Compare_int64.l0_eq]
    ((with_reducible repeat (first | refine go_pos (by first | assumption | omega | rfl | exact B_pos (by omega)) ?_ | refine go_neg (by first | assumption | omega | decide | exact B_not (by omega)) ?_ | refine go_bind (by first | assumption) ?_ | dsimp only)); first | done | (with_reducible rfl) | simp (disch := omega) only [w64] | (show False; done))
  | succ d ih =>
    intro k hk he
    have hck := hc (rd x (k : Int)) (rd y (k : Int))
    rcases Int.lt_trichotomy (rd x (k : Int)) (rd y (k : Int)) with q | q | q
    · rw [if_pos q] at hck
      refine ⟨-1, ?_, ⟨fun _ => ⟨k, by omega, he, q⟩, fun _ => by omega⟩, ⟨fun h => by omega, fun h => by rw [h] at q; omega⟩⟩
      rw [slices_Compare_int64.l0_eq]
      ((with_reducible repeat (first | refine go_pos (by first | assumption | omega | rfl | exact B_pos (by omega)) ?_ | refine go_neg (by first | assumption | omega | decide | exact B_not (by omega)) ?_ | refine go_bind (by first | assumption) ?_ | dsimp only)); first | done | (with_reducible rfl) | simp (disch := omega) only [w64] | (show False; done))
    · rw [if_neg (by omega), if_neg (by omega)] at hck
      obtain ⟨c, c1, c2, c3⟩ := ih (k + 1) (by omega) fun i hi => by
        by_cases e : i = k
        · rw [e]; exact q
        · exact he i (by omega)
      refine ⟨c, ?_, c2, c3⟩
      rw [slices_Compare_int64.l0_eq, wn (j := k) (by omega)]
      (with_reducible repeat (first | refine go_pos (by first | assumption | omega | rfl | exact B_pos (by omega)) ?_ | refine go_neg (by first | assumption | omega | decide | exact B_not (by omega)) ?_ | refine go_bind (by first | assumption) ?_ | dsimp only))
      exact c1
    · rw [if_neg (by omega), if_pos q] at hck
      refine ⟨1, ?_, ⟨fun h => by omega, fun h => absurd (⟨k, by omega, fun i hi => (he i hi).symm, q⟩ : Ll W y x) h.asymm⟩, ⟨fun h => by omega, fun h => by rw [h] at q; omega⟩⟩
      rw [slices_Compare_int64.l0_eq]
      ((with_reducible repeat (first | refine go_pos (by first | assumption | omega | rfl | exact B_pos (by omega)) ?_ | refine go_neg (by first | assumption | omega | decide | exact B_not (by omega)) ?_ | refine go_bind (by first | assumption) ?_ | dsimp only)); first | done | (with_reducible rfl) | simp (disch := omega) only [w64] | (show False; done))
theorem Equal_ (x y : List Int) (hx : x.length ≤ 1000000) : slices_Equal_int64.f x y = some (B (x = y)) := by
  rw [slices_Equal_int64.f_eq]
  by_cases h : (x.length : Int) = (y.length : Int)
  rotate_left
  · rw [B_neg fun e => h (by rw [e])]
    ((with_reducible repeat (first | refine go_pos (by first | assumption | omega | rfl | exact B_pos (by omega)) ?_ | refine go_neg (by first | assumption | omega | decide | exact B_not (by omega)) ?_ | refine go_bind (by first | assumption) ?_ | dsimp only)); first | done | (with_reducible rfl) | simp (disch := omega) only [w64] | (show False; done))
  (with_reducible repeat (first | refine go_pos (by first | assumption | omega | rfl | exact B_pos (by omega)) ?_ | refine go_neg (by first | assumption | omega | decide | exact B_not (by omega)) ?_ | refine go_bind (by first | assumption) ?_ | dsimp only))
  rw [B_congr (show x = y ↔ ∀ i : Int, 0 ≤ i → i < x.length → rd x i = rd y i from ⟨fun e i _ _ => by rw [e], fun e => ext_rd (by omega) e⟩)]
  refine scanT x.length (fun i => slices_Equal_int64.l0 x y (x.length : Int) i) (fun i => rd x i = rd y i) (fun i i0 i1 _ => ?_) (fun _ => by (rw [slices_Equal_int64.l0_eq]); ((with_reducible repeat (first | refine go_pos (by first | assumption | omega | rfl | exact B_pos (by omega)) ?_ | refine go_neg (by first | assumption | omega | decide | exact B_not (by omega)) ?_ | refine go_bind (by first | assumption) ?_ | dsimp only)); first | done | (with_reducible rfl) | simp (disch := omega) only [w64] | (show False; done)))
  refine ⟨fun h => ?_, fun h => ?_⟩ <;> (rw [slices_Equal_int64.l0_eq]) <;> ((with_reducible repeat (first | refine go_pos (by first | assumption | omega | rfl | exact B_pos (by omega)) ?_ | refine go_neg (by first | assumption | omega | decide | exact B_not (by omega)) ?_ | refine go_bind (by first | assumption) ?_ | dsimp only)); first | done | (with_reducible rfl) | simp (disch := omega) only [w64] | (show False; done))
theorem Before_ {x y : List Int} {W : Nat} (hx : x.length = W) (hy : y.length = W) (hW : W ≤ 1000000) : spec_l01Before.f x y = some (B (Ll W x y)) := by
  rw [spec_l01Before.f_eq, if_pos (by omega)]
  suffices H : ∀ d k : Nat, k + d = W → (∀ i : Nat, i < k → rd x (i : Int) = rd y (i : Int)) → spec_l01Before.l0 x y (k : Int) = some (B (Ll W x y)) from H W 0 (by omega) fun i hi => by omega
  intro d
  induction d with
  | zero =>
    intro k hk he
    have exy := eq_of_all hx hy fun i hi => he i (by omega)
    rw [B_neg (by rw [exy]; exact Ll.irrefl), spec_l01Before.l0_eq]
    ((with_reducible repeat (first | refine go_pos (by first | assumption | omega | rfl | exact B_pos (by omega)) ?_ | refine go_neg (by first | assumption | omega | decide | exact B_not (by omega)) ?_ | refine go_bind (by first | assumption) ?_ | dsimp only)); first | done | (with_reducible rfl) | simp (disch := omega) only [w64] | (show False; done))
  | succ d ih =>
    intro k hk he
    by_cases q : rd x (k : Int) = rd y (k : Int)
    · have := ih (k + 1) (by omega) fun i hi => by
        by_cases e : i = k
        · rw [e]; exact q
        · exact he i (by omega)
      rw [spec_l01Before.l0_eq, wn (j := k) (by omega)]
      (with_reducible repeat (first | refine go_pos (by first | assumption | omega | rfl | exact B_pos (by omega)) ?_ | refine go_neg (by first | assumption | omega | decide | exact B_not (by omega)) ?_ | refine go_bind (by first | assumption) ?_ | dsimp only))
      exact this
    · have e : B (Ll W x y) = decide (rd x (k : Int) < rd y (k : Int)) := by
        by_cases q2 : rd x (k : Int) < rd y (k : Int)
        · rw [B_pos ⟨k, by omega, he, q2⟩]; simp [q2]
        · rw [B_neg (Ll.asymm ⟨k, by omega, fun i hi => (he i hi).symm, by omega⟩)]; simp [q2]
      rw [e, spec_l01Before.l0_eq]
      ((with_reducible repeat (first | refine go_pos (by first | assumption | omega | rfl | exact B_pos (by omega)) ?_ | refine go_neg (by first | assumption | omega | decide | exact B_not (by omega)) ?_ | refine go_bind (by first | assumption) ?_ | dsimp only)); first | done | (with_reducible rfl) | simp (disch := omega) only [w64] | (show False; done))
theorem row_mid (P : List (List Int)) (x : List Int) (Q : List (List Int)) : row (P ++ x :: Q) (P.length : Int) = x := by simp [row, List.getD_eq_getElem?_getD]
theorem rows_snoc {P : List (List Int)} {n : Nat} (h : P.length = n + 1) : ∃ P' p, P = P' ++ [p] ∧ P'.length = n := by
  have hne : P ≠ [] := fun e => by rw [e] at h; simp at h
  exact ⟨P.dropLast, P.getLast hne, (List.dropLast_concat_getLast hne).symm, by rw [List.length_dropLast]; omega⟩
theorem ins_one {W : Nat} {C : List Int → List Int → Option Int} (hC : ∀ x y : List Int, x.length = W → y.length = W → ∃ c : Int, C x y = some c ∧ (c < 0 ↔ Ll W x y)) {N : Nat} (hN : N ≤ 1000000) :
    ∀ (n : Nat) (P Q R : List (List Int)) (x : List Int), P.length = n → (∀ r ∈ P ++ x :: (Q ++ R), r.length = W) → (P ++ Q).Pairwise (fun r s => ¬ Ll W s r) → (∀ q ∈ Q, Ll W x q) → (P ++ x :: (Q ++ R)).length = N →
    ∃ S, slices_insertionSortCmpFunc_int64.l1 0 (N : Int) C ((P.length + Q.length : Nat) : Int) (n : Int) (P ++ x :: (Q ++ R)) = slices_insertionSortCmpFunc_int64.l0 0 (N : Int) C ((P.length + Q.length + 1 : Nat) : Int) (S ++ R) ∧ S.Pairwise (fun r s => ¬ Ll W s r) ∧ S.Perm (P ++ x :: Q) := by
  intro n
  induction n with
  | zero =>
    intro P Q R x hP hr hs hq hN'
    obtain rfl := List.eq_nil_of_length_eq_zero hP
    refine ⟨x :: Q, ?_, ?_, List.Perm.refl _⟩
    · simp only [List.nil_append, List.length_nil, Nat.zero_add] at hN' ⊢
      have : Q.length + 1 ≤ N := by simp only [List.length_cons, List.length_append] at hN'; omega
      rw [slices_insertionSortCmpFunc_int64.l1_eq, wn (j := Q.length) (by omega)]
      (with_reducible repeat (first | refine go_pos (by first | assumption | omega | rfl | exact B_pos (by omega)) ?_ | refine go_neg (by first | assumption | omega | decide | exact B_not (by omega)) ?_ | refine go_bind (by first | assumption) ?_ | dsimp only))
      rfl
    · rw [List.pairwise_cons]
      exact ⟨fun q hq' => (hq q hq').asymm, by simpa using hs⟩
  | succ n ih =>
    intro P Q R x hP hr hs hq hN'
    obtain ⟨P', p, rfl, hP'⟩ := rows_snoc hP
    have lN : P'.length + 1 + 1 + Q.length + R.length = N := by
      have := hN'
      simp only [List.length_cons, List.length_append, List.length_nil] at this
      omega
    have hxl : x.length = W := hr x (by simp)
    have hpl : p.length = W := hr p (by simp)
    obtain ⟨c, c1, c2⟩ := hC x p hxl hpl
    have e0 : (P' ++ [p]) ++ x :: (Q ++ R) = P' ++ p :: (x :: (Q ++ R)) := by simp
    have r1 : row ((P' ++ [p]) ++ x :: (Q ++ R)) ((n + 1 : Nat) : Int) = x := by rw [← hP]; exact row_mid _ _ _
    have r0 : row ((P' ++ [p]) ++ x :: (Q ++ R)) (n : Int) = p := by rw [e0, ← hP']; exact row_mid _ _ _
    have w1 : wrapI (((n + 1 : Nat) : Int) - 1) = (n : Int) := by rw [w64 (by omega) (by omega)]; omega
    have sw : (((P' ++ [p]) ++ x :: (Q ++ R)).set (n + 1) p).set n x = P' ++ x :: ((p :: Q) ++ R) := by
      rw [List.set_append, if_neg (by rw [List.length_append, List.length_singleton]; omega), List.length_append, List.length_singleton, show n + 1 - (P'.length + 1) = 0 by omega, List.set_cons_zero, show (P' ++ [p]) ++ p :: (Q ++ R) = P' ++ p :: (p :: (Q ++ R)) by simp, List.set_append, if_neg (by omega), show n - P'.length = 0 by omega, List.set_cons_zero]
      rfl
    have sl : (((P' ++ [p]) ++ x :: (Q ++ R)).set (n + 1) p).length = N := by rw [List.length_set]; exact hN'
    have tn : (((n + 1 : Nat) : Int)).toNat = n + 1 := by omega
    by_cases hc : c < 0
    · have hr2 : ∀ r ∈ P' ++ x :: ((p :: Q) ++ R), r.length = W := fun r hr' => hr r (by simp only [List.mem_append, List.mem_cons, List.mem_singleton] at hr' ⊢; rcases hr' with h | h | (h | h) | h <;> simp [h])
      obtain ⟨S, h1, h2, h3⟩ := ih P' (p :: Q) R x hP' hr2 (by rw [show P' ++ p :: Q = P' ++ [p] ++ Q by simp]; exact hs) (fun q hq' => by
        rcases List.mem_cons.1 hq' with rfl | hq'
        · exact c2.1 hc
        · exact hq q hq') (by rw [← sw, List.length_set, List.length_set]; exact hN')
      refine ⟨S, ?_, h2, h3.trans ?_⟩
      · rw [show (P' ++ [p]).length + Q.length = P'.length + (p :: Q).length by simp only [List.length_append, List.length_cons, List.length_nil]; omega, ← h1, slices_insertionSortCmpFunc_int64.l1_eq, w1, tn, Int.toNat_natCast, r1, r0]
        (with_reducible repeat (first | refine go_pos (by first | assumption | omega | rfl | exact B_pos (by omega)) ?_ | refine go_neg (by first | assumption | omega | decide | exact B_not (by omega)) ?_ | refine go_bind (by first | assumption) ?_ | dsimp only))
        rw [sw]
      · rw [show (P' ++ [p]) ++ x :: Q = P' ++ p :: x :: Q by simp]
        exact List.Perm.append_left _ (List.Perm.swap ..)
    · refine ⟨(P' ++ [p]) ++ x :: Q, ?_, ?_, List.Perm.refl _⟩
      · rw [slices_insertionSortCmpFunc_int64.l1_eq, w1, r1, r0, wn (j := (P' ++ [p]).length + Q.length) (by simp only [List.length_append, List.length_cons, List.length_nil]; omega)]
        (with_reducible repeat (first | refine go_pos (by first | assumption | omega | rfl | exact B_pos (by omega)) ?_ | refine go_neg (by first | assumption | omega | decide | exact B_not (by omega)) ?_ | refine go_bind (by first | assumption) ?_ | dsimp only))
        rw [show ((P' ++ [p]) ++ x :: Q) ++ R = (P' ++ [p]) ++ x :: (Q ++ R) by simp]
      · have hnp : ¬ Ll W x p := fun k => hc (c2.2 k)
        rw [List.pairwise_append] at hs ⊢
        obtain ⟨s1, s2, s3⟩ := hs
        refine ⟨s1, List.pairwise_cons.2 ⟨fun q hq' => (hq q hq').asymm, s2⟩, fun r hr' s hs' => ?_⟩
        rcases List.mem_cons.1 hs' with rfl | hs'
        · rcases List.mem_append.1 hr' with h | h
          · rw [List.pairwise_append] at s1
            have := s1.2.2 r h p (List.mem_singleton.2 rfl)
            exact Ll.le_trans (hr r (by simp [h])) hpl hxl this hnp
          · rw [List.mem_singleton.1 h]; exact hnp
        · exact s3 r hr' s hs'
theorem isort_ {W : Nat} {C : List Int → List Int → Option Int} (hC : ∀ x y : List Int, x.length = W → y.length = W → ∃ c : Int, C x y = some c ∧ (c < 0 ↔ Ll W x y)) {xs : List (List Int)} (hN : xs.length ≤ 1000000) (hr : ∀ r ∈ xs, r.length = W) :
    ∃ S, slices_insertionSortCmpFunc_int64.f xs 0 (xs.length : Int) C = some S ∧ S.Pairwise (fun r s => ¬ Ll W s r) ∧ S.Perm xs := by
  have main : ∀ (n : Nat) (S R : List (List Int)), R.length = n → S.length + n = xs.length → 0 < S.length → S.Pairwise (fun r s => ¬ Ll W s r) → (∀ r ∈ S ++ R, r.length = W) →
      ∃ S', slices_insertionSortCmpFunc_int64.l0 0 (xs.length : Int) C (S.length : Int) (S ++ R) = some S' ∧ S'.Pairwise (fun r s => ¬ Ll W s r) ∧ S'.Perm (S ++ R) := by
    intro n
    induction n with
    | zero =>
      intro S R hR hl _ hs hr
      obtain rfl := List.eq_nil_of_length_eq_zero hR
      rw [List.append_nil]
      refine ⟨S, ?_, hs, List.Perm.refl _⟩
      rw [slices_insertionSortCmpFunc_int64.l0_eq]
      ((with_reducible repeat (first | refine go_pos (by first | assumption | omega | rfl | exact B_pos (by omega)) ?_ | refine go_neg (by first | assumption | omega | decide | exact B_not (by omega)) ?_ | refine go_bind (by first | assumption) ?_ | dsimp only)); first | done | (with_reducible rfl) | simp (disch := omega) only [w64] | (show False; done))
    | succ n ih =>
      intro S R hR hl h0 hs hr
      cases R with
      | nil => simp at hR
      | cons x R =>
        obtain ⟨S1, h1, h2, h3⟩ := ins_one hC (N := xs.length) hN S.length S [] R x rfl (by simpa using hr) (by simpa using hs) (fun q hq => by cases hq) (by simp only [List.nil_append, List.length_append, List.length_cons] at hR ⊢; omega)
        have l1 : S1.length = S.length + 1 := by rw [h3.length_eq]; simp
        obtain ⟨S', k1, k2, k3⟩ := ih S1 R (by simpa using hR) (by omega) (by omega) h2 (fun r hr' => by
          rcases List.mem_append.1 hr' with h | h
          · exact hr r (by have := h3.mem_iff.1 h; simp at this ⊢; rcases this with h | h <;> simp [h])
          · exact hr r (by simp [h]))
        refine ⟨S', ?_, k2, k3.trans ?_⟩
        · rw [slices_insertionSortCmpFunc_int64.l0_eq]
          simp only [List.nil_append, List.length_nil, Nat.add_zero] at h1
          have : S.length < xs.length := by omega
          (with_reducible repeat (first | refine go_pos (by first | assumption | omega | rfl | exact B_pos (by omega)) ?_ | refine go_neg (by first | assumption | omega | decide | exact B_not (by omega)) ?_ | refine go_bind (by first | assumption) ?_ | dsimp only))
          rw [h1, ← l1]
          exact k1
        · have := h3.append_right R
          simpa using this
  rw [slices_insertionSortCmpFunc_int64.f_eq, show wrapI (0 + 1) = 1 from w64 (by omega) (by omega)]
  cases xs with
  | nil =>
    refine ⟨[], ?_, List.Pairwise.nil, List.Perm.refl _⟩
    rw [slices_insertionSortCmpFunc_int64.l0_eq]
    ((with_reducible repeat (first | refine go_pos (by first | assumption | omega | rfl | exact B_pos (by omega)) ?_ | refine go_neg (by first | assumption | omega | decide | exact B_not (by omega)) ?_ | refine go_bind (by first | assumption) ?_ | dsimp only)); first | done | (with_reducible rfl) | simp (disch := omega) only [w64] | (show False; done))
  | cons x xs =>
    have := main xs.length [x] xs rfl (by simp; omega) (by simp) (List.pairwise_singleton _ _) (by simpa using hr)
    simpa using this
theorem sort12 {W : Nat} {C : List Int → List Int → Option Int} (hC : ∀ x y : List Int, x.length = W → y.length = W → ∃ c : Int, C x y = some c ∧ (c < 0 ↔ Ll W x y)) {xs : List (List Int)} (hN : xs.length ≤ 12) (hr : ∀ r ∈ xs, r.length = W) :
    ∃ S, slices_SortFunc_int64.f xs C = some S ∧ S.Pairwise (fun r s => ¬ Ll W s r) ∧ S.Perm xs := by
  obtain ⟨S, h1, h2, h3⟩ := isort_ hC (by omega) hr
  refine ⟨S, ?_, h2, h3⟩
  have hb : ∃ t, bits_Len.f (wr .u64 (xs.length : Int)) = some t := by
    have e : wr .u64 (xs.length : Int) = (xs.length : Int) := by
      show hid _ = _
      rw [hid_eq]
      simp [IntKind.wrap, IntKind.bits, IntKind.signed]
      omega
    rw [e]
    unfold bits_Len.f
    rw [if_pos (by omega)]
    exact ⟨_, rfl⟩
  obtain ⟨t, ht⟩ := hb
  have w : wrapI ((xs.length : Int) - 0) = (xs.length : Int) := by rw [w64 (by omega) (by omega)]; omega
  have hCC : (fun z0 z1 => (C z0 z1).map fun z => z) = C := by funext a b; cases C a b <;> rfl
  rw [slices_SortFunc_int64.f_eq, ht, Option.bind_some, hCC, slices_pdqsortCmpFunc_int64.f_eq, slices_pdqsortCmpFunc_int64.l0_eq, w, hCC, if_pos (by omega), h1]
  rfl
noncomputable def cmpct (xs : List (List Int)) : Nat → List (List Int)
  | 0 => []
  | n + 1 => ite_ (0 < n ∧ row xs (n : Int) = row xs ((n - 1 : Nat) : Int)) (cmpct xs n) (cmpct xs n ++ [row xs (n : Int)])
theorem cmpct_len (xs : List (List Int)) : ∀ n, (cmpct xs n).length ≤ n ∧ (0 < n → 0 < (cmpct xs n).length) := by
  intro n
  induction n with
  | zero => simp [cmpct]
  | succ n ih =>
    unfold cmpct
    by_cases h : 0 < n ∧ row xs (n : Int) = row xs ((n - 1 : Nat) : Int)
    · rw [ite_pos h]; exact ⟨by omega, fun _ => ih.2 h.1⟩
    · rw [ite_neg h, List.length_append, List.length_singleton]; exact ⟨by omega, fun _ => by omega⟩
theorem cmpct_mem (xs : List (List Int)) (r : List Int) : ∀ n, r ∈ cmpct xs n ↔ ∃ i : Nat, i < n ∧ r = row xs (i : Int) := by
  intro n
  induction n with
  | zero => simp [cmpct]
  | succ n ih =>
    unfold cmpct
    by_cases h : 0 < n ∧ row xs (n : Int) = row xs ((n - 1 : Nat) : Int)
    · rw [ite_pos h, ih]
      constructor
      · rintro ⟨i, hi, rfl⟩; exact ⟨i, by omega, rfl⟩
      · rintro ⟨i, hi, rfl⟩
        by_cases e : i = n
        · subst e; exact ⟨i - 1, by omega, h.2⟩
        · exact ⟨i, by omega, rfl⟩
    · rw [ite_neg h, List.mem_append, List.mem_singleton, ih]
      constructor
      · rintro (⟨i, hi, rfl⟩ | rfl)
        · exact ⟨i, by omega, rfl⟩
        · exact ⟨n, by omega, rfl⟩
      · rintro ⟨i, hi, rfl⟩
        by_cases e : i = n
        · subst e; exact .inr rfl
        · exact .inl ⟨i, by omega, rfl⟩
theorem take_rows {xs : List (List Int)} {m : Nat} (h : m < xs.length) : xs.take (m + 1) = xs.take m ++ [row xs m] := by
  rw [List.take_succ_eq_append_getElem h, row_get h]
theorem compact_ {Q : List Int → List Int → Option Bool} {xs : List (List Int)} (hQ : ∀ x ∈ xs, ∀ y ∈ xs, Q x y = some (B (x = y))) (hN : xs.length ≤ 1000000) : slices_CompactFunc_int64.f xs Q = some (cmpct xs xs.length) := by
  have hQ' : ∀ i j : Nat, i < xs.length → j < xs.length → Q (row xs (i : Int)) (row xs (j : Int)) = some (B (row xs (i : Int) = row xs (j : Int))) := fun i j hi hj => hQ _ (row_mem (by omega) (by omega)) _ (row_mem (by omega) (by omega))
  have inner : ∀ (n b k2 : Nat) (r : List (List Int)), b + k2 + n = xs.length → 0 < b → 0 < k2 → r.length = xs.length → (cmpct xs (b + k2)).length ≤ b + k2 - 1 → r.take (cmpct xs (b + k2)).length = cmpct xs (b + k2) → (∀ i : Nat, b + k2 - 1 ≤ i → i < xs.length → row r (i : Int) = row xs (i : Int)) →
      slices_CompactFunc_int64.l1 Q (((cmpct xs (b + k2)).length : Nat) : Int) b (k2 : Int) r = some (cmpct xs xs.length) := by
    intro n
    induction n with
    | zero =>
      intro b k2 r hb b0 k0 hr hc ht hs
      have e : b + k2 = xs.length := by omega
      have ek : ((r.length - b : Nat) : Int) = (k2 : Int) := by omega
      have tl : (r.take (cmpct xs (b + k2)).length ++ List.replicate (r.length - (cmpct xs (b + k2)).length) ([] : List Int)).length = r.length := by
        rw [List.length_append, List.length_take, List.length_replicate]; omega
      rw [slices_CompactFunc_int64.l1_eq, Int.toNat_natCast]
      (with_reducible repeat (first | refine go_pos (by first | assumption | omega | rfl | exact B_pos (by omega)) ?_ | refine go_neg (by first | assumption | omega | decide | exact B_not (by omega)) ?_ | refine go_bind (by first | assumption) ?_ | dsimp only))
      rw [List.take_append_of_le_length (by rw [List.length_take]; omega), List.take_take, Nat.min_self, ht, e]
    | succ n ih =>
      intro b k2 r hb b0 k0 hr hc ht hs
      have w1 : wrapI ((k2 : Int) - 1) = ((k2 - 1 : Nat) : Int) := by rw [w64 (by omega) (by omega)]; omega
      have e1 : (b : Int) + (k2 : Int) = ((b + k2 : Nat) : Int) := by omega
      have e2 : (b : Int) + ((k2 - 1 : Nat) : Int) = ((b + k2 - 1 : Nat) : Int) := by omega
      have r1 := hs (b + k2) (by omega) (by omega)
      have r2 := hs (b + k2 - 1) (by omega) (by omega)
      have hq := hQ' (b + k2) (b + k2 - 1) (by omega) (by omega)
      have cl := cmpct_len xs (b + k2)
      have kl : ((r.length - b : Nat) : Int) = ((xs.length - b : Nat) : Int) := by rw [hr]
      by_cases h : row xs ((b + k2 : Nat) : Int) = row xs ((b + k2 - 1 : Nat) : Int)
      · rw [B_pos h] at hq
        have ec : cmpct xs (b + (k2 + 1)) = cmpct xs (b + k2) := by
          show cmpct xs (b + k2 + 1) = _
          conv => lhs; unfold cmpct
          rw [ite_pos ⟨by omega, h⟩]
        have := ih b (k2 + 1) r (by omega) b0 (by omega) hr (by rw [ec]; omega) (by rw [ec]; exact ht) (fun i hi => hs i (by omega))
        rw [ec] at this
        rw [slices_CompactFunc_int64.l1_eq, w1, wn (j := k2) (by omega), e1, e2, r1, r2]
        (with_reducible repeat (first | refine go_pos (by first | assumption | omega | rfl | exact B_pos (by omega)) ?_ | refine go_neg (by first | assumption | omega | decide | exact B_not (by omega)) ?_ | refine go_bind (by first | assumption) ?_ | dsimp only))
        exact this
      · rw [B_neg h] at hq
        have ec : cmpct xs (b + (k2 + 1)) = cmpct xs (b + k2) ++ [row xs ((b + k2 : Nat) : Int)] := by
          show cmpct xs (b + k2 + 1) = _
          conv => lhs; unfold cmpct
          rw [ite_neg fun q => h q.2]
        have el : (cmpct xs (b + (k2 + 1))).length = (cmpct xs (b + k2)).length + 1 := by rw [ec, List.length_append, List.length_singleton]
        have := ih b (k2 + 1) (r.set (cmpct xs (b + k2)).length (row xs ((b + k2 : Nat) : Int))) (by omega) b0 (by omega) (by rw [List.length_set]; exact hr) (by omega) (by
          rw [el, List.take_succ_eq_append_getElem (by rw [List.length_set]; omega), List.take_set_of_le (Nat.le_refl _), ht, ec]
          simp) (fun i hi hi2 => by rw [row_set_ne (by omega)]; exact hs i (by omega) hi2)
        rw [el] at this
        rw [slices_CompactFunc_int64.l1_eq, w1, wn (j := k2) (by omega), wn (j := (cmpct xs (b + k2)).length) (by omega), e1, e2, r1, r2, Int.toNat_natCast]
        (with_reducible repeat (first | refine go_pos (by first | assumption | omega | rfl | exact B_pos (by omega)) ?_ | refine go_neg (by first | assumption | omega | decide | exact B_not (by omega)) ?_ | refine go_bind (by first | assumption) ?_ | dsimp only))
        exact this
  have outer : ∀ (n k : Nat), k + n = xs.length → 0 < k → cmpct xs k = xs.take k → slices_CompactFunc_int64.l0 Q (k : Int) xs = some (cmpct xs xs.length) := by
    intro n
    induction n with
    | zero =>
      intro k hk k0 hc
      rw [slices_CompactFunc_int64.l0_eq]
      have : k = xs.length := by omega
      subst this
      rw [hc, List.take_length]
      ((with_reducible repeat (first | refine go_pos (by first | assumption | omega | rfl | exact B_pos (by omega)) ?_ | refine go_neg (by first | assumption | omega | decide | exact B_not (by omega)) ?_ | refine go_bind (by first | assumption) ?_ | dsimp only)); first | done | (with_reducible rfl) | simp (disch := omega) only [w64] | (show False; done))
    | succ n ih =>
      intro k hk k0 hc
      have w1 : wrapI ((k : Int) - 1) = ((k - 1 : Nat) : Int) := by rw [w64 (by omega) (by omega)]; omega
      have hq := hQ' k (k - 1) (by omega) (by omega)
      by_cases h : row xs (k : Int) = row xs ((k - 1 : Nat) : Int)
      · rw [B_pos h] at hq
        have ec : cmpct xs (k + 1) = cmpct xs k := by
          conv => lhs; unfold cmpct
          rw [ite_pos ⟨k0, h⟩]
        have hlk : (cmpct xs (k + 1)).length = k := by rw [ec, hc, List.length_take]; omega
        have := inner n k 1 xs (by omega) k0 (by omega) rfl (by omega) (by rw [hlk, ec, hc]) (fun i _ _ => rfl)
        rw [hlk] at this
        rw [slices_CompactFunc_int64.l0_eq, w1]
        (with_reducible repeat (first | refine go_pos (by first | assumption | omega | rfl | exact B_pos (by omega)) ?_ | refine go_neg (by first | assumption | omega | decide | exact B_not (by omega)) ?_ | refine go_bind (by first | assumption) ?_ | dsimp only))
        exact this
      · rw [B_neg h] at hq
        have ec : cmpct xs (k + 1) = cmpct xs k ++ [row xs (k : Int)] := by
          conv => lhs; unfold cmpct
          rw [ite_neg fun q => h q.2]
        have := ih (k + 1) (by omega) (by omega) (by rw [ec, hc, take_rows (by omega)])
        rw [slices_CompactFunc_int64.l0_eq, w1, wn (j := k) (by omega)]
        (with_reducible repeat (first | refine go_pos (by first | assumption | omega | rfl | exact B_pos (by omega)) ?_ | refine go_neg (by first | assumption | omega | decide | exact B_not (by omega)) ?_ | refine go_bind (by first | assumption) ?_ | dsimp only))
        exact this
  rw [slices_CompactFunc_int64.f_eq]
  by_cases h2 : (xs.length : Int) < 2
  · rw [if_pos h2]
    congr 1
    match xs, h2 with
    | [], _ => rfl
    | [x], _ =>
      show [x] = cmpct [x] 1
      unfold cmpct
      rw [ite_neg (fun q => absurd q.1 (Nat.lt_irrefl 0))]
      simp [cmpct, row]
    | x :: y :: xs, h2 => simp only [List.length_cons] at h2; omega
  · rw [if_neg h2]
    refine outer (xs.length - 1) 1 (by omega) (by omega) ?_
    unfold cmpct
    rw [ite_neg (fun q => absurd q.1 (Nat.lt_irrefl 0)), show ((0 : Nat) : Int) = 0 from rfl, take_rows (by omega)]
    simp [cmpct]
end Go.Proofs.Ytpppnoliogdkiaa.V
set_option linter.unusedVariables false
set_option linter.unusedSimpArgs false
set_option maxHeartbeats 2000000
set_option maxRecDepth 20000
namespace Go.Proofs.Ytpppnoliogdkiaa.V
open Go.RowKit Go.Proofs.Ytpppnoliogdkiaa.D Go.Proofs.Ytpppnoliogdkiaa.P
def Nums (g : List (List Int)) (m : Int) (l : List Int) : Prop := (l.length : Int) = g.length ∧ AllIn m l
def Crs (g : List (List Int)) (m : Int) (u l : List Int) : Prop := ∀ x : Int, 0 ≤ x → x < g.length → ∀ y : Int, 0 ≤ y → y < g.length → rd l (T g x y) = (rd l x + rd u x * rd l y) % m
theorem crs_mod {m a b : Int} (m0 : 0 < m) (b0 : 0 ≤ b) (b1 : b < m) : (a - b).tmod m = 0 ↔ b = a % m := by
  have e : (a - b).tmod m = 0 ↔ m ∣ (a - b) := ⟨Int.dvd_of_tmod_eq_zero, Int.tmod_eq_zero_of_dvd⟩
  rw [e]
  constructor
  · intro h
    have := (Int.emod_emod_of_dvd a (Int.dvd_refl m))
    have h2 : a % m = b % m := Int.emod_eq_emod_iff_emod_sub_eq_zero.2 (Int.emod_eq_zero_of_dvd h)
    rw [h2, Int.emod_eq_of_lt b0 b1]
  · intro h
    have h2 : a % m = b % m := by rw [Int.emod_eq_of_lt b0 b1]; exact h.symm
    exact Int.dvd_of_emod_eq_zero (Int.emod_eq_emod_iff_emod_sub_eq_zero.1 h2)
theorem isCrossed {g : List (List Int)} {m : Int} {u l : List Int} (hg : Grp g) (hm : Mdl g m u) (hn : Nums g m l) : impl_isCrossed.f g m u l = some (B (Crs g m u l)) := by
  have n8 := hg.n8; have m2 := hm.m2; have m12 := hm.m12; have hlu := hm.len
  obtain ⟨hl, ha⟩ := hn
  rw [impl_isCrossed.f_eq, impl_order.f_eq, Option.bind_some]
  refine scanT g.length (fun x => impl_isCrossed.l0 l (g.length : Int) x g m u) (fun x => ∀ y : Int, 0 ≤ y → y < g.length → rd l (T g x y) = (rd l x + rd u x * rd l y) % m) (fun x x0 x1 _ => ?_) (fun _ => by (rw [impl_isCrossed.l0_eq]); ((with_reducible repeat (first | refine go_pos (by first | assumption | omega | rfl | exact B_pos (by omega)) ?_ | refine go_neg (by first | assumption | omega | decide | exact B_not (by omega)) ?_ | refine go_bind (by first | assumption) ?_ | dsimp only)); first | done | (with_reducible rfl) | simp (disch := omega) only [w64] | (show False; done)))
  have inner := scanI g.length (fun y => impl_isCrossed.l1 l x (g.length : Int) x (g.length : Int) y g m u) (fun y => rd l (T g x y) = (rd l x + rd u x * rd l y) % m) (some false) (impl_isCrossed.l0 l (g.length : Int) (x + 1) g m u) (fun y y0 y1 _ => by
    obtain ⟨e0, e1⟩ := hg.ent x y x0 x1 y0 y1
    obtain ⟨a0, a1⟩ := ha x x0 (by omega)
    obtain ⟨b0, b1⟩ := ha y y0 (by omega)
    obtain ⟨c0, c1⟩ := ha _ e0 (by omega)
    obtain ⟨s0, s1⟩ := small_prod hm x0 x1 b0 b1
    have ht := times2 hg x0 x1 y0 y1
    have key := crs_mod (m := m) (a := rd l x + rd u x * rd l y) (by omega) c0 c1
    rw [impl_isCrossed.l1_eq, ht, Option.bind_some, w64 (x := rd u x * rd l y) (by omega) (by omega), w64 (x := rd l x + rd u x * rd l y) (by omega) (by omega), w64 (x := rd l x + rd u x * rd l y - rd l (T g x y)) (by omega) (by omega)]
    refine ⟨fun h => ?_, fun h => ?_⟩
    · have h' := key.2 h
      ((with_reducible repeat (first | refine go_pos (by first | assumption | omega | rfl | exact B_pos (by omega)) ?_ | refine go_neg (by first | assumption | omega | decide | exact B_not (by omega)) ?_ | refine go_bind (by first | assumption) ?_ | dsimp only)); first | done | (with_reducible rfl) | simp (disch := omega) only [w64] | (show False; done))
    · have h' := fun q => h (key.1 q)
      ((with_reducible repeat (first | refine go_pos (by first | assumption | omega | rfl | exact B_pos (by omega)) ?_ | refine go_neg (by first | assumption | omega | decide | exact B_not (by omega)) ?_ | refine go_bind (by first | assumption) ?_ | dsimp only)); first | done | (with_reducible rfl) | simp (disch := omega) only [w64] | (show False; done))) (fun _ => by (rw [impl_isCrossed.l1_eq]); ((with_reducible repeat (first | refine go_pos (by first | assumption | omega | rfl | exact B_pos (by omega)) ?_ | refine go_neg (by first | assumption | omega | decide | exact B_not (by omega)) ?_ | refine go_bind (by first | assumption) ?_ | dsimp only)); first | done | (with_reducible rfl) | simp (disch := omega) only [w64] | (show False; done)))
  refine ⟨fun h => ?_, fun h => ?_⟩ <;> rw [impl_isCrossed.l0_eq, impl_order.f_eq, Option.bind_some] <;> (with_reducible repeat (first | refine go_pos (by first | assumption | omega | rfl | exact B_pos (by omega)) ?_ | refine go_neg (by first | assumption | omega | decide | exact B_not (by omega)) ?_ | refine go_bind (by first | assumption) ?_ | dsimp only))
  · exact inner.1 h
  · exact inner.2 h
theorem Crossed_ {g : List (List Int)} {m : Int} {u l : List Int} (hg : Grp g) (hm : Mdl g m u) (hn : Nums g m l) : spec_l05Crossed.f g m u l = some (B (Crs g m u l)) := by
  have n8 := hg.n8; have m2 := hm.m2; have m12 := hm.m12; have hlu := hm.len
  obtain ⟨hl, ha⟩ := hn
  rw [spec_l05Crossed.f_eq]
  refine scanT g.length (fun x => spec_l05Crossed.l0 l x g m u) (fun x => ∀ y : Int, 0 ≤ y → y < g.length → rd l (T g x y) = (rd l x + rd u x * rd l y) % m) (fun x x0 x1 _ => ?_) (fun _ => by rw [spec_l05Crossed.l0_eq, spec_l01N.f_eq, Option.bind_some]; ((with_reducible repeat (first | refine go_pos (by first | assumption | omega | rfl | exact B_pos (by omega)) ?_ | refine go_neg (by first | assumption | omega | decide | exact B_not (by omega)) ?_ | refine go_bind (by first | assumption) ?_ | dsimp only)); first | done | (with_reducible rfl) | simp (disch := omega) only [w64] | (show False; done)))
  have rx := hg.row x x0 x1
  have inner := scanI g.length (fun y => spec_l05Crossed.l1 l x y g m u) (fun y => rd l (T g x y) = (rd l x + rd u x * rd l y) % m) (some false) (spec_l05Crossed.l0 l (x + 1) g m u) (fun y y0 y1 _ => by
    obtain ⟨e0, e1⟩ := hg.ent x y x0 x1 y0 y1
    obtain ⟨a0, a1⟩ := ha x x0 (by omega)
    obtain ⟨b0, b1⟩ := ha y y0 (by omega)
    obtain ⟨s0, s1⟩ := small_prod hm x0 x1 b0 b1
    have hmod := Mod_ (a := rd l x + rd u x * rd l y) (m := m) (by omega) (by omega) (by omega) (by omega)
    rw [spec_l05Crossed.l1_eq, spec_l01N.f_eq, Option.bind_some, w64 (x := rd u x * rd l y) (by omega) (by omega), w64 (x := rd l x + rd u x * rd l y) (by omega) (by omega), hmod, Option.bind_some]
    refine ⟨fun h => ?_, fun h => ?_⟩ <;> ((with_reducible repeat (first | refine go_pos (by first | assumption | omega | rfl | exact B_pos (by omega)) ?_ | refine go_neg (by first | assumption | omega | decide | exact B_not (by omega)) ?_ | refine go_bind (by first | assumption) ?_ | dsimp only)); first | done | (with_reducible rfl) | simp (disch := omega) only [w64] | (show False; done))) (fun _ => by rw [spec_l05Crossed.l1_eq, spec_l01N.f_eq, Option.bind_some]; ((with_reducible repeat (first | refine go_pos (by first | assumption | omega | rfl | exact B_pos (by omega)) ?_ | refine go_neg (by first | assumption | omega | decide | exact B_not (by omega)) ?_ | refine go_bind (by first | assumption) ?_ | dsimp only)); first | done | (with_reducible rfl) | simp (disch := omega) only [w64] | (show False; done)))
  refine ⟨fun h => ?_, fun h => ?_⟩ <;> rw [spec_l05Crossed.l0_eq, spec_l01N.f_eq, Option.bind_some] <;> (with_reducible repeat (first | refine go_pos (by first | assumption | omega | rfl | exact B_pos (by omega)) ?_ | refine go_neg (by first | assumption | omega | decide | exact B_not (by omega)) ?_ | refine go_bind (by first | assumption) ?_ | dsimp only))
  · exact inner.1 h
  · exact inner.2 h
end Go.Proofs.Ytpppnoliogdkiaa.V
set_option linter.unusedVariables false
set_option linter.unusedSimpArgs false
set_option maxHeartbeats 2000000
set_option maxRecDepth 20000
namespace Go.Proofs.Ytpppnoliogdkiaa.V
open Go.RowKit Go.Proofs.Ytpppnoliogdkiaa.D Go.Proofs.Ytpppnoliogdkiaa.P
theorem Numbers_ {g : List (List Int)} {m : Int} {u l : List Int} (m2 : 2 ≤ m) (m12 : m ≤ 12) (hl : l.length ≤ maxLen) : spec_l05Numbers.f g m u l = some (B (Nums g m l)) := by
  have hm := maxLen_le
  rw [spec_l05Numbers.f_eq]
  have hw : wrapI (m - 1) = m - 1 := w64 (by omega) (by omega)
  rw [B_congr (show Nums g m l ↔ (∀ i : Int, 0 ≤ i → i < l.length → 0 ≤ rd l i ∧ rd l i < m) ∧ (l.length : Int) = g.length from ⟨fun h => ⟨h.2, h.1⟩, fun h => ⟨h.2, h.1⟩⟩)]
  refine scanB l.length (fun i => spec_l05Numbers.l0 l i g m u) (fun i => 0 ≤ rd l i ∧ rd l i < m) _ (fun i i0 i1 _ => ?_) (fun _ => ?_)
  · refine ⟨fun h => ?_, fun h => ?_⟩ <;> (rw [spec_l05Numbers.l0_eq, hw]) <;> ((with_reducible repeat (first | refine go_pos (by first | assumption | omega | rfl | exact B_pos (by omega)) ?_ | refine go_neg (by first | assumption | omega | decide | exact B_not (by omega)) ?_ | refine go_bind (by first | assumption | exact In_ _ _ _) ?_ | dsimp only)); first | done | (with_reducible rfl) | simp (disch := omega) only [w64] | (show False; done))
  · rw [spec_l05Numbers.l0_eq]
    (with_reducible repeat (first | refine go_pos (by first | assumption | omega | rfl | exact B_pos (by omega)) ?_ | refine go_neg (by first | assumption | omega | decide | exact B_not (by omega)) ?_ | refine go_bind (by first | assumption) ?_ | dsimp only))
    rw [B_decide]
theorem isNumbers {g : List (List Int)} {m : Int} {u l : List Int} (hl : l.length ≤ maxLen) : impl_isNumbers.f g m u l = some (B (Nums g m l)) := by
  have ha := areIn m l hl
  rw [impl_isNumbers.f_eq, impl_order.f_eq, Option.bind_some]
  by_cases h : (l.length : Int) = g.length
  · rw [B_congr (show Nums g m l ↔ AllIn m l from ⟨fun k => k.2, fun k => ⟨h, k⟩⟩)]
    (with_reducible repeat (first | refine go_pos (by first | assumption | omega | rfl | exact B_pos (by omega)) ?_ | refine go_neg (by first | assumption | omega | decide | exact B_not (by omega)) ?_ | refine go_bind (by first | assumption) ?_ | dsimp only))
    simp
  · rw [B_neg fun k => h k.1]
    ((with_reducible repeat (first | refine go_pos (by first | assumption | omega | rfl | exact B_pos (by omega)) ?_ | refine go_neg (by first | assumption | omega | decide | exact B_not (by omega)) ?_ | refine go_bind (by first | assumption) ?_ | dsimp only)); first | done | (with_reducible rfl) | simp (disch := omega) only [w64] | (show False; done))
theorem crossed_codes (g : List (List Int)) (hl : g.length ≤ maxLen) (hr : ∀ r ∈ g, r.length ≤ maxLen) (m : Int) (u : List Int) (hu : u.length ≤ maxLen) (l : List Int) (hx : l.length ≤ maxLen) :
    (Grp g ∧ Mdl g m u ∧ Nums g m l ∧ Crs g m u l ∧ impl_crossedCode.f g m u l = some 0 ∧ spec_l05Given.f g m u l = some 0) ∨
    ∃ c : Int, ¬ c = 0 ∧ impl_crossedCode.f g m u l = some c ∧ spec_l05Given.f g m u l = some c := by
  have hM := moduleCode1 g hl hr m u hu
  have hS := Is_ g
  rw [impl_crossedCode.f_eq, spec_l05Given.f_eq, impl_numbersCode.f_eq, spec_l05Code.f_eq]
  by_cases h : GM g m u
  rotate_left
  · rw [ite_neg h] at hM
    refine .inr ⟨1, by omega, by rw [hM]; rfl, ?_⟩
    by_cases h1 : Grp g
    · have h2 := Is02 h1 m u hu
      rw [B_neg fun k => h ⟨h1, k⟩] at h2
      rw [hS, B_pos h1, Option.bind_some, if_pos rfl, h2]; rfl
    · rw [hS, B_neg h1]; rfl
  obtain ⟨hg, hm⟩ := h
  have h2 := Is02 hg m u hu
  have hn1 := isNumbers (g := g) (m := m) (u := u) hx
  have hn2 := Numbers_ (g := g) (u := u) hm.m2 hm.m12 hx
  rw [ite_pos ⟨hg, hm⟩] at hM
  rw [hM, hS, B_pos hg, Option.bind_some, if_pos rfl, Option.bind_some, if_pos rfl, h2, B_pos hm, Option.bind_some, if_pos rfl, hn1, hn2]
  by_cases h3 : Nums g m l
  rotate_left
  · rw [B_neg h3]
    exact .inr ⟨2, by omega, rfl, rfl⟩
  have c1 := isCrossed hg hm h3
  have c2 := Crossed_ hg hm h3
  rw [B_pos h3, Option.bind_some, if_pos rfl, Option.bind_some, if_pos rfl, Option.bind_some, if_pos rfl, c1, c2]
  by_cases h4 : Crs g m u l
  · rw [B_pos h4]
    exact .inl ⟨hg, hm, h3, h4, rfl, rfl⟩
  · rw [B_neg h4]
    exact .inr ⟨5, by omega, rfl, rfl⟩
end Go.Proofs.Ytpppnoliogdkiaa.V
set_option linter.unusedVariables false
set_option linter.unusedSimpArgs false
set_option maxHeartbeats 4000000
set_option maxRecDepth 20000
namespace Go.Proofs.Ytpppnoliogdkiaa.V
open Go.RowKit Go.Proofs.Ytpppnoliogdkiaa.D Go.Proofs.Ytpppnoliogdkiaa.P
def prm (m : Int) (u : List Int) (a : Int) : List Int := u.map fun x => (x * a - a) % m
theorem prm_len (m : Int) (u : List Int) (a : Int) : (prm m u a).length = u.length := by simp [prm]
theorem prm_rd {m : Int} {u : List Int} {a : Int} {i : Nat} (h : i < u.length) : rd (prm m u a) (i : Int) = (rd u (i : Int) * a - a) % m := by
  rw [rd_get (by rw [prm_len]; exact h), rd_get h]; simp [prm]
theorem prm_in {m : Int} (m0 : 0 < m) (u : List Int) (a : Int) : AllIn m (prm m u a) := allIn_of fun x hx => by
  obtain ⟨y, _, rfl⟩ := List.mem_map.1 hx
  exact ⟨Int.emod_nonneg _ (by omega), Int.emod_lt_of_pos _ m0⟩
def adm (m : Int) (v w : List Int) : List Int := (List.range v.length).map fun i : Nat => (rd v (i : Int) + rd w (i : Int)) % m
theorem adm_len (m : Int) (v w : List Int) : (adm m v w).length = v.length := by simp [adm]
theorem adm_rd {m : Int} {v w : List Int} {i : Nat} (h : i < v.length) : rd (adm m v w) (i : Int) = (rd v (i : Int) + rd w (i : Int)) % m := by
  rw [rd_get (by rw [adm_len]; exact h)]; simp [adm]
theorem principalMap_ {g : List (List Int)} {m : Int} {u : List Int} (hg : Grp g) (hm : Mdl g m u) {a : Int} (a0 : 0 ≤ a) (a1 : a < m) : impl_principalMap.f m u a = some (prm m u a) := by
  have n8 := hg.n8; have m2 := hm.m2; have m12 := hm.m12; have hlu := hm.len
  rw [impl_principalMap.f_eq]
  have := mapped (F := fun z0 => (impl_principalMap_1.f z0 a m u).map fun z => z) (G := fun x => (x * a - a) % m) u (by omega) (fun x hx => by
    obtain ⟨i, i0, i1, rfl⟩ : ∃ i : Int, 0 ≤ i ∧ i < u.length ∧ rd u i = x := by
      obtain ⟨i, hi, rfl⟩ := List.mem_iff_getElem.1 hx
      exact ⟨i, by omega, by omega, rd_get hi⟩
    have hs := small_prod hm i0 (by omega) a0 a1
    show Option.map _ (impl_principalMap_1.f (rd u i) a m u) = _
    rw [impl_principalMap_1.f_eq, if_neg (by omega), w64 (x := rd u i * a) (by omega) (by omega), w64 (x := rd u i * a + m) (by omega) (by omega), w64 (by omega) (by omega), tmod_nn (by omega), show rd u i * a + m - a = rd u i * a - a + m by omega, Int.add_emod_right]
    rfl)
  rw [this]
  rfl
theorem Principal_ {g : List (List Int)} {m : Int} {u : List Int} (hg : Grp g) (hm : Mdl g m u) {a : Int} (a0 : 0 ≤ a) (a1 : a < m) : spec_l05Principal.f g m u a = some (prm m u a) := by
  have n8 := hg.n8; have m2 := hm.m2; have m12 := hm.m12; have hlu := hm.len
  rw [spec_l05Principal.f_eq]
  have := up g.length (fun j => spec_l05Principal.l0 a (j : Int) g m u ((u.take j).map fun x => (x * a - a) % m)) (fun j h => by
    have l1 : ((u.take j).map fun x => (x * a - a) % m).length = j := by rw [List.length_map, List.length_take]; omega
    have l2 : ∀ x : Int, ([x] : List Int).length = 1 := fun _ => rfl
    have hs := small_prod hm (x := (j : Int)) (by omega) (by omega) a0 a1
    have hmod := Mod_ (a := rd u (j : Int) * a - a) (m := m) (by omega) (by omega) (by omega) (by omega)
    rw [take_rd (by omega), List.map_append, List.map_singleton, spec_l05Principal.l0_eq, spec_l01N.f_eq, Option.bind_some, wn (j := j) (by omega), w64 (x := rd u (j : Int) * a) (by omega) (by omega), w64 (x := rd u (j : Int) * a - a) (by omega) (by omega), hmod, Option.bind_some, l1, l2]
    ((with_reducible repeat (first | refine go_pos (by first | assumption | omega | rfl | exact B_pos (by omega)) ?_ | refine go_neg (by first | assumption | omega | decide | exact B_not (by omega)) ?_ | refine go_bind (by first | assumption) ?_ | dsimp only)); first | done | (with_reducible rfl) | simp (disch := omega) only [w64] | (show False; done)))
  have e : (u.take g.length).map (fun x => (x * a - a) % m) = prm m u a := by rw [List.take_of_length_le (by omega)]; rfl
  simp only [Int.natCast_zero, List.take_zero, List.map_nil, e] at this
  rw [this, spec_l05Principal.l0_eq, spec_l01N.f_eq, Option.bind_some]
  ((with_reducible repeat (first | refine go_pos (by first | assumption | omega | rfl | exact B_pos (by omega)) ?_ | refine go_neg (by first | assumption | omega | decide | exact B_not (by omega)) ?_ | refine go_bind (by first | assumption) ?_ | dsimp only)); first | done | (with_reducible rfl) | simp (disch := omega) only [w64] | (show False; done))
theorem principalMaps_ {g : List (List Int)} {m : Int} {u : List Int} (hg : Grp g) (hm : Mdl g m u) : ∃ Ps, impl_principalMaps.f m u = some Ps ∧ 0 < Ps.length ∧ Ps.length ≤ 12 ∧ ∀ r, r ∈ Ps ↔ ∃ a : Nat, (a : Int) < m ∧ r = prm m u (a : Int) := by
  have n8 := hg.n8; have m2 := hm.m2; have m12 := hm.m12; have hlu := hm.len
  obtain ⟨M, hM⟩ : ∃ M : Nat, m = (M : Int) := Int.eq_ofNat_of_zero_le (by omega)
  obtain ⟨xs, hxs⟩ : ∃ xs : List (List Int), xs = (List.range M).map fun a : Nat => prm m u (a : Int) := ⟨_, rfl⟩
  have hxl : xs.length = M := by rw [hxs]; simp
  have hmem : ∀ r, r ∈ xs ↔ ∃ a : Nat, (a : Int) < m ∧ r = prm m u (a : Int) := fun r => by
    rw [hxs, List.mem_map]
    constructor
    · rintro ⟨a, ha, rfl⟩; exact ⟨a, by have := List.mem_range.1 ha; omega, rfl⟩
    · rintro ⟨a, ha, rfl⟩; exact ⟨a, List.mem_range.2 (by omega), rfl⟩
  obtain ⟨S, s1, _, s3⟩ := sort12 (W := g.length) (C := fun z0 z1 => (slices_Compare_int64.f z0 z1).map fun z => z) (fun x y hx hy => by
    obtain ⟨c, c1, c2, _⟩ := Compare_ hx hy (by omega)
    exact ⟨c, by show Option.map _ (slices_Compare_int64.f x y) = _; rw [c1]; rfl, c2⟩) (xs := xs) (by omega) (fun r hr => by
    obtain ⟨a, _, rfl⟩ := (hmem r).1 hr
    rw [prm_len, hlu])
  have hS : ∀ r, r ∈ S ↔ ∃ a : Nat, (a : Int) < m ∧ r = prm m u (a : Int) := fun r => (s3.mem_iff).trans (hmem r)
  have hSl : S.length = M := by rw [s3.length_eq, hxl]
  have hc := compact_ (Q := fun z0 z1 => (slices_Equal_int64.f z0 z1).map fun z => z) (xs := S) (fun x hx y hy => by
    obtain ⟨a, _, rfl⟩ := (hS x).1 hx
    show Option.map _ (slices_Equal_int64.f _ y) = _
    rw [Equal_ _ _ (by rw [prm_len]; omega)]; rfl) (by omega)
  have cl := cmpct_len S S.length
  refine ⟨cmpct S S.length, ?_, cl.2 (by omega), by omega, fun r => ?_⟩
  · rw [impl_principalMaps.f_eq]
    have := up M (fun j => impl_principalMaps.l0 m (j : Int) m u ((List.range j).map fun a : Nat => prm m u (a : Int))) (fun j h => by
      have l1 : ((List.range j).map fun a : Nat => prm m u (a : Int)).length = j := by simp
      have l2 : ∀ x : List Int, ([x] : List (List Int)).length = 1 := fun _ => rfl
      have hp := principalMap_ hg hm (a := (j : Int)) (by omega) (by omega)
      rw [List.range_succ, List.map_append, List.map_singleton, impl_principalMaps.l0_eq, wn (j := j) (by omega), hp, Option.bind_some, l1, l2]
      ((with_reducible repeat (first | refine go_pos (by first | assumption | omega | rfl | exact B_pos (by omega)) ?_ | refine go_neg (by first | assumption | omega | decide | exact B_not (by omega)) ?_ | refine go_bind (by first | assumption) ?_ | dsimp only)); first | done | (with_reducible rfl) | simp (disch := omega) only [w64] | (show False; done)))
    simp only [Int.natCast_zero, List.range_zero, List.map_nil, ← hxs] at this
    rw [this, impl_principalMaps.l0_eq, if_neg (by omega), s1, Option.bind_some, hc, Option.bind_some]
  · rw [cmpct_mem, ← hS]
    constructor
    · rintro ⟨i, hi, rfl⟩; exact row_mem (by omega) (by omega)
    · intro h
      obtain ⟨i, i0, i1, rfl⟩ := mem_row h
      exact ⟨i.toNat, by omega, by rw [Int.toNat_of_nonneg i0]⟩
def Cand (m : Int) (u l r : List Int) : Prop := ∃ a : Nat, (a : Int) < m ∧ r = adm m l (prm m u (a : Int))
def BestC (m : Int) (u l r : List Int) : Prop := Cand m u l r ∧ ∀ s, Cand m u l s → ¬ Ll l.length s r
theorem BestC.uniq {m : Int} {u l r s : List Int} (h : BestC m u l r) (k : BestC m u l s) : r = s := by
  obtain ⟨a, _, ha⟩ := h.1
  obtain ⟨b, _, hb⟩ := k.1
  have lr : r.length = l.length := by rw [ha, adm_len]
  have ls : s.length = l.length := by rw [hb, adm_len]
  rcases Ll.tri l.length r s with q | q | q
  · exact absurd q (k.2 r h.1)
  · exact eq_of_all lr ls q
  · exact absurd q (h.2 s k.1)
theorem adm_step {m : Int} {v w : List Int} {j : Nat} : (List.range (j + 1)).map (fun i : Nat => (rd v (i : Int) + rd w (i : Int)) % m) = (List.range j).map (fun i : Nat => (rd v (i : Int) + rd w (i : Int)) % m) ++ [(rd v (j : Int) + rd w (j : Int)) % m] := by
  rw [List.range_succ, List.map_append, List.map_singleton]
theorem classOf_ {g : List (List Int)} {m : Int} {u l : List Int} (hg : Grp g) (hm : Mdl g m u) (hn : Nums g m l) {Ps : List (List Int)} (h0 : 0 < Ps.length) (h12 : Ps.length ≤ 12) (hP : ∀ r, r ∈ Ps ↔ ∃ a : Nat, (a : Int) < m ∧ r = prm m u (a : Int)) : ∃ r, impl_classOf.f m u l Ps = some r ∧ BestC m u l r := by
  have n8 := hg.n8; have n1 := hg.n1; have m2 := hm.m2; have m12 := hm.m12; have hlu := hm.len; have hll := hn.1; have hla := hn.2
  have hrow : ∀ j : Nat, j < Ps.length → AllIn m (row Ps (j : Int)) ∧ (row Ps (j : Int)).length = l.length ∧ Cand m u l (adm m l (row Ps (j : Int))) := fun j hj => by
    obtain ⟨a, ha, e⟩ := (hP _).1 (row_mem (show (0 : Int) ≤ j by omega) (show (j : Int) < Ps.length by omega))
    exact ⟨by rw [e]; exact prm_in (by omega) _ _, by rw [e, prm_len]; omega, ⟨a, ha, by rw [e]⟩⟩
  have l2' : ∀ x : Int, ([x] : List Int).length = 1 := fun _ => rfl
  have inner1 : ∀ j : Nat, j < Ps.length → impl_classOf.l1 l (row Ps (j : Int)) Ps (Ps.length : Int) (j : Int) l (l.length : Int) 0 m u [] = impl_classOf.l2 l Ps (Ps.length : Int) ((j + 1 : Nat) : Int) m u (adm m l (row Ps (j : Int))) := fun j hj => by
    obtain ⟨pa, pl, _⟩ := hrow j hj
    have := up l.length (fun i => impl_classOf.l1 l (row Ps (j : Int)) Ps (Ps.length : Int) (j : Int) l (l.length : Int) (i : Int) m u ((List.range i).map fun i : Nat => (rd l (i : Int) + rd (row Ps (j : Int)) (i : Int)) % m)) (fun i hi => by
      have l1 : ((List.range i).map fun i : Nat => (rd l (i : Int) + rd (row Ps (j : Int)) (i : Int)) % m).length = i := by simp
      have a := hla (i : Int) (by omega) (by omega)
      have b := pa (i : Int) (by omega) (by omega)
      rw [adm_step, impl_classOf.l1_eq, wn (j := i) (by omega), w64 (x := rd l (i : Int) + rd (row Ps (j : Int)) (i : Int)) (by omega) (by omega), tmod_nn (show 0 ≤ rd l (i : Int) + rd (row Ps (j : Int)) (i : Int) by omega), l1, l2']
      clear a b
      ((with_reducible repeat (first | refine go_pos (by first | assumption | omega | rfl | exact B_pos (by omega)) ?_ | refine go_neg (by first | assumption | omega | decide | exact B_not (by omega)) ?_ | refine go_bind (by first | assumption) ?_ | dsimp only)); first | done | (with_reducible rfl) | simp (disch := omega) only [w64] | (show False; done)))
    simp only [Int.natCast_zero, List.range_zero, List.map_nil] at this
    rw [this, impl_classOf.l1_eq, wn (j := j) (by omega), if_neg (by omega)]
    rfl
  have inner3 : ∀ (j : Nat) (r1 : List Int), j < Ps.length → r1.length = l.length → (Ll l.length (adm m l (row Ps (j : Int))) r1 → impl_classOf.l3 l (row Ps (j : Int)) Ps (Ps.length : Int) (j : Int) l (l.length : Int) 0 m u r1 [] = impl_classOf.l2 l Ps (Ps.length : Int) ((j + 1 : Nat) : Int) m u (adm m l (row Ps (j : Int)))) ∧ (¬ Ll l.length (adm m l (row Ps (j : Int))) r1 → impl_classOf.l3 l (row Ps (j : Int)) Ps (Ps.length : Int) (j : Int) l (l.length : Int) 0 m u r1 [] = impl_classOf.l2 l Ps (Ps.length : Int) ((j + 1 : Nat) : Int) m u r1) := fun j r1 hj hr1 => by
    obtain ⟨pa, pl, _⟩ := hrow j hj
    have := up l.length (fun i => impl_classOf.l3 l (row Ps (j : Int)) Ps (Ps.length : Int) (j : Int) l (l.length : Int) (i : Int) m u r1 ((List.range i).map fun i : Nat => (rd l (i : Int) + rd (row Ps (j : Int)) (i : Int)) % m)) (fun i hi => by
      have l1 : ((List.range i).map fun i : Nat => (rd l (i : Int) + rd (row Ps (j : Int)) (i : Int)) % m).length = i := by simp
      have a := hla (i : Int) (by omega) (by omega)
      have b := pa (i : Int) (by omega) (by omega)
      rw [adm_step, impl_classOf.l3_eq, wn (j := i) (by omega), w64 (x := rd l (i : Int) + rd (row Ps (j : Int)) (i : Int)) (by omega) (by omega), tmod_nn (show 0 ≤ rd l (i : Int) + rd (row Ps (j : Int)) (i : Int) by omega), l1, l2']
      clear a b
      ((with_reducible repeat (first | refine go_pos (by first | assumption | omega | rfl | exact B_pos (by omega)) ?_ | refine go_neg (by first | assumption | omega | decide | exact B_not (by omega)) ?_ | refine go_bind (by first | assumption) ?_ | dsimp only)); first | done | (with_reducible rfl) | simp (disch := omega) only [w64] | (show False; done)))
    simp only [Int.natCast_zero, List.range_zero, List.map_nil] at this
    have e : (List.range l.length).map (fun i : Nat => (rd l (i : Int) + rd (row Ps (j : Int)) (i : Int)) % m) = adm m l (row Ps (j : Int)) := rfl
    obtain ⟨c, c1, c2, _⟩ := Compare_ (x := adm m l (row Ps (j : Int))) (y := r1) (W := l.length) (adm_len _ _ _) hr1 (by omega)
    rw [this, impl_classOf.l3_eq, wn (j := j) (by omega), if_neg (by omega), e, if_pos (by omega), c1, Option.bind_some]
    exact ⟨fun h => if_pos (c2.2 h), fun h => if_neg fun k => h (c2.1 k)⟩
  have outer : ∀ (n j : Nat) (r1 : List Int), j + n = Ps.length → 0 < j → Cand m u l r1 → (∀ i : Nat, i < j → ¬ Ll l.length (adm m l (row Ps (i : Int))) r1) → ∃ r, impl_classOf.l2 l Ps (Ps.length : Int) (j : Int) m u r1 = some r ∧ Cand m u l r ∧ ∀ i : Nat, i < Ps.length → ¬ Ll l.length (adm m l (row Ps (i : Int))) r := by
    intro n
    induction n with
    | zero =>
      intro j r1 hj _ hc hb
      refine ⟨r1, ?_, hc, fun i hi => hb i (by omega)⟩
      rw [impl_classOf.l2_eq]
      ((with_reducible repeat (first | refine go_pos (by first | assumption | omega | rfl | exact B_pos (by omega)) ?_ | refine go_neg (by first | assumption | omega | decide | exact B_not (by omega)) ?_ | refine go_bind (by first | assumption) ?_ | dsimp only)); first | done | (with_reducible rfl) | simp (disch := omega) only [w64] | (show False; done))
    | succ n ih =>
      intro j r1 hj j0 hc hb
      have hr1 : r1.length = l.length := by obtain ⟨a, _, rfl⟩ := hc; rw [adm_len]
      obtain ⟨k1, k2⟩ := inner3 j r1 (by omega) hr1
      by_cases h : Ll l.length (adm m l (row Ps (j : Int))) r1
      · obtain ⟨r, e, f⟩ := ih (j + 1) _ (by omega) (by omega) (hrow j (by omega)).2.2 (fun i hi => by
          by_cases e : i = j
          · rw [e]; exact Ll.irrefl
          · exact fun q => hb i (by omega) (q.trans h))
        refine ⟨r, ?_, f⟩
        have k := k1 h
        rw [impl_classOf.l2_eq]
        (with_reducible repeat (first | refine go_pos (by first | assumption | omega | rfl | exact B_pos (by omega)) ?_ | refine go_neg (by first | assumption | omega | decide | exact B_not (by omega)) ?_ | refine go_bind (by first | assumption) ?_ | dsimp only))
        rw [k, e]
      · obtain ⟨r, e, f⟩ := ih (j + 1) r1 (by omega) (by omega) hc (fun i hi => by
          by_cases e : i = j
          · rw [e]; exact h
          · exact hb i (by omega))
        refine ⟨r, ?_, f⟩
        have k := k2 h
        rw [impl_classOf.l2_eq]
        (with_reducible repeat (first | refine go_pos (by first | assumption | omega | rfl | exact B_pos (by omega)) ?_ | refine go_neg (by first | assumption | omega | decide | exact B_not (by omega)) ?_ | refine go_bind (by first | assumption) ?_ | dsimp only))
        rw [k, e]
  obtain ⟨r, e, f1, f2⟩ := outer (Ps.length - 1) 1 (adm m l (row Ps ((0 : Nat) : Int))) (by omega) (by omega) (hrow 0 h0).2.2 (fun i hi => by rw [show i = 0 by omega]; exact Ll.irrefl)
  refine ⟨r, ?_, f1, fun s hs => ?_⟩
  · have i1 := inner1 0 h0
    simp only [Int.natCast_zero, Nat.zero_add] at i1 e
    rw [impl_classOf.f_eq, impl_classOf.l0_eq]
    (with_reducible repeat (first | refine go_pos (by first | assumption | omega | rfl | exact B_pos (by omega)) ?_ | refine go_neg (by first | assumption | omega | decide | exact B_not (by omega)) ?_ | refine go_bind (by first | assumption) ?_ | dsimp only))
    rw [i1, e]
  · obtain ⟨a, ha, rfl⟩ := hs
    obtain ⟨i, i0, i1, e⟩ := mem_row ((hP _).2 ⟨a, ha, rfl⟩)
    have := f2 i.toNat (by omega)
    rw [Int.toNat_of_nonneg i0, e] at this
    exact this
theorem adm_zero {g : List (List Int)} {m : Int} {u l : List Int} (hm : Mdl g m u) (hn : Nums g m l) : adm m l (prm m u ((0 : Nat) : Int)) = l := by
  have hlu := hm.len; have hll := hn.1
  refine ext_rd (adm_len _ _ _) fun i i0 i1 => ?_
  rw [adm_len] at i1
  obtain ⟨n, rfl⟩ := Int.eq_ofNat_of_zero_le i0
  obtain ⟨a0, a1⟩ := hn.2 (n : Int) i0 i1
  rw [adm_rd (by omega), prm_rd (by omega)]
  simp only [Int.natCast_zero, Int.mul_zero, Int.sub_zero, Int.zero_emod, Int.add_zero]
  exact Int.emod_eq_of_lt a0 a1
theorem Class_ {g : List (List Int)} {m : Int} {u l : List Int} (hg : Grp g) (hm : Mdl g m u) (hn : Nums g m l) : ∃ r, spec_l05Class.f g m u l = some r ∧ BestC m u l r := by
  have n8 := hg.n8; have n1 := hg.n1; have m2 := hm.m2; have m12 := hm.m12; have hlu := hm.len; have hll := hn.1; have hla := hn.2
  have l2' : ∀ x : Int, ([x] : List Int).length = 1 := fun _ => rfl
  have inner : ∀ (j : Nat) (r1 : List Int), (j : Int) < m → r1.length = l.length → (Ll l.length (adm m l (prm m u (j : Int))) r1 → spec_l05Class.l1 l (j : Int) 0 g m u r1 (prm m u (j : Int)) [] = spec_l05Class.l0 l ((j + 1 : Nat) : Int) g m u (adm m l (prm m u (j : Int)))) ∧ (¬ Ll l.length (adm m l (prm m u (j : Int))) r1 → spec_l05Class.l1 l (j : Int) 0 g m u r1 (prm m u (j : Int)) [] = spec_l05Class.l0 l ((j + 1 : Nat) : Int) g m u r1) := fun j r1 hj hr1 => by
    have pa := prm_in (show 0 < m by omega) u (j : Int)
    have pl := prm_len m u (j : Int)
    have := up l.length (fun i => spec_l05Class.l1 l (j : Int) (i : Int) g m u r1 (prm m u (j : Int)) ((List.range i).map fun i : Nat => (rd l (i : Int) + rd (prm m u (j : Int)) (i : Int)) % m)) (fun i hi => by
      have l1 : ((List.range i).map fun i : Nat => (rd l (i : Int) + rd (prm m u (j : Int)) (i : Int)) % m).length = i := by simp
      have a := hla (i : Int) (by omega) (by omega)
      have b := pa (i : Int) (by omega) (by omega)
      have hmod := Mod_ (a := rd l (i : Int) + rd (prm m u (j : Int)) (i : Int)) (m := m) (by omega) (by omega) (by omega) (by omega)
      rw [adm_step, spec_l05Class.l1_eq, wn (j := i) (by omega), w64 (x := rd l (i : Int) + rd (prm m u (j : Int)) (i : Int)) (by omega) (by omega), hmod, Option.bind_some, l1, l2']
      clear a b
      ((with_reducible repeat (first | refine go_pos (by first | assumption | omega | rfl | exact B_pos (by omega)) ?_ | refine go_neg (by first | assumption | omega | decide | exact B_not (by omega)) ?_ | refine go_bind (by first | assumption) ?_ | dsimp only)); first | done | (with_reducible rfl) | simp (disch := omega) only [w64] | (show False; done)))
    simp only [Int.natCast_zero, List.range_zero, List.map_nil] at this
    have e : (List.range l.length).map (fun i : Nat => (rd l (i : Int) + rd (prm m u (j : Int)) (i : Int)) % m) = adm m l (prm m u (j : Int)) := rfl
    have hb := Before_ (x := adm m l (prm m u (j : Int))) (y := r1) (W := l.length) (adm_len _ _ _) hr1 (by omega)
    rw [this, spec_l05Class.l1_eq, wn (j := j) (by omega), if_neg (by omega), e, hb, Option.bind_some]
    exact ⟨fun h => if_pos (B_pos h), fun h => if_neg (by rw [B_neg h]; decide)⟩
  have outer : ∀ (n j : Nat) (r1 : List Int), ((j + n : Nat) : Int) = m → Cand m u l r1 → (∀ i : Nat, i < j → ¬ Ll l.length (adm m l (prm m u (i : Int))) r1) → ∃ r, spec_l05Class.l0 l (j : Int) g m u r1 = some r ∧ Cand m u l r ∧ ∀ i : Nat, (i : Int) < m → ¬ Ll l.length (adm m l (prm m u (i : Int))) r := by
    intro n
    induction n with
    | zero =>
      intro j r1 hj hc hb
      refine ⟨r1, ?_, hc, fun i hi => hb i (by omega)⟩
      rw [spec_l05Class.l0_eq]
      ((with_reducible repeat (first | refine go_pos (by first | assumption | omega | rfl | exact B_pos (by omega)) ?_ | refine go_neg (by first | assumption | omega | decide | exact B_not (by omega)) ?_ | refine go_bind (by first | assumption) ?_ | dsimp only)); first | done | (with_reducible rfl) | simp (disch := omega) only [w64] | (show False; done))
    | succ n ih =>
      intro j r1 hj hc hb
      have hr1 : r1.length = l.length := by obtain ⟨a, _, rfl⟩ := hc; rw [adm_len]
      obtain ⟨k1, k2⟩ := inner j r1 (by omega) hr1
      have hp := Principal_ hg hm (a := (j : Int)) (by omega) (by omega)
      by_cases h : Ll l.length (adm m l (prm m u (j : Int))) r1
      · obtain ⟨r, e, f⟩ := ih (j + 1) _ (by omega) ⟨j, by omega, rfl⟩ (fun i hi => by
          by_cases e : i = j
          · rw [e]; exact Ll.irrefl
          · exact fun q => hb i (by omega) (q.trans h))
        refine ⟨r, ?_, f⟩
        rw [spec_l05Class.l0_eq, if_pos (by omega), hp, Option.bind_some, k1 h, e]
      · obtain ⟨r, e, f⟩ := ih (j + 1) r1 (by omega) hc (fun i hi => by
          by_cases e : i = j
          · rw [e]; exact h
          · exact hb i (by omega))
        refine ⟨r, ?_, f⟩
        rw [spec_l05Class.l0_eq, if_pos (by omega), hp, Option.bind_some, k2 h, e]
  obtain ⟨M, hM⟩ : ∃ M : Nat, m = (M : Int) := Int.eq_ofNat_of_zero_le (by omega)
  obtain ⟨r, e, f1, f2⟩ := outer M 0 l (by omega) ⟨0, by omega, (adm_zero hm hn).symm⟩ (fun i hi => by omega)
  refine ⟨r, ?_, f1, fun s hs => ?_⟩
  · have ho : spec_l01Own.f l = some l := by
      rw [spec_l01Own.f_eq, if_pos (by simp only [List.length_nil]; omega), List.nil_append]
    rw [spec_l05Class.f_eq, ho, Option.bind_some]
    exact e
  · obtain ⟨a, ha, rfl⟩ := hs
    exact f2 a ha
end Go.Proofs.Ytpppnoliogdkiaa.V
set_option linter.unusedVariables false
set_option linter.unusedSimpArgs false
set_option maxHeartbeats 2000000
set_option maxRecDepth 20000
namespace Go.Proofs.Ytpppnoliogdkiaa.V
open Go.RowKit Go.Proofs.Ytpppnoliogdkiaa.D Go.Proofs.Ytpppnoliogdkiaa.P
theorem same_ClassOfCrossed (g : List (List Int)) (m : Int) (u l : List Int) (hl : g.length ≤ maxLen) (hr : ∀ r ∈ g, r.length ≤ maxLen) (hu : u.length ≤ maxLen) (hx : l.length ≤ maxLen) :
    ∃ (R : List Int) (e : Int), spec_ClassOfCrossed.f g m u l = some (R, e) ∧ impl_ClassOfCrossed.f g m u l = some (R, e) ∧ R.length ≤ 1048576 := by
  rw [spec_ClassOfCrossed.f_eq, impl_ClassOfCrossed.f_eq]
  rcases crossed_codes g hl hr m u hu l hx with ⟨hg, hm, hn, hc, cI, cS⟩ | ⟨c, c0, cI, cS⟩
  rotate_left
  · exact ⟨[], c, by ((with_reducible repeat (first | refine go_pos (by first | assumption | omega | rfl | exact B_pos (by omega)) ?_ | refine go_neg (by first | assumption | omega | decide | exact B_not (by omega)) ?_ | refine go_bind (by first | assumption) ?_ | dsimp only)); first | done | (with_reducible rfl) | simp (disch := omega) only [w64] | (show False; done)), by ((with_reducible repeat (first | refine go_pos (by first | assumption | omega | rfl | exact B_pos (by omega)) ?_ | refine go_neg (by first | assumption | omega | decide | exact B_not (by omega)) ?_ | refine go_bind (by first | assumption) ?_ | dsimp only)); first | done | (with_reducible rfl) | simp (disch := omega) only [w64] | (show False; done)), by simp⟩
  have n8 := hg.n8; have hnl := hn.1
  obtain ⟨Ps, p1, p2, p3, p4⟩ := principalMaps_ hg hm
  obtain ⟨r, r1, r2⟩ := classOf_ hg hm hn p2 p3 p4
  obtain ⟨s, s1, s2⟩ := Class_ hg hm hn
  obtain rfl := r2.uniq s2
  refine ⟨r, 0, by ((with_reducible repeat (first | refine go_pos (by first | assumption | omega | rfl | exact B_pos (by omega)) ?_ | refine go_neg (by first | assumption | omega | decide | exact B_not (by omega)) ?_ | refine go_bind (by first | assumption) ?_ | dsimp only)); first | done | (with_reducible rfl) | simp (disch := omega) only [w64] | (show False; done)), by ((with_reducible repeat (first | refine go_pos (by first | assumption | omega | rfl | exact B_pos (by omega)) ?_ | refine go_neg (by first | assumption | omega | decide | exact B_not (by omega)) ?_ | refine go_bind (by first | assumption) ?_ | dsimp only)); first | done | (with_reducible rfl) | simp (disch := omega) only [w64] | (show False; done)), ?_⟩
  obtain ⟨a, _, e⟩ := r2.1
  rw [e, adm_len]; omega
end Go.Proofs.Ytpppnoliogdkiaa.V
set_option linter.unusedVariables false
set_option linter.unusedSimpArgs false
set_option maxHeartbeats 4000000
set_option maxRecDepth 20000
namespace Go.Proofs.Ytpppnoliogdkiaa.Pure
open Go.RowKit Go.Proofs.Ytpppnoliogdkiaa.D Go.Proofs.Ytpppnoliogdkiaa.P Go.Proofs.Ytpppnoliogdkiaa.V
theorem FnExactClassOfCrossed_pure : ∀ (g0 : List (List Int)) (m1 : Int) (u1 : List Int) (u2 : List Int), g0.length ≤ maxLen → (∀ r ∈ g0, r.length ≤ maxLen ∧ ∀ x ∈ r, (Lit.int .i64 x).wf = true) → (Lit.int .i64 m1).wf = true → u1.length ≤ maxLen → (∀ x ∈ u1, (Lit.int .i64 x).wf = true) → u2.length ≤ maxLen → (∀ x ∈ u2, (Lit.int .i64 x).wf = true) → laws_FnExactClassOfCrossed.f g0 m1 u1 u2 = some true := by
  intro g0 m1 u1 u2 hl0 hq0 hw1 hu1 hx1 hu2 hx2
  have hr0 : ∀ r ∈ g0, r.length ≤ maxLen := fun r h => (hq0 r h).1
  rw [laws_FnExactClassOfCrossed.f_eq]
  by_cases ku2 : u2.length ≤ 1048576
  rotate_left
  · ((with_reducible repeat (first | refine go_pos (by first | assumption | omega | rfl | exact B_pos (by omega)) ?_ | refine go_neg (by first | assumption | omega | decide | exact B_not (by omega)) ?_ | refine go_bind (by first | assumption) ?_ | dsimp only)); first | done | (with_reducible rfl) | simp (disch := omega) only [w64] | (show False; done))
  obtain ⟨t0, e0, z0⟩ := szGroup g0 1048576 hl0 hr0 (by omega) (by omega)
  rcases z0 with z0 | ⟨ta0, tb0, kl0, kr0⟩
  · ((with_reducible repeat (first | refine go_pos (by first | assumption | omega | rfl | exact B_pos (by omega)) ?_ | refine go_neg (by first | assumption | omega | decide | exact B_not (by omega)) ?_ | refine go_bind (by first | assumption) ?_ | dsimp only)); first | done | (with_reducible rfl) | simp (disch := omega) only [w64] | (show False; done))
  obtain ⟨t1, e1, z1⟩ := szModule m1 u1 t0 hu1 (by omega) (by omega)
  rcases z1 with z1 | ⟨ta1, tb1, ku1⟩
  · ((with_reducible repeat (first | refine go_pos (by first | assumption | omega | rfl | exact B_pos (by omega)) ?_ | refine go_neg (by first | assumption | omega | decide | exact B_not (by omega)) ?_ | refine go_bind (by first | assumption) ?_ | dsimp only)); first | done | (with_reducible rfl) | simp (disch := omega) only [w64] | (show False; done))
  obtain ⟨R0, c1, hS, hI, rb0⟩ := same_ClassOfCrossed g0 m1 u1 u2 hl0 hr0 hu1 hu2
  have eT0 := toGroup g0 kl0 kr0
  have eS0 := same_Group g0 hl0 hr0
  have eN0 := tot_small kl0 kr0
  have eK0 := markGroup g0 (1) (by omega) (by omega) (by omega)
  have eT1 := toModule m1 u1 ku1
  have eS1 := same_Module m1 u1 hu1
  have eK1 := markModule m1 u1 (1 + tot g0) (by omega) (by omega)
  have eT2 := toInt64S u2 ku2
  have eS2 := same_Ints u2 hu2
  have eK2 := markS u2 (1 + tot g0 + u1.length) (by omega) (by omega)
  have rS0 := same_Ints R0 (le_maxLen (by omega))
  have rK0 := markS R0 (1) (by omega) (by omega)
  have rH0 := heldS (1) R0.length (by omega) (by omega)
  ((with_reducible repeat (first | refine go_pos (by first | assumption | omega | rfl | exact B_pos (by omega)) ?_ | refine go_neg (by first | assumption | omega | decide | exact B_not (by omega)) ?_ | refine go_bind (by first | assumption) ?_ | dsimp only)); first | done | (with_reducible rfl) | simp (disch := omega) only [w64] | (show False; done))
end Go.Proofs.Ytpppnoliogdkiaa.Pure
namespace Go.Proofs.Ytpppnoliogdkiaa.shut
theorem mayEnter : Try.pinned.checked.prog.mayEnter = true := by kernel_rfl
theorem lifted : (Rows.fnExactBoundingStepsRow.lifted == Try.pinned.checked.prog.liftsFinal) = true := by kernel_rfl
theorem make : (Try.pinned.checked.prog.make == some Rows.fnExactBoundingStepsRow.make) = true := by kernel_rfl
end Go.Proofs.Ytpppnoliogdkiaa.shut
