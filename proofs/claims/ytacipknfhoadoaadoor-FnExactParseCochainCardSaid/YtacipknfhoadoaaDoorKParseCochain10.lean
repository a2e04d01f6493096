/- What the proof of the law ParseCochain stands on, part 10: words, each Go function's Lean function, and that the Go code comes to its answers; no condition. (Packed by wip/myprint/pack.py out of what the kit's printer wrote, its words among it, partly by our patches of it, and out of texts of this session.) -/
import Derived.Test.YtacipknfhoadoaaDoorRows
import Derived.WalkKit
import Derived.ProofKit
import Derived.KernelRfl
import Derived.Test.YtacipknfhoadoaaDoorKParseCochain3
import Derived.Test.YtacipknfhoadoaaDoorKParseCochain4
import Derived.Test.YtacipknfhoadoaaDoorKParseCochain6
import Derived.Test.YtacipknfhoadoaaDoorKParseCochain8
import Derived.Test.YtacipknfhoadoaaDoorKParseCochain9
set_option linter.unusedVariables false
namespace Go.Proofs.YtacipknfhoadoaaDoor.P
open Go Go.RowKit Go.Proofs.YtacipknfhoadoaaDoor.D
end Go.Proofs.YtacipknfhoadoaaDoor.P
set_option linter.unusedVariables false
namespace Go.Proofs.YtacipknfhoadoaaDoor.P
open Go Go.RowKit Go.Proofs.YtacipknfhoadoaaDoor.D
end Go.Proofs.YtacipknfhoadoaaDoor.P
set_option linter.unusedVariables false
namespace Go.Proofs.YtacipknfhoadoaaDoor.P
open Go Go.RowKit Go.Proofs.YtacipknfhoadoaaDoor.D
end Go.Proofs.YtacipknfhoadoaaDoor.P
set_option linter.unusedVariables false
namespace Go.Proofs.YtacipknfhoadoaaDoor.P
open Go Go.RowKit Go.Proofs.YtacipknfhoadoaaDoor.D
end Go.Proofs.YtacipknfhoadoaaDoor.P
set_option linter.unusedVariables false
set_option linter.unusedSimpArgs false
set_option maxHeartbeats 2000000
set_option maxRecDepth 20000
namespace Go.Proofs.YtacipknfhoadoaaDoor.V
open Go.RowKit Go.Proofs.YtacipknfhoadoaaDoor.D Go.Proofs.YtacipknfhoadoaaDoor.P
theorem areIn (n : Int) (xs : List Int) (hl : xs.length ≤ maxLen) : impl_areIn.f n xs = some (B (AllIn n xs)) := by
  have hm := maxLen_le
  rw [impl_areIn.f_eq]
  refine scanT xs.length (fun i => impl_areIn.l0 n xs (xs.length : Int) i) (fun i => 0 ≤ rd xs i ∧ rd xs i < n) (fun i h0 h1 _ => ?_) (fun _ => ?_)
  · refine ⟨fun h => ?_, fun h => ?_⟩ <;> (rw [impl_areIn.l0_eq])
    · ((with_reducible repeat (first | refine go_pos (by first | assumption | omega | rfl | exact B_pos (by omega)) ?_ | refine go_neg (by first | assumption | omega | decide | exact B_not (by omega)) ?_ | refine go_bind (by first | assumption) ?_ | dsimp only)); first | done | (with_reducible rfl) | simp (disch := omega) only [w64] | (show False; done))
    · by_cases h2 : rd xs i < 0 <;> ((with_reducible repeat (first | refine go_pos (by first | assumption | omega | rfl | exact B_pos (by omega)) ?_ | refine go_neg (by first | assumption | omega | decide | exact B_not (by omega)) ?_ | refine go_bind (by first | assumption) ?_ | dsimp only)); first | done | (with_reducible rfl) | simp (disch := omega) only [w64] | (show False; done))
  · (rw [impl_areIn.l0_eq])
    ((with_reducible repeat (first | refine go_pos (by first | assumption | omega | rfl | exact B_pos (by omega)) ?_ | refine go_neg (by first | assumption | omega | decide | exact B_not (by omega)) ?_ | refine go_bind (by first | assumption) ?_ | dsimp only)); first | done | (with_reducible rfl) | simp (disch := omega) only [w64] | (show False; done))
theorem index_ (xs : List Int) (x : Int) (hl : xs.length ≤ maxLen) :
    ((∀ i : Int, 0 ≤ i → i < xs.length → rd xs i ≠ x) ∧ slices_Index_int64.f xs x = some (-1)) ∨
    ∃ i : Int, 0 ≤ i ∧ i < xs.length ∧ (∀ j : Int, 0 ≤ j → j < i → rd xs j ≠ x) ∧ rd xs i = x ∧ slices_Index_int64.f xs x = some i := by
  have hm := maxLen_le
  rw [slices_Index_int64.f_eq]
  suffices H : ∀ d m : Nat, m + d = xs.length → (∀ j : Int, 0 ≤ j → j < m → rd xs j ≠ x) →
      ((∀ i : Int, 0 ≤ i → i < xs.length → rd xs i ≠ x) ∧ slices_Index_int64.l0 xs x (xs.length : Int) m = some (-1)) ∨
      ∃ i : Int, 0 ≤ i ∧ i < xs.length ∧ (∀ j : Int, 0 ≤ j → j < i → rd xs j ≠ x) ∧ rd xs i = x ∧ slices_Index_int64.l0 xs x (xs.length : Int) m = some i from
    H xs.length 0 (by omega) (fun j h0 h1 => by omega)
  intro d
  induction d with
  | zero =>
    intro m hd hp
    obtain rfl : m = xs.length := by omega
    refine .inl ⟨hp, ?_⟩
    (rw [slices_Index_int64.l0_eq])
    ((with_reducible repeat (first | refine go_pos (by first | assumption | omega | rfl | exact B_pos (by omega)) ?_ | refine go_neg (by first | assumption | omega | decide | exact B_not (by omega)) ?_ | refine go_bind (by first | assumption) ?_ | dsimp only)); first | done | (with_reducible rfl) | simp (disch := omega) only [w64] | (show False; done))
  | succ d ih =>
    intro m hd hp
    by_cases h2 : x = rd xs m
    · refine .inr ⟨m, by omega, by omega, hp, h2.symm, ?_⟩
      (rw [slices_Index_int64.l0_eq])
      ((with_reducible repeat (first | refine go_pos (by first | assumption | omega | rfl | exact B_pos (by omega)) ?_ | refine go_neg (by first | assumption | omega | decide | exact B_not (by omega)) ?_ | refine go_bind (by first | assumption) ?_ | dsimp only)); first | done | (with_reducible rfl) | simp (disch := omega) only [w64] | (show False; done))
    · have st : slices_Index_int64.l0 xs x (xs.length : Int) m = slices_Index_int64.l0 xs x (xs.length : Int) ((m + 1 : Nat) : Int) := by
        rw [Int.natCast_add, Int.natCast_one]
        (rw [slices_Index_int64.l0_eq])
        ((with_reducible repeat (first | refine go_pos (by first | assumption | omega | rfl | exact B_pos (by omega)) ?_ | refine go_neg (by first | assumption | omega | decide | exact B_not (by omega)) ?_ | refine go_bind (by first | assumption) ?_ | dsimp only)); first | done | (with_reducible rfl) | simp (disch := omega) only [w64] | (show False; done))
      rw [st]
      refine ih (m + 1) (by omega) fun j k0 k1 => ?_
      by_cases e : j = m
      · rw [e]; exact fun h => h2 h.symm
      · exact hp j k0 (by omega)
theorem contains_ (xs : List Int) (x : Int) (hl : xs.length ≤ maxLen) : slices_Contains_int64.f xs x = some (B (∃ i : Int, 0 ≤ i ∧ i < xs.length ∧ rd xs i = x)) := by
  rw [slices_Contains_int64.f_eq]
  rcases index_ xs x hl with ⟨h, e⟩ | ⟨i, h0, h1, _, h2, e⟩
  · rw [e, B_neg fun ⟨i, h0, h1, h2⟩ => h i h0 h1 h2]; rfl
  · rw [e, B_pos ⟨i, h0, h1, h2⟩]; simp [h0]
structure Grp (g : List (List Int)) : Prop where
  n1 : 1 ≤ g.length
  n8 : g.length ≤ 8
  row : ∀ a : Int, 0 ≤ a → a < g.length → (row g a).length = g.length
  ent : ∀ a b : Int, 0 ≤ a → a < g.length → 0 ≤ b → b < g.length → 0 ≤ T g a b ∧ T g a b < g.length
  one : ∀ a : Int, 0 ≤ a → a < g.length → T g 0 a = a
  one' : ∀ a : Int, 0 ≤ a → a < g.length → T g a 0 = a
  assoc : ∀ a b c : Int, 0 ≤ a → a < g.length → 0 ≤ b → b < g.length → 0 ≤ c → c < g.length → T g (T g a b) c = T g a (T g b c)
  inv : ∀ a : Int, 0 ≤ a → a < g.length → ∃ b : Int, 0 ≤ b ∧ b < g.length ∧ T g a b = 0
theorem Grp.inv2 {g : List (List Int)} (h : Grp g) {a : Int} (h0 : 0 ≤ a) (h1 : a < g.length) : ∃ b : Int, 0 ≤ b ∧ b < g.length ∧ T g a b = 0 ∧ T g b a = 0 := by
  obtain ⟨b, b0, b1, hb⟩ := h.inv a h0 h1
  obtain ⟨c, c0, c1, hc⟩ := h.inv b b0 b1
  refine ⟨b, b0, b1, hb, ?_⟩
  have hac : c = a := by
    have e1 := h.assoc a b c h0 h1 b0 b1 c0 c1
    rw [hb, hc, h.one c c0 c1, h.one' a h0 h1] at e1
    exact e1
  rw [← hac]; exact hc
theorem rows_len {g : List (List Int)} (hr : ∀ r ∈ g, r.length ≤ maxLen) {a : Int} (h0 : 0 ≤ a) (h1 : a < g.length) : (row g a).length ≤ maxLen := hr _ (row_mem h0 h1)
def Tab (g : List (List Int)) : Prop := ∀ a : Int, 0 ≤ a → a < g.length → (row g a).length = g.length ∧ AllIn g.length (row g a)
def Law (g : List (List Int)) (a : Int) : Prop := T g 0 a = a ∧ T g a 0 = a ∧ (∃ b : Int, 0 ≤ b ∧ b < g.length ∧ T g a b = 0) ∧ ∀ b : Int, 0 ≤ b → b < g.length → ∀ c : Int, 0 ≤ c → c < g.length → T g (T g a b) c = T g a (T g b c)
theorem grp_iff (g : List (List Int)) : Grp g ↔ (1 ≤ g.length ∧ g.length ≤ 8) ∧ Tab g ∧ ∀ a : Int, 0 ≤ a → a < g.length → Law g a := by
  constructor
  · intro h
    refine ⟨⟨h.n1, h.n8⟩, fun a h0 h1 => ⟨h.row a h0 h1, fun i i0 i1 => ?_⟩, fun a h0 h1 => ⟨h.one a h0 h1, h.one' a h0 h1, h.inv a h0 h1, fun b b0 b1 c c0 c1 => h.assoc a b c h0 h1 b0 b1 c0 c1⟩⟩
    have := h.row a h0 h1
    exact h.ent a i h0 h1 i0 (by omega)
  · rintro ⟨⟨h1, h8⟩, ht, hl⟩
    refine ⟨h1, h8, fun a a0 a1 => (ht a a0 a1).1, fun a b a0 a1 b0 b1 => ?_, fun a a0 a1 => (hl a a0 a1).1, fun a a0 a1 => (hl a a0 a1).2.1, fun a b c a0 a1 b0 b1 c0 c1 => (hl a a0 a1).2.2.2 b b0 b1 c c0 c1, fun a a0 a1 => (hl a a0 a1).2.2.1⟩
    have := (ht a a0 a1).1
    exact (ht a a0 a1).2 b b0 (by omega)
theorem isGroup (g : List (List Int)) (hl : g.length ≤ maxLen) (hr : ∀ r ∈ g, r.length ≤ maxLen) : impl_IsGroup.f g = some (B (Grp g)) := by
  have hm := maxLen_le
  rw [B_congr (grp_iff g)]
  (rw [impl_IsGroup.f_eq])
  by_cases c1 : (g.length : Int) < 1 ∨ (g.length : Int) > 8
  · rw [B_neg fun h => by omega]
    by_cases c2 : (g.length : Int) < 1 <;> ((with_reducible repeat (first | refine go_pos (by first | assumption | omega | rfl | exact B_pos (by omega)) ?_ | refine go_neg (by first | assumption | omega | decide | exact B_not (by omega)) ?_ | refine go_bind (by first | assumption | exact impl_order.f_eq _) ?_ | dsimp only)); first | done | (with_reducible rfl) | simp (disch := omega) only [w64] | (show False; done))
  rw [B_congr (show ((1 ≤ g.length ∧ g.length ≤ 8) ∧ Tab g ∧ ∀ a : Int, 0 ≤ a → a < g.length → Law g a) ↔ (Tab g ∧ ∀ a : Int, 0 ≤ a → a < g.length → Law g a) from ⟨fun h => h.2, fun h => ⟨by omega, h⟩⟩)]
  (with_reducible repeat (first | refine go_pos (by first | assumption | omega | rfl | exact B_pos (by omega)) ?_ | refine go_neg (by first | assumption | omega | decide | exact B_not (by omega)) ?_ | refine go_bind (by first | assumption | exact impl_order.f_eq _) ?_ | dsimp only))
  refine scanB g.length (fun i => impl_IsGroup.l0 (g.length : Int) g (g.length : Int) i g) (fun a => (row g a).length = g.length ∧ AllIn g.length (row g a)) _ (fun i h0 h1 _ => ?_) (fun ht => ?_)
  · have ha := areIn g.length (row g i) (rows_len hr h0 h1)
    refine ⟨fun h => ?_, fun h => ?_⟩ <;> (rw [impl_IsGroup.l0_eq])
    · have h1 := h.1
      rw [B_pos h.2] at ha
      ((with_reducible repeat (first | refine go_pos (by first | assumption | omega | rfl | exact B_pos (by omega)) ?_ | refine go_neg (by first | assumption | omega | decide | exact B_not (by omega)) ?_ | refine go_bind (by first | assumption) ?_ | dsimp only)); first | done | (with_reducible rfl) | simp (disch := omega) only [w64] | (show False; done))
    · by_cases h2 : ((row g i).length : Int) = g.length
      · rw [B_neg fun h3 => h ⟨by omega, h3⟩] at ha
        ((with_reducible repeat (first | refine go_pos (by first | assumption | omega | rfl | exact B_pos (by omega)) ?_ | refine go_neg (by first | assumption | omega | decide | exact B_not (by omega)) ?_ | refine go_bind (by first | assumption) ?_ | dsimp only)); first | done | (with_reducible rfl) | simp (disch := omega) only [w64] | (show False; done))
      · ((with_reducible repeat (first | refine go_pos (by first | assumption | omega | rfl | exact B_pos (by omega)) ?_ | refine go_neg (by first | assumption | omega | decide | exact B_not (by omega)) ?_ | refine go_bind (by first | assumption) ?_ | dsimp only)); first | done | (with_reducible rfl) | simp (disch := omega) only [w64] | (show False; done))
  (rw [impl_IsGroup.l0_eq])
  (with_reducible repeat (first | refine go_pos (by first | assumption | omega | rfl | exact B_pos (by omega)) ?_ | refine go_neg (by first | assumption | omega | decide | exact B_not (by omega)) ?_ | refine go_bind (by first | assumption) ?_ | dsimp only))
  refine scanT g.length (fun i => impl_IsGroup.l1 (g.length : Int) (g.length : Int) i g) (Law g) (fun a a0 a1 _ => ?_) (fun _ => ?_)
  rotate_left
  · (rw [impl_IsGroup.l1_eq])
    ((with_reducible repeat (first | refine go_pos (by first | assumption | omega | rfl | exact B_pos (by omega)) ?_ | refine go_neg (by first | assumption | omega | decide | exact B_not (by omega)) ?_ | refine go_bind (by first | assumption) ?_ | dsimp only)); first | done | (with_reducible rfl) | simp (disch := omega) only [w64] | (show False; done))
  have hlen : ∀ x : Int, 0 ≤ x → x < g.length → ((row g x).length : Int) = g.length := fun x x0 x1 => by rw [(ht x x0 x1).1]
  have hent : ∀ x y : Int, 0 ≤ x → x < g.length → 0 ≤ y → y < g.length → 0 ≤ T g x y ∧ T g x y < g.length := fun x y x0 x1 y0 y1 => (ht x x0 x1).2 y y0 (by rw [hlen x x0 x1]; exact y1)
  have l0 := hlen 0 (by omega) (by omega)
  have la := hlen a a0 a1
  have hc := contains_ (row g a) 0 (rows_len hr a0 a1)
  rw [B_congr (show (∃ i : Int, 0 ≤ i ∧ i < (row g a).length ∧ rd (row g a) i = 0) ↔ ∃ b : Int, 0 ≤ b ∧ b < g.length ∧ T g a b = 0 by rw [la]; exact Iff.rfl)] at hc
  by_cases h2 : T g 0 a = a
  rotate_left
  · refine ⟨fun h => absurd h.1 h2, fun _ => ?_⟩
    (rw [impl_IsGroup.l1_eq])
    ((with_reducible repeat (first | refine go_pos (by first | assumption | omega | rfl | exact B_pos (by omega)) ?_ | refine go_neg (by first | assumption | omega | decide | exact B_not (by omega)) ?_ | refine go_bind (by first | assumption) ?_ | dsimp only)); first | done | (with_reducible rfl) | simp (disch := omega) only [w64] | (show False; done))
  by_cases h3 : T g a 0 = a
  rotate_left
  · refine ⟨fun h => absurd h.2.1 h3, fun _ => ?_⟩
    (rw [impl_IsGroup.l1_eq])
    ((with_reducible repeat (first | refine go_pos (by first | assumption | omega | rfl | exact B_pos (by omega)) ?_ | refine go_neg (by first | assumption | omega | decide | exact B_not (by omega)) ?_ | refine go_bind (by first | assumption) ?_ | dsimp only)); first | done | (with_reducible rfl) | simp (disch := omega) only [w64] | (show False; done))
  by_cases h4 : ∃ b : Int, 0 ≤ b ∧ b < g.length ∧ T g a b = 0
  rotate_left
  · refine ⟨fun h => absurd h.2.2.1 h4, fun _ => ?_⟩
    rw [B_neg h4] at hc
    (rw [impl_IsGroup.l1_eq])
    ((with_reducible repeat (first | refine go_pos (by first | assumption | omega | rfl | exact B_pos (by omega)) ?_ | refine go_neg (by first | assumption | omega | decide | exact B_not (by omega)) ?_ | refine go_bind (by first | assumption) ?_ | dsimp only)); first | done | (with_reducible rfl) | simp (disch := omega) only [w64] | (show False; done))
  rw [B_pos h4] at hc
  have inner := scanI g.length (fun b => impl_IsGroup.l2 (g.length : Int) a (g.length : Int) a (g.length : Int) b g) (fun b => ∀ c : Int, 0 ≤ c → c < g.length → T g (T g a b) c = T g a (T g b c)) (some false) (impl_IsGroup.l1 (g.length : Int) (g.length : Int) (a + 1) g)
    (fun b b0 b1 _ => by
      obtain ⟨e0, e1⟩ := hent a b a0 a1 b0 b1
      have le := hlen _ e0 e1
      have lb := hlen b b0 b1
      have := scanI g.length (fun c => impl_IsGroup.l3 (g.length : Int) a b (g.length : Int) a (g.length : Int) b (g.length : Int) c g) (fun c => T g (T g a b) c = T g a (T g b c)) (some false) (impl_IsGroup.l2 (g.length : Int) a (g.length : Int) a (g.length : Int) (b + 1) g)
        (fun c c0 c1 _ => by
          obtain ⟨f0, f1⟩ := hent b c b0 b1 c0 c1
          refine ⟨fun h => ?_, fun h => ?_⟩ <;> (rw [impl_IsGroup.l3_eq]) <;> ((with_reducible repeat (first | refine go_pos (by first | assumption | omega | rfl | exact B_pos (by omega)) ?_ | refine go_neg (by first | assumption | omega | decide | exact B_not (by omega)) ?_ | refine go_bind (by first | assumption) ?_ | dsimp only)); first | done | (with_reducible rfl) | simp (disch := omega) only [w64] | (show False; done))) (fun _ => by (rw [impl_IsGroup.l3_eq]); ((with_reducible repeat (first | refine go_pos (by first | assumption | omega | rfl | exact B_pos (by omega)) ?_ | refine go_neg (by first | assumption | omega | decide | exact B_not (by omega)) ?_ | refine go_bind (by first | assumption) ?_ | dsimp only)); first | done | (with_reducible rfl) | simp (disch := omega) only [w64] | (show False; done)))
      refine ⟨fun h => ?_, fun h => ?_⟩ <;> (rw [impl_IsGroup.l2_eq])
      · (with_reducible repeat (first | refine go_pos (by first | assumption | omega | rfl | exact B_pos (by omega)) ?_ | refine go_neg (by first | assumption | omega | decide | exact B_not (by omega)) ?_ | refine go_bind (by first | assumption) ?_ | dsimp only))
        exact this.1 h
      · (with_reducible repeat (first | refine go_pos (by first | assumption | omega | rfl | exact B_pos (by omega)) ?_ | refine go_neg (by first | assumption | omega | decide | exact B_not (by omega)) ?_ | refine go_bind (by first | assumption) ?_ | dsimp only))
        exact this.2 h) (fun _ => by (rw [impl_IsGroup.l2_eq]); ((with_reducible repeat (first | refine go_pos (by first | assumption | omega | rfl | exact B_pos (by omega)) ?_ | refine go_neg (by first | assumption | omega | decide | exact B_not (by omega)) ?_ | refine go_bind (by first | assumption) ?_ | dsimp only)); first | done | (with_reducible rfl) | simp (disch := omega) only [w64] | (show False; done)))
  refine ⟨fun h => ?_, fun h => ?_⟩ <;> (rw [impl_IsGroup.l1_eq]) <;> (with_reducible repeat (first | refine go_pos (by first | assumption | omega | rfl | exact B_pos (by omega)) ?_ | refine go_neg (by first | assumption | omega | decide | exact B_not (by omega)) ?_ | refine go_bind (by first | assumption) ?_ | dsimp only))
  · exact inner.1 h.2.2.2
  · exact inner.2 fun k => h ⟨h2, h3, h4, k⟩
end Go.Proofs.YtacipknfhoadoaaDoor.V
set_option linter.unusedVariables false
set_option linter.unusedSimpArgs false
set_option maxHeartbeats 2000000
set_option maxRecDepth 20000
namespace Go.Proofs.YtacipknfhoadoaaDoor.V
open Go.RowKit Go.Proofs.YtacipknfhoadoaaDoor.D Go.Proofs.YtacipknfhoadoaaDoor.P
theorem In_ (x lo hi : Int) : spec_l01In.f x lo hi = some (B (lo ≤ x ∧ x ≤ hi)) := by
  rw [spec_l01In.f_eq]
  by_cases h : x ≥ lo
  · rw [if_pos h, B_decide, B_congr (show x ≤ hi ↔ (lo ≤ x ∧ x ≤ hi) from ⟨fun h' => ⟨h, h'⟩, fun h' => h'.2⟩)]
  · rw [if_neg h, B_neg (fun h' => h h'.1)]
def LawS (g : List (List Int)) (a : Int) : Prop := T g 0 a = a ∧ T g a 0 = a ∧ (∀ b : Int, 0 ≤ b → b < g.length → ∀ c : Int, 0 ≤ c → c < g.length → T g (T g a b) c = T g a (T g b c)) ∧ ∃ b : Int, 0 ≤ b ∧ b < g.length ∧ T g a b = 0 ∧ T g b a = 0
theorem grp_iffS (g : List (List Int)) : Grp g ↔ (1 ≤ g.length ∧ g.length ≤ 8) ∧ Tab g ∧ ∀ a : Int, 0 ≤ a → a < g.length → LawS g a := by
  rw [grp_iff]
  constructor
  · intro h
    have hg := (grp_iff g).2 h
    refine ⟨h.1, h.2.1, fun a a0 a1 => ?_⟩
    obtain ⟨h1, h2, _, h4⟩ := h.2.2 a a0 a1
    exact ⟨h1, h2, h4, hg.inv2 a0 a1⟩
  · rintro ⟨h1, h2, h3⟩
    refine ⟨h1, h2, fun a a0 a1 => ?_⟩
    obtain ⟨k1, k2, k3, b, b0, b1, hb, _⟩ := h3 a a0 a1
    exact ⟨k1, k2, ⟨b, b0, b1, hb⟩, k3⟩
theorem Is_ (g : List (List Int)) : spec_l01Is.f g = some (B (Grp g)) := by
  rw [B_congr (grp_iffS g)]
  (rw [spec_l01Is.f_eq])
  by_cases c1 : 1 ≤ (g.length : Int) ∧ (g.length : Int) ≤ 8
  rotate_left
  · rw [B_neg fun h => c1 (by omega)]
    ((with_reducible repeat (first | refine go_pos (by first | assumption | omega | rfl | exact B_pos (by omega)) ?_ | refine go_neg (by first | assumption | omega | decide | exact B_not (by omega)) ?_ | refine go_bind (by first | assumption | exact In_ _ _ _) ?_ | dsimp only)); first | done | (with_reducible rfl) | simp (disch := omega) only [w64] | (show False; done))
  rw [B_congr (show ((1 ≤ g.length ∧ g.length ≤ 8) ∧ Tab g ∧ ∀ a : Int, 0 ≤ a → a < g.length → LawS g a) ↔ (Tab g ∧ ∀ a : Int, 0 ≤ a → a < g.length → LawS g a) from ⟨fun h => h.2, fun h => ⟨by omega, h⟩⟩)]
  (with_reducible repeat (first | refine go_pos (by first | assumption | omega | rfl | exact B_pos (by omega)) ?_ | refine go_neg (by first | assumption | omega | decide | exact B_not (by omega)) ?_ | refine go_bind (by first | assumption | exact In_ _ _ _) ?_ | dsimp only))
  have hw1 : wrapI ((g.length : Int) - 1) = g.length - 1 := w64 (by omega) (by omega)
  refine scanB g.length (fun i => spec_l01Is.l0 (g.length : Int) i g) (fun a => (row g a).length = g.length ∧ AllIn g.length (row g a)) (∀ a : Int, 0 ≤ a → a < g.length → LawS g a) (fun a a0 a1 _ => ?_) (fun ht => ?_)
  · by_cases h2 : ((row g a).length : Int) = g.length
    rotate_left
    · refine ⟨fun h => absurd h.1 (by omega), fun _ => ?_⟩
      (rw [spec_l01Is.l0_eq])
      ((with_reducible repeat (first | refine go_pos (by first | assumption | omega | rfl | exact B_pos (by omega)) ?_ | refine go_neg (by first | assumption | omega | decide | exact B_not (by omega)) ?_ | refine go_bind (by first | assumption) ?_ | dsimp only)); first | done | (with_reducible rfl) | simp (disch := omega) only [w64] | (show False; done))
    have inner := scanI g.length (fun b => spec_l01Is.l1 (g.length : Int) a b g) (fun b => 0 ≤ T g a b ∧ T g a b < g.length) (some false) (spec_l01Is.l0 (g.length : Int) (a + 1) g)
      (fun b b0 b1 _ => by refine ⟨fun h => ?_, fun h => ?_⟩ <;> (rw [spec_l01Is.l1_eq, hw1]) <;> ((with_reducible repeat (first | refine go_pos (by first | assumption | omega | rfl | exact B_pos (by omega)) ?_ | refine go_neg (by first | assumption | omega | decide | exact B_not (by omega)) ?_ | refine go_bind (by first | assumption | exact In_ _ _ _) ?_ | dsimp only)); first | done | (with_reducible rfl) | simp (disch := omega) only [w64] | (show False; done))) (fun _ => by (rw [spec_l01Is.l1_eq]); ((with_reducible repeat (first | refine go_pos (by first | assumption | omega | rfl | exact B_pos (by omega)) ?_ | refine go_neg (by first | assumption | omega | decide | exact B_not (by omega)) ?_ | refine go_bind (by first | assumption) ?_ | dsimp only)); first | done | (with_reducible rfl) | simp (disch := omega) only [w64] | (show False; done)))
    refine ⟨fun h => ?_, fun h => ?_⟩ <;> (rw [spec_l01Is.l0_eq]) <;> (with_reducible repeat (first | refine go_pos (by first | assumption | omega | rfl | exact B_pos (by omega)) ?_ | refine go_neg (by first | assumption | omega | decide | exact B_not (by omega)) ?_ | refine go_bind (by first | assumption) ?_ | dsimp only))
    · exact inner.1 fun j j0 j1 => h.2 j j0 (by omega)
    · exact inner.2 fun k => h ⟨by omega, fun j j0 j1 => k j j0 (by omega)⟩
  (rw [spec_l01Is.l0_eq])
  (with_reducible repeat (first | refine go_pos (by first | assumption | omega | rfl | exact B_pos (by omega)) ?_ | refine go_neg (by first | assumption | omega | decide | exact B_not (by omega)) ?_ | refine go_bind (by first | assumption) ?_ | dsimp only))
  refine scanT g.length (fun i => spec_l01Is.l2 (g.length : Int) i g) (LawS g) (fun a a0 a1 _ => ?_) (fun _ => by (rw [spec_l01Is.l2_eq]); ((with_reducible repeat (first | refine go_pos (by first | assumption | omega | rfl | exact B_pos (by omega)) ?_ | refine go_neg (by first | assumption | omega | decide | exact B_not (by omega)) ?_ | refine go_bind (by first | assumption) ?_ | dsimp only)); first | done | (with_reducible rfl) | simp (disch := omega) only [w64] | (show False; done)))
  have hlen : ∀ x : Int, 0 ≤ x → x < g.length → ((row g x).length : Int) = g.length := fun x x0 x1 => by rw [(ht x x0 x1).1]
  have hent : ∀ x y : Int, 0 ≤ x → x < g.length → 0 ≤ y → y < g.length → 0 ≤ T g x y ∧ T g x y < g.length := fun x y x0 x1 y0 y1 => (ht x x0 x1).2 y y0 (by rw [hlen x x0 x1]; exact y1)
  have l0 := hlen 0 (by omega) (by omega)
  have la := hlen a a0 a1
  by_cases h2 : T g 0 a = a
  rotate_left
  · refine ⟨fun h => absurd h.1 h2, fun _ => ?_⟩
    (rw [spec_l01Is.l2_eq])
    ((with_reducible repeat (first | refine go_pos (by first | assumption | omega | rfl | exact B_pos (by omega)) ?_ | refine go_neg (by first | assumption | omega | decide | exact B_not (by omega)) ?_ | refine go_bind (by first | assumption) ?_ | dsimp only)); first | done | (with_reducible rfl) | simp (disch := omega) only [w64] | (show False; done))
  by_cases h3 : T g a 0 = a
  rotate_left
  · refine ⟨fun h => absurd h.2.1 h3, fun _ => ?_⟩
    (rw [spec_l01Is.l2_eq])
    ((with_reducible repeat (first | refine go_pos (by first | assumption | omega | rfl | exact B_pos (by omega)) ?_ | refine go_neg (by first | assumption | omega | decide | exact B_not (by omega)) ?_ | refine go_bind (by first | assumption) ?_ | dsimp only)); first | done | (with_reducible rfl) | simp (disch := omega) only [w64] | (show False; done))
  let Fd : Int → Prop := fun b => ∃ j : Int, 0 ≤ j ∧ j < b ∧ T g a j = 0 ∧ T g j a = 0
  have fd0 : B (Fd 0) = false := B_neg fun ⟨j, j0, j1, _⟩ => by omega
  have inner := scan g.length (fun b => spec_l01Is.l3 (g.length : Int) a (B (Fd b)) b g) (fun b => ∀ c : Int, 0 ≤ c → c < g.length → T g (T g a b) c = T g a (T g b c)) (some false) (fun b b0 b1 _ => by
    obtain ⟨e0, e1⟩ := hent a b a0 a1 b0 b1
    have le := hlen _ e0 e1
    have lb := hlen b b0 b1
    have toj : spec_l01Is.l3 (g.length : Int) a (B (Fd b)) b g = spec_l01Is.l4 (g.length : Int) a (B (Fd (b + 1))) b 0 g := by
      by_cases k1 : Fd b
      · rw [B_pos k1, B_pos (show Fd (b + 1) from by obtain ⟨j, j0, j1, h⟩ := k1; exact ⟨j, j0, by omega, h⟩)]
        (rw [spec_l01Is.l3_eq])
        ((with_reducible repeat (first | refine go_pos (by first | assumption | omega | rfl | exact B_pos (by omega)) ?_ | refine go_neg (by first | assumption | omega | decide | exact B_not (by omega)) ?_ | refine go_bind (by first | assumption) ?_ | dsimp only)); first | done | (with_reducible rfl) | simp (disch := omega) only [w64] | (show False; done))
      · rw [B_neg k1]
        by_cases k2 : T g a b = 0
        · have e : B (Fd (b + 1)) = decide (T g b a = 0) := by
            by_cases k3 : T g b a = 0
            · rw [B_pos ⟨b, b0, by omega, k2, k3⟩]; simp [k3]
            · rw [B_neg]
              · simp [k3]
              · rintro ⟨j, j0, j1, ja, jb⟩
                by_cases ej : j = b
                · subst ej; exact k3 jb
                · exact k1 ⟨j, j0, by omega, ja, jb⟩
          rw [e]
          (rw [spec_l01Is.l3_eq])
          ((with_reducible repeat (first | refine go_pos (by first | assumption | omega | rfl | exact B_pos (by omega)) ?_ | refine go_neg (by first | assumption | omega | decide | exact B_not (by omega)) ?_ | refine go_bind (by first | assumption) ?_ | dsimp only)); first | done | (with_reducible rfl) | simp (disch := omega) only [w64] | (show False; done))
        · rw [B_neg (show ¬ Fd (b + 1) from by
            rintro ⟨j, j0, j1, ja, jb⟩
            by_cases ej : j = b
            · subst ej; exact k2 ja
            · exact k1 ⟨j, j0, by omega, ja, jb⟩)]
          (rw [spec_l01Is.l3_eq])
          ((with_reducible repeat (first | refine go_pos (by first | assumption | omega | rfl | exact B_pos (by omega)) ?_ | refine go_neg (by first | assumption | omega | decide | exact B_not (by omega)) ?_ | refine go_bind (by first | assumption) ?_ | dsimp only)); first | done | (with_reducible rfl) | simp (disch := omega) only [w64] | (show False; done))
    have inner4 := scanI g.length (fun c => spec_l01Is.l4 (g.length : Int) a (B (Fd (b + 1))) b c g) (fun c => T g (T g a b) c = T g a (T g b c)) (some false) (spec_l01Is.l3 (g.length : Int) a (B (Fd (b + 1))) (b + 1) g) (fun c c0 c1 _ => by
      obtain ⟨f0, f1⟩ := hent b c b0 b1 c0 c1
      refine ⟨fun h => ?_, fun h => ?_⟩ <;> (rw [spec_l01Is.l4_eq]) <;> ((with_reducible repeat (first | refine go_pos (by first | assumption | omega | rfl | exact B_pos (by omega)) ?_ | refine go_neg (by first | assumption | omega | decide | exact B_not (by omega)) ?_ | refine go_bind (by first | assumption) ?_ | dsimp only)); first | done | (with_reducible rfl) | simp (disch := omega) only [w64] | (show False; done))) (fun _ => by (rw [spec_l01Is.l4_eq]); ((with_reducible repeat (first | refine go_pos (by first | assumption | omega | rfl | exact B_pos (by omega)) ?_ | refine go_neg (by first | assumption | omega | decide | exact B_not (by omega)) ?_ | refine go_bind (by first | assumption) ?_ | dsimp only)); first | done | (with_reducible rfl) | simp (disch := omega) only [w64] | (show False; done)))
    exact ⟨fun h => toj.trans (inner4.1 h), fun h => toj.trans (inner4.2 h)⟩)
  have st : spec_l01Is.l2 (g.length : Int) a g = spec_l01Is.l3 (g.length : Int) a (B (Fd 0)) 0 g := by
    rw [fd0]
    (rw [spec_l01Is.l2_eq])
    ((with_reducible repeat (first | refine go_pos (by first | assumption | omega | rfl | exact B_pos (by omega)) ?_ | refine go_neg (by first | assumption | omega | decide | exact B_not (by omega)) ?_ | refine go_bind (by first | assumption) ?_ | dsimp only)); first | done | (with_reducible rfl) | simp (disch := omega) only [w64] | (show False; done))
  rw [st]
  rcases inner with ⟨h5, h6⟩ | ⟨b, b0, b1, _, h5, _, h6⟩
  · simp only [h6]
    by_cases h7 : Fd g.length
    · refine ⟨fun _ => ?_, fun h => absurd ⟨h2, h3, h5, h7⟩ h⟩
      rw [B_pos h7]
      (rw [spec_l01Is.l3_eq])
      ((with_reducible repeat (first | refine go_pos (by first | assumption | omega | rfl | exact B_pos (by omega)) ?_ | refine go_neg (by first | assumption | omega | decide | exact B_not (by omega)) ?_ | refine go_bind (by first | assumption) ?_ | dsimp only)); first | done | (with_reducible rfl) | simp (disch := omega) only [w64] | (show False; done))
    · refine ⟨fun h => absurd h.2.2.2 h7, fun h => ?_⟩
      rw [B_neg h7]
      (rw [spec_l01Is.l3_eq])
      ((with_reducible repeat (first | refine go_pos (by first | assumption | omega | rfl | exact B_pos (by omega)) ?_ | refine go_neg (by first | assumption | omega | decide | exact B_not (by omega)) ?_ | refine go_bind (by first | assumption) ?_ | dsimp only)); first | done | (with_reducible rfl) | simp (disch := omega) only [w64] | (show False; done))
  · exact ⟨fun h => absurd (h.2.2.1 b b0 b1) h5, fun _ => h6⟩
theorem gcd0 (y : Nat) : ∀ x : Nat, impl_gcd.l0 (x : Int) (y : Int) = some ((Nat.gcd x y : Nat) : Int) := by
  induction y using Nat.strongRecOn with
  | _ y ih =>
    intro x
    (rw [impl_gcd.l0_eq])
    by_cases h : y = 0
    · subst h
      simp
    · have e : Int.tmod (x : Int) (y : Int) = ((x % y : Nat) : Int) := by rw [Int.ofNat_tmod]
      have := ih (x % y) (Nat.mod_lt _ (by omega)) y
      rw [show Nat.gcd y (x % y) = Nat.gcd x y by rw [Nat.gcd_comm x y, Nat.gcd_rec y x, Nat.gcd_comm]] at this
      rw [e]
      (with_reducible repeat (first | refine go_pos (by first | assumption | omega | rfl | exact B_pos (by omega)) ?_ | refine go_neg (by first | assumption | omega | decide | exact B_not (by omega)) ?_ | refine go_bind (by first | assumption) ?_ | dsimp only))
      exact this
theorem gcd_ {a b : Int} (ha : 0 ≤ a) (hb : 0 ≤ b) : impl_gcd.f a b = some ((Int.gcd a b : Nat) : Int) := by
  obtain ⟨x, rfl⟩ := Int.eq_ofNat_of_zero_le ha
  obtain ⟨y, rfl⟩ := Int.eq_ofNat_of_zero_le hb
  have := gcd0 y x
  rw [impl_gcd.f_eq]
  simpa [Int.gcd] using this
theorem Gcd0 (y : Nat) : ∀ x : Nat, x ≤ 9223372036854775807 → y ≤ 9223372036854775807 → spec_l01Gcd.l0 (x : Int) (y : Int) = some ((Nat.gcd x y : Nat) : Int) := by
  induction y using Nat.strongRecOn with
  | _ y ih =>
    intro x hx hy
    (rw [spec_l01Gcd.l0_eq])
    by_cases h : y = 0
    · subst h
      have hw : wrapI (0 - (x : Int)) = -(x : Int) := by rw [w64 (by omega) (by omega)]; omega
      rw [hw, if_pos (by simp), if_neg (by omega)]
      simp
    · have e : Int.tmod (x : Int) (y : Int) = ((x % y : Nat) : Int) := by rw [Int.ofNat_tmod]
      have hlt := Nat.mod_lt x (show y > 0 by omega)
      have := ih (x % y) hlt y hy (by omega)
      rw [show Nat.gcd y (x % y) = Nat.gcd x y by rw [Nat.gcd_comm x y, Nat.gcd_rec y x, Nat.gcd_comm]] at this
      rw [e]
      (with_reducible repeat (first | refine go_pos (by first | assumption | omega | rfl | exact B_pos (by omega)) ?_ | refine go_neg (by first | assumption | omega | decide | exact B_not (by omega)) ?_ | refine go_bind (by first | assumption) ?_ | dsimp only))
      exact this
theorem Gcd_ {a b : Int} (ha : 0 ≤ a) (hb : 0 ≤ b) (ha' : a ≤ 9223372036854775807) (hb' : b ≤ 9223372036854775807) : spec_l01Gcd.f a b = some ((Int.gcd a b : Nat) : Int) := by
  obtain ⟨x, rfl⟩ := Int.eq_ofNat_of_zero_le ha
  obtain ⟨y, rfl⟩ := Int.eq_ofNat_of_zero_le hb
  have := Gcd0 y x (by omega) (by omega)
  rw [spec_l01Gcd.f_eq]
  simpa [Int.gcd] using this
theorem Grp.foldl_in {g : List (List Int)} (hg : Grp g) : ∀ (xs : List Int) (x : Int), AllIn g.length xs → 0 ≤ x → x < g.length → 0 ≤ xs.foldl (T g) x ∧ xs.foldl (T g) x < g.length := by
  intro xs
  induction xs with
  | nil => exact fun x _ a b => ⟨a, b⟩
  | cons y ys ih =>
    intro x hx x0 x1
    obtain ⟨y0, y1⟩ := hx.mem (List.mem_cons_self ..)
    obtain ⟨z0, z1⟩ := hg.ent x y x0 x1 y0 y1
    exact ih _ (allIn_of fun z hz => hx.mem (List.mem_cons_of_mem _ hz)) z0 z1
theorem take_rd {xs : List Int} {m : Nat} (h : m < xs.length) : xs.take (m + 1) = xs.take m ++ [rd xs m] := by
  rw [List.take_succ_eq_append_getElem h, rd_get h]
theorem times {g : List (List Int)} (hg : Grp g) (xs : List Int) (hx : AllIn g.length xs) (hl : xs.length ≤ maxLen) : impl_Group_times.f g xs = some (xs.foldl (T g) 0) := by
  have hm := maxLen_le
  have n1 := hg.n1
  rw [impl_Group_times.f_eq]
  have := up xs.length (fun i => impl_Group_times.l0 ((xs.take i).foldl (T g) 0) xs (xs.length : Int) (i : Int) g) (fun i hi => by
    obtain ⟨z0, z1⟩ := hg.foldl_in (xs.take i) 0 (hx.take i) (by omega) (by omega)
    obtain ⟨y0, y1⟩ := hx i (by omega) (by omega)
    have hr : ((row g ((xs.take i).foldl (T g) 0)).length : Int) = g.length := by rw [hg.row _ z0 z1]
    have hw : wrapI ((i : Int) + 1) = ((i + 1 : Nat) : Int) := by rw [w64 (by omega) (by omega)]; omega
    rw [take_rd hi, List.foldl_append, List.foldl_cons, List.foldl_nil]
    (rw [impl_Group_times.l0_eq, hw])
    ((with_reducible repeat (first | refine go_pos (by first | assumption | omega | rfl | exact B_pos (by omega)) ?_ | refine go_neg (by first | assumption | omega | decide | exact B_not (by omega)) ?_ | refine go_bind (by first | assumption) ?_ | dsimp only)); first | done | (with_reducible rfl) | simp (disch := omega) only [w64] | (show False; done)))
  simp only [List.take_zero, List.foldl_nil, List.take_length, Int.natCast_zero] at this
  rw [this]
  (rw [impl_Group_times.l0_eq])
  ((with_reducible repeat (first | refine go_pos (by first | assumption | omega | rfl | exact B_pos (by omega)) ?_ | refine go_neg (by first | assumption | omega | decide | exact B_not (by omega)) ?_ | refine go_bind (by first | assumption) ?_ | dsimp only)); first | done | (with_reducible rfl) | simp (disch := omega) only [w64] | (show False; done))
theorem times2 {g : List (List Int)} (hg : Grp g) {x y : Int} (x0 : 0 ≤ x) (x1 : x < g.length) (y0 : 0 ≤ y) (y1 : y < g.length) : impl_Group_times.f g [x, y] = some (T g x y) := by
  have := times hg [x, y] (allIn_two x0 x1 y0 y1) (by unfold maxLen; simp)
  simpa [hg.one x x0 x1] using this
end Go.Proofs.YtacipknfhoadoaaDoor.V
set_option linter.unusedVariables false
set_option linter.unusedSimpArgs false
set_option maxHeartbeats 2000000
set_option maxRecDepth 20000
namespace Go.Proofs.YtacipknfhoadoaaDoor.V
open Go.RowKit Go.Proofs.YtacipknfhoadoaaDoor.D Go.Proofs.YtacipknfhoadoaaDoor.P
structure Mdl (g : List (List Int)) (m : Int) (u : List Int) : Prop where
  m2 : 2 ≤ m
  m12 : m ≤ 12
  len : u.length = g.length
  unit : ∀ i : Int, 0 ≤ i → i < u.length → 1 ≤ rd u i ∧ rd u i < m ∧ Int.gcd (rd u i) m = 1
  hom : ∀ i : Int, 0 ≤ i → i < u.length → ∀ j : Int, 0 ≤ j → j < u.length → rd u (T g i j) = rd u i * rd u j % m
theorem unit_one : ∀ m : Nat, m ≤ 12 → ∀ u : Nat, u < m → Nat.gcd u m = 1 → u = u * u % m → 1 ≤ u → u = 1 := by decide
theorem Mdl.one {g : List (List Int)} {m : Int} {u : List Int} (hg : Grp g) (h : Mdl g m u) : rd u 0 = 1 := by
  have n1 := hg.n1
  have hl := h.len
  obtain ⟨a1, a2, a3⟩ := h.unit 0 (by omega) (by omega)
  have e := h.hom 0 (by omega) (by omega) 0 (by omega) (by omega)
  rw [hg.one 0 (by omega) (by omega)] at e
  have m2 := h.m2; have m12 := h.m12
  obtain ⟨M, rfl⟩ := Int.eq_ofNat_of_zero_le (show 0 ≤ m by omega)
  obtain ⟨U, hU⟩ := Int.eq_ofNat_of_zero_le (show 0 ≤ rd u 0 by omega)
  rw [hU] at a1 a2 a3 e ⊢
  have := unit_one M (by omega) U (by omega) (by simpa [Int.gcd] using a3) (by exact_mod_cast e) (by omega)
  omega
theorem mul_lt_small {a b m : Int} (a0 : 0 ≤ a) (a1 : a < m) (b0 : 0 ≤ b) (b1 : b < m) (hm : m ≤ 1000) : 0 ≤ a * b ∧ a * b ≤ 1000000 := by
  refine ⟨Int.mul_nonneg a0 b0, ?_⟩
  have h1 : a * b ≤ 1000 * b := Int.mul_le_mul_of_nonneg_right (by omega) b0
  omega
theorem Mdl.at {g : List (List Int)} {m : Int} {u : List Int} (h : Mdl g m u) {x : Int} (x0 : 0 ≤ x) (x1 : x < g.length) : 1 ≤ rd u x ∧ rd u x < m := by
  have hl := h.len
  obtain ⟨a, b, _⟩ := h.unit x x0 (by omega)
  exact ⟨a, b⟩
theorem isUnit {m x : Int} (m0 : 0 ≤ m) : impl_isUnit.f m x = some (B (1 ≤ x ∧ x < m ∧ Int.gcd x m = 1)) := by
  rw [impl_isUnit.f_eq]
  by_cases h1 : 1 ≤ x ∧ x < m
  · have h := gcd_ m0 (show 0 ≤ x by omega)
    (with_reducible repeat (first | refine go_pos (by first | assumption | omega | rfl | exact B_pos (by omega)) ?_ | refine go_neg (by first | assumption | omega | decide | exact B_not (by omega)) ?_ | refine go_bind (by first | assumption) ?_ | dsimp only))
    rw [Int.gcd_comm]
    by_cases h3 : Int.gcd x m = 1
    · rw [B_pos ⟨h1.1, h1.2, h3⟩]; simp [h3]
    · rw [B_neg fun h => h3 h.2.2]
      simp; omega
  · rw [B_neg fun h => h1 ⟨h.1, h.2.1⟩]
    by_cases h2 : 1 ≤ x <;> ((with_reducible repeat (first | refine go_pos (by first | assumption | omega | rfl | exact B_pos (by omega)) ?_ | refine go_neg (by first | assumption | omega | decide | exact B_not (by omega)) ?_ | refine go_bind (by first | assumption) ?_ | dsimp only)); first | done | (with_reducible rfl) | simp (disch := omega) only [w64] | (show False; done))
theorem isModulus (m : Int) : impl_isModulus.f m = some (B (2 ≤ m ∧ m ≤ 12)) := by
  rw [impl_isModulus.f_eq]
  by_cases h : m ≥ 2
  · rw [if_pos h, B_decide, B_congr (show m ≤ 12 ↔ (2 ≤ m ∧ m ≤ 12) from ⟨fun h' => ⟨h, h'⟩, fun h' => h'.2⟩)]
  · rw [if_neg h, B_neg (fun h' => h h'.1)]
theorem mdl_iff (g : List (List Int)) (m : Int) (u : List Int) : Mdl g m u ↔ (2 ≤ m ∧ m ≤ 12) ∧ u.length = g.length ∧ (∀ i : Int, 0 ≤ i → i < u.length → 1 ≤ rd u i ∧ rd u i < m ∧ Int.gcd (rd u i) m = 1) ∧ ∀ i : Int, 0 ≤ i → i < u.length → ∀ j : Int, 0 ≤ j → j < u.length → rd u (T g i j) = rd u i * rd u j % m :=
  ⟨fun h => ⟨⟨h.m2, h.m12⟩, h.len, h.unit, h.hom⟩, fun ⟨⟨a, b⟩, c, d, e⟩ => ⟨a, b, c, d, e⟩⟩
theorem isModule {g : List (List Int)} (hg : Grp g) (m : Int) (u : List Int) (hl : u.length ≤ maxLen) : impl_isModule.f g m u = some (B (Mdl g m u)) := by
  have hm := maxLen_le
  have n1 := hg.n1
  (rw [impl_isModule.f_eq])
  by_cases h1 : 2 ≤ m ∧ m ≤ 12
  rotate_left
  · rw [B_neg fun h => h1 ⟨h.m2, h.m12⟩]
    ((with_reducible repeat (first | refine go_pos (by first | assumption | omega | rfl | exact B_pos (by omega)) ?_ | refine go_neg (by first | assumption | omega | decide | exact B_not (by omega)) ?_ | refine go_bind (by first | assumption | exact isModulus _ | exact impl_order.f_eq _) ?_ | dsimp only)); first | done | (with_reducible rfl) | simp (disch := omega) only [w64] | (show False; done))
  by_cases h3 : (u.length : Int) = g.length
  rotate_left
  · rw [B_neg fun h => h3 (by rw [h.len])]
    ((with_reducible repeat (first | refine go_pos (by first | assumption | omega | rfl | exact B_pos (by omega)) ?_ | refine go_neg (by first | assumption | omega | decide | exact B_not (by omega)) ?_ | refine go_bind (by first | assumption | exact isModulus _ | exact impl_order.f_eq _) ?_ | dsimp only)); first | done | (with_reducible rfl) | simp (disch := omega) only [w64] | (show False; done))
  by_cases h5 : rd u 0 = 1
  rotate_left
  · rw [B_neg fun h => h5 (h.one hg)]
    ((with_reducible repeat (first | refine go_pos (by first | assumption | omega | rfl | exact B_pos (by omega)) ?_ | refine go_neg (by first | assumption | omega | decide | exact B_not (by omega)) ?_ | refine go_bind (by first | assumption | exact isModulus _ | exact impl_order.f_eq _) ?_ | dsimp only)); first | done | (with_reducible rfl) | simp (disch := omega) only [w64] | (show False; done))
  (with_reducible repeat (first | refine go_pos (by first | assumption | omega | rfl | exact B_pos (by omega)) ?_ | refine go_neg (by first | assumption | omega | decide | exact B_not (by omega)) ?_ | refine go_bind (by first | assumption | exact isModulus _ | exact impl_order.f_eq _) ?_ | dsimp only))
  rw [B_congr (mdl_iff g m u), B_congr (show ((2 ≤ m ∧ m ≤ 12) ∧ u.length = g.length ∧ (∀ i : Int, 0 ≤ i → i < u.length → 1 ≤ rd u i ∧ rd u i < m ∧ Int.gcd (rd u i) m = 1) ∧ ∀ i : Int, 0 ≤ i → i < u.length → ∀ j : Int, 0 ≤ j → j < u.length → rd u (T g i j) = rd u i * rd u j % m) ↔ _ from ⟨fun h => h.2.2, fun h => ⟨h1, by omega, h⟩⟩)]
  refine scanB u.length (fun i => impl_isModule.l0 u (u.length : Int) i g m u) (fun i => 1 ≤ rd u i ∧ rd u i < m ∧ Int.gcd (rd u i) m = 1) _ (fun i i0 i1 _ => ?_) (fun hu => ?_)
  · have hu := isUnit (m := m) (x := rd u i) (by omega)
    refine ⟨fun h => ?_, fun h => ?_⟩ <;> (rw [impl_isModule.l0_eq]) <;> ((with_reducible repeat (first | refine go_pos (by first | assumption | omega | rfl | exact B_pos (by omega)) ?_ | refine go_neg (by first | assumption | omega | decide | exact B_not (by omega)) ?_ | refine go_bind (by first | assumption) ?_ | dsimp only)); first | done | (with_reducible rfl) | simp (disch := omega) only [w64] | (show False; done))
  (rw [impl_isModule.l0_eq])
  (with_reducible repeat (first | refine go_pos (by first | assumption | omega | rfl | exact B_pos (by omega)) ?_ | refine go_neg (by first | assumption | omega | decide | exact B_not (by omega)) ?_ | refine go_bind (by first | assumption | exact impl_order.f_eq _) ?_ | dsimp only))
  rw [← h3]
  refine scanT u.length (fun i => impl_isModule.l1 (u.length : Int) i g m u) (fun i => ∀ j : Int, 0 ≤ j → j < u.length → rd u (T g i j) = rd u i * rd u j % m) (fun i i0 i1 _ => ?_) (fun _ => by (rw [impl_isModule.l1_eq]); ((with_reducible repeat (first | refine go_pos (by first | assumption | omega | rfl | exact B_pos (by omega)) ?_ | refine go_neg (by first | assumption | omega | decide | exact B_not (by omega)) ?_ | refine go_bind (by first | assumption) ?_ | dsimp only)); first | done | (with_reducible rfl) | simp (disch := omega) only [w64] | (show False; done)))
  have inner := scanI u.length (fun j => impl_isModule.l2 i (u.length : Int) i (u.length : Int) j g m u) (fun j => rd u (T g i j) = rd u i * rd u j % m) (some false) (impl_isModule.l1 (u.length : Int) (i + 1) g m u) (fun j j0 j1 _ => by
    have ht := times2 hg i0 (by omega) j0 (by omega)
    obtain ⟨e0, e1⟩ := hg.ent i j i0 (by omega) j0 (by omega)
    obtain ⟨p0, p1⟩ := mul_lt_small (show 0 ≤ rd u i by have := (hu i i0 i1).1; omega) (hu i i0 i1).2.1 (show 0 ≤ rd u j by have := (hu j j0 j1).1; omega) (hu j j0 j1).2.1 (by omega)
    have hwp : wrapI (rd u i * rd u j) = rd u i * rd u j := w64 (by omega) (by omega)
    have e := tmod_nn (m := m) p0
    refine ⟨fun h => ?_, fun h => ?_⟩ <;> (rw [impl_isModule.l2_eq, hwp, e]) <;> ((with_reducible repeat (first | refine go_pos (by first | assumption | omega | rfl | exact B_pos (by omega)) ?_ | refine go_neg (by first | assumption | omega | decide | exact B_not (by omega)) ?_ | refine go_bind (by first | assumption) ?_ | dsimp only)); first | done | (with_reducible rfl) | simp (disch := omega) only [w64] | (show False; done))) (fun _ => by (rw [impl_isModule.l2_eq]); ((with_reducible repeat (first | refine go_pos (by first | assumption | omega | rfl | exact B_pos (by omega)) ?_ | refine go_neg (by first | assumption | omega | decide | exact B_not (by omega)) ?_ | refine go_bind (by first | assumption) ?_ | dsimp only)); first | done | (with_reducible rfl) | simp (disch := omega) only [w64] | (show False; done)))
  refine ⟨fun h => ?_, fun h => ?_⟩ <;> (rw [impl_isModule.l1_eq]) <;> (with_reducible repeat (first | refine go_pos (by first | assumption | omega | rfl | exact B_pos (by omega)) ?_ | refine go_neg (by first | assumption | omega | decide | exact B_not (by omega)) ?_ | refine go_bind (by first | assumption | exact impl_order.f_eq _) ?_ | dsimp only)) <;> rw [← h3]
  · exact inner.1 h
  · exact inner.2 h
theorem Is02 {g : List (List Int)} (hg : Grp g) (m : Int) (u : List Int) (hl : u.length ≤ maxLen) : spec_l02Is.f g m u = some (B (Mdl g m u)) := by
  have hm := maxLen_le
  have n1 := hg.n1
  (rw [spec_l02Is.f_eq])
  by_cases h1 : 2 ≤ m ∧ m ≤ 12
  rotate_left
  · rw [B_neg fun h => h1 ⟨h.m2, h.m12⟩]
    ((with_reducible repeat (first | refine go_pos (by first | assumption | omega | rfl | exact B_pos (by omega)) ?_ | refine go_neg (by first | assumption | omega | decide | exact B_not (by omega)) ?_ | refine go_bind (by first | assumption | exact In_ _ _ _) ?_ | dsimp only)); first | done | (with_reducible rfl) | simp (disch := omega) only [w64] | (show False; done))
  by_cases h3 : (u.length : Int) = g.length
  rotate_left
  · rw [B_neg fun h => h3 (by rw [h.len])]
    ((with_reducible repeat (first | refine go_pos (by first | assumption | omega | rfl | exact B_pos (by omega)) ?_ | refine go_neg (by first | assumption | omega | decide | exact B_not (by omega)) ?_ | refine go_bind (by first | assumption | exact In_ _ _ _) ?_ | dsimp only)); first | done | (with_reducible rfl) | simp (disch := omega) only [w64] | (show False; done))
  (with_reducible repeat (first | refine go_pos (by first | assumption | omega | rfl | exact B_pos (by omega)) ?_ | refine go_neg (by first | assumption | omega | decide | exact B_not (by omega)) ?_ | refine go_bind (by first | assumption | exact In_ _ _ _) ?_ | dsimp only))
  rw [B_congr (mdl_iff g m u), B_congr (show ((2 ≤ m ∧ m ≤ 12) ∧ u.length = g.length ∧ (∀ i : Int, 0 ≤ i → i < u.length → 1 ≤ rd u i ∧ rd u i < m ∧ Int.gcd (rd u i) m = 1) ∧ ∀ i : Int, 0 ≤ i → i < u.length → ∀ j : Int, 0 ≤ j → j < u.length → rd u (T g i j) = rd u i * rd u j % m) ↔ _ from ⟨fun h => h.2.2, fun h => ⟨h1, by omega, h⟩⟩)]
  have hw1 : wrapI (m - 1) = m - 1 := w64 (by omega) (by omega)
  refine scanB u.length (fun i => spec_l02Is.l0 i g m u) (fun i => 1 ≤ rd u i ∧ rd u i < m ∧ Int.gcd (rd u i) m = 1) _ (fun i i0 i1 _ => ?_) (fun hu => ?_)
  · refine ⟨fun h => ?_, fun h => ?_⟩ <;> (rw [spec_l02Is.l0_eq, hw1])
    · have hgc := Gcd_ (a := rd u i) (b := m) (by omega) (by omega) (by omega) (by omega)
      ((with_reducible repeat (first | refine go_pos (by first | assumption | omega | rfl | exact B_pos (by omega)) ?_ | refine go_neg (by first | assumption | omega | decide | exact B_not (by omega)) ?_ | refine go_bind (by first | assumption | exact In_ _ _ _) ?_ | dsimp only)); first | done | (with_reducible rfl) | simp (disch := omega) only [w64] | (show False; done))
    · by_cases h6 : 1 ≤ rd u i ∧ rd u i < m
      · have hgc := Gcd_ (a := rd u i) (b := m) (by omega) (by omega) (by omega) (by omega)
        ((with_reducible repeat (first | refine go_pos (by first | assumption | omega | rfl | exact B_pos (by omega)) ?_ | refine go_neg (by first | assumption | omega | decide | exact B_not (by omega)) ?_ | refine go_bind (by first | assumption | exact In_ _ _ _) ?_ | dsimp only)); first | done | (with_reducible rfl) | simp (disch := omega) only [w64] | (show False; done))
      · ((with_reducible repeat (first | refine go_pos (by first | assumption | omega | rfl | exact B_pos (by omega)) ?_ | refine go_neg (by first | assumption | omega | decide | exact B_not (by omega)) ?_ | refine go_bind (by first | assumption | exact In_ _ _ _) ?_ | dsimp only)); first | done | (with_reducible rfl) | simp (disch := omega) only [w64] | (show False; done))
  (rw [spec_l02Is.l0_eq])
  (with_reducible repeat (first | refine go_pos (by first | assumption | omega | rfl | exact B_pos (by omega)) ?_ | refine go_neg (by first | assumption | omega | decide | exact B_not (by omega)) ?_ | refine go_bind (by first | assumption) ?_ | dsimp only))
  refine scanT u.length (fun i => spec_l02Is.l1 i g m u) (fun i => ∀ j : Int, 0 ≤ j → j < u.length → rd u (T g i j) = rd u i * rd u j % m) (fun i i0 i1 _ => ?_) (fun _ => by (rw [spec_l02Is.l1_eq]); ((with_reducible repeat (first | refine go_pos (by first | assumption | omega | rfl | exact B_pos (by omega)) ?_ | refine go_neg (by first | assumption | omega | decide | exact B_not (by omega)) ?_ | refine go_bind (by first | assumption) ?_ | dsimp only)); first | done | (with_reducible rfl) | simp (disch := omega) only [w64] | (show False; done)))
  have ri := hg.row i i0 (by omega)
  have inner := scanI u.length (fun j => spec_l02Is.l2 i j g m u) (fun j => rd u (T g i j) = rd u i * rd u j % m) (some false) (spec_l02Is.l1 (i + 1) g m u) (fun j j0 j1 _ => by
    obtain ⟨e0, e1⟩ := hg.ent i j i0 (by omega) j0 (by omega)
    obtain ⟨p0, p1⟩ := mul_lt_small (show 0 ≤ rd u i by have := (hu i i0 i1).1; omega) (hu i i0 i1).2.1 (show 0 ≤ rd u j by have := (hu j j0 j1).1; omega) (hu j j0 j1).2.1 (by omega)
    have hwp : wrapI (rd u i * rd u j) = rd u i * rd u j := w64 (by omega) (by omega)
    have e := tmod_nn (m := m) p0
    refine ⟨fun h => ?_, fun h => ?_⟩ <;> (rw [spec_l02Is.l2_eq, hwp, e]) <;> ((with_reducible repeat (first | refine go_pos (by first | assumption | omega | rfl | exact B_pos (by omega)) ?_ | refine go_neg (by first | assumption | omega | decide | exact B_not (by omega)) ?_ | refine go_bind (by first | assumption) ?_ | dsimp only)); first | done | (with_reducible rfl) | simp (disch := omega) only [w64] | (show False; done))) (fun _ => by (rw [spec_l02Is.l2_eq]); ((with_reducible repeat (first | refine go_pos (by first | assumption | omega | rfl | exact B_pos (by omega)) ?_ | refine go_neg (by first | assumption | omega | decide | exact B_not (by omega)) ?_ | refine go_bind (by first | assumption) ?_ | dsimp only)); first | done | (with_reducible rfl) | simp (disch := omega) only [w64] | (show False; done)))
  refine ⟨fun h => ?_, fun h => ?_⟩ <;> (rw [spec_l02Is.l1_eq]) <;> (with_reducible repeat (first | refine go_pos (by first | assumption | omega | rfl | exact B_pos (by omega)) ?_ | refine go_neg (by first | assumption | omega | decide | exact B_not (by omega)) ?_ | refine go_bind (by first | assumption) ?_ | dsimp only))
  · exact inner.1 h
  · exact inner.2 h
def GM (g : List (List Int)) (m : Int) (u : List Int) : Prop := Grp g ∧ Mdl g m u
theorem areModules1 (g : List (List Int)) (hl : g.length ≤ maxLen) (hr : ∀ r ∈ g, r.length ≤ maxLen) (m : Int) (u : List Int) (hu : u.length ≤ maxLen) : impl_areModules.f g [(m, u)] = some (B (GM g m u)) := by
  have hG := isGroup g hl hr
  rw [impl_areModules.f_eq]
  have st : impl_areModules.l0 [(m, u)] (([(m, u)] : List (Int × List Int)).length : Int) 1 g = some true := by (rw [impl_areModules.l0_eq]); exact if_neg (by simp)
  (rw [impl_areModules.l0_eq])
  rw [if_pos (by simp), if_pos (by simp), if_pos (by simp), hG]
  by_cases h1 : Grp g
  · have hM := isModule h1 m u hu
    rw [B_pos h1]
    show (Option.bind (impl_isModule.f g m u) _) = _
    rw [hM]
    by_cases h2 : Mdl g m u
    · rw [B_pos h2, B_pos ⟨h1, h2⟩]
      simpa [show wrapI 1 = 1 from w64 (by omega) (by omega)] using st
    · rw [B_neg h2, B_neg fun h => h2 h.2]
      rfl
  · rw [B_neg h1, B_neg fun h => h1 h.1]
    rfl
theorem moduleCode1 (g : List (List Int)) (hl : g.length ≤ maxLen) (hr : ∀ r ∈ g, r.length ≤ maxLen) (m : Int) (u : List Int) (hu : u.length ≤ maxLen) : impl_moduleCode.f g [(m, u)] = some (ite_ (GM g m u) 0 1) := by
  rw [impl_moduleCode.f_eq, areModules1 g hl hr m u hu]
  by_cases h : GM g m u
  · rw [B_pos h, ite_pos h]; rfl
  · rw [B_neg h, ite_neg h]; rfl
end Go.Proofs.YtacipknfhoadoaaDoor.V
set_option linter.unusedVariables false
set_option linter.unusedSimpArgs false
set_option maxHeartbeats 2000000
set_option maxRecDepth 20000
namespace Go.Proofs.YtacipknfhoadoaaDoor.V
open Go.RowKit Go.Proofs.YtacipknfhoadoaaDoor.D Go.Proofs.YtacipknfhoadoaaDoor.P
theorem pow_nat : ∀ n : Nat, n ≤ 7 → ∀ i : Nat, i ≤ 5 → n ^ i ≤ 16807 := by decide
theorem pow_bd {a : Int} (h0 : 0 ≤ a) (h1 : a ≤ 7) (i : Nat) (hi : i ≤ 5) : 0 ≤ a ^ i ∧ a ^ i ≤ 16807 := by
  obtain ⟨n, rfl⟩ := Int.eq_ofNat_of_zero_le h0
  have h := pow_nat n (by omega) i hi
  rw [← Int.natCast_pow]
  omega
def cells (g : List (List Int)) (d : Int) : Int := ((g.length : Int) - 1) ^ d.toNat
theorem power {a d : Int} (h0 : 0 ≤ a) (h1 : a ≤ 7) (d0 : 0 ≤ d) (d1 : d ≤ 4) : impl_power.f a d = some (a ^ d.toNat) := by
  obtain ⟨n, rfl⟩ := Int.eq_ofNat_of_zero_le d0
  have := up n (fun j => impl_power.l0 a (a ^ j) (n : Int) (j : Int)) (fun j hj => by
    have hw : wrapI ((j : Int) + 1) = ((j + 1 : Nat) : Int) := by rw [w64 (by omega) (by omega)]; omega
    have b := pow_bd h0 h1 (j + 1) (by omega)
    have hp : wrapI (a ^ j * a) = a ^ (j + 1) := by rw [show a ^ j * a = a ^ (j + 1) from (Int.pow_succ a j).symm]; exact w64 (by omega) (by omega)
    rw [impl_power.l0_eq, hw, hp]
    ((with_reducible repeat (first | refine go_pos (by first | assumption | omega | rfl | exact B_pos (by omega)) ?_ | refine go_neg (by first | assumption | omega | decide | exact B_not (by omega)) ?_ | refine go_bind (by first | assumption) ?_ | dsimp only)); first | done | (with_reducible rfl) | simp (disch := omega) only [w64] | (show False; done)))
  simp only [Int.pow_zero, Int.natCast_zero] at this
  rw [impl_power.f_eq, this, impl_power.l0_eq, Int.toNat_natCast]
  ((with_reducible repeat (first | refine go_pos (by first | assumption | omega | rfl | exact B_pos (by omega)) ?_ | refine go_neg (by first | assumption | omega | decide | exact B_not (by omega)) ?_ | refine go_bind (by first | assumption) ?_ | dsimp only)); first | done | (with_reducible rfl) | simp (disch := omega) only [w64] | (show False; done))
theorem cells_ {g : List (List Int)} (hg : Grp g) {d : Int} (d0 : 0 ≤ d) (d1 : d ≤ 4) : impl_cells.f g d = some (cells g d) := by
  have n8 := hg.n8; have n0 := hg.n1
  have hw : wrapI ((g.length : Int) - 1) = g.length - 1 := w64 (by omega) (by omega)
  have hp := power (a := (g.length : Int) - 1) (by omega) (by omega) d0 d1
  show _ = some (((g.length : Int) - 1) ^ d.toNat)
  rw [impl_cells.f_eq, impl_order.f_eq, Option.bind_some, hw]
  ((with_reducible repeat (first | refine go_pos (by first | assumption | omega | rfl | exact B_pos (by omega)) ?_ | refine go_neg (by first | assumption | omega | decide | exact B_not (by omega)) ?_ | refine go_bind (by first | assumption) ?_ | dsimp only)); first | done | (with_reducible rfl) | simp (disch := omega) only [w64] | (show False; done))
theorem Cells_ {g : List (List Int)} (hg : Grp g) {d : Int} (d0 : 0 ≤ d) (d1 : d ≤ 4) : spec_l03Cells.f g d = some (cells g d) := by
  have n8 := hg.n8; have n0 := hg.n1
  unfold cells
  have hw : wrapI ((g.length : Int) - 1) = g.length - 1 := w64 (by omega) (by omega)
  obtain ⟨n, rfl⟩ := Int.eq_ofNat_of_zero_le d0
  suffices H : ∀ n j : Nat, n + j ≤ 4 → spec_l03Cells.l0 (n : Int) (((g.length : Int) - 1) ^ j) g = some (((g.length : Int) - 1) ^ (j + n)) by
    have := H n 0 (by omega)
    rw [spec_l03Cells.f_eq]
    simpa using this
  intro n
  induction n with
  | zero => intro j hj; rw [spec_l03Cells.l0_eq, Nat.add_zero]; ((with_reducible repeat (first | refine go_pos (by first | assumption | omega | rfl | exact B_pos (by omega)) ?_ | refine go_neg (by first | assumption | omega | decide | exact B_not (by omega)) ?_ | refine go_bind (by first | assumption) ?_ | dsimp only)); first | done | (with_reducible rfl) | simp (disch := omega) only [w64] | (show False; done))
  | succ n ih =>
    intro j hj
    have b := pow_bd (a := (g.length : Int) - 1) (by omega) (by omega) (j + 1) (by omega)
    have hp : wrapI (((g.length : Int) - 1) ^ j * ((g.length : Int) - 1)) = ((g.length : Int) - 1) ^ (j + 1) := by rw [show ((g.length : Int) - 1) ^ j * ((g.length : Int) - 1) = ((g.length : Int) - 1) ^ (j + 1) from (Int.pow_succ _ j).symm]; exact w64 (by omega) (by omega)
    have h1 : wrapI (((n + 1 : Nat) : Int) - 1) = (n : Int) := by rw [w64 (by omega) (by omega)]; omega
    have := ih (j + 1) (by omega)
    rw [show j + 1 + n = j + (n + 1) by omega] at this
    rw [spec_l03Cells.l0_eq, spec_l01N.f_eq, Option.bind_some, hw, hp, h1]
    (with_reducible repeat (first | refine go_pos (by first | assumption | omega | rfl | exact B_pos (by omega)) ?_ | refine go_neg (by first | assumption | omega | decide | exact B_not (by omega)) ?_ | refine go_bind (by first | assumption) ?_ | dsimp only))
    exact this
def Co (g : List (List Int)) (m d : Int) (v : List Int) : Prop := (0 ≤ d ∧ d ≤ 3) ∧ (v.length : Int) = cells g d ∧ AllIn m v
theorem isDegree (d : Int) : impl_isDegree.f d = some (B (0 ≤ d ∧ d ≤ 3)) := by
  rw [impl_isDegree.f_eq]
  by_cases h : d ≥ 0
  · rw [if_pos h, B_decide, B_congr (show d ≤ 3 ↔ (0 ≤ d ∧ d ≤ 3) from ⟨fun h' => ⟨h, h'⟩, fun h' => h'.2⟩)]
  · rw [if_neg h, B_neg (fun h' => h h'.1)]
theorem isCochain {g : List (List Int)} (hg : Grp g) (m : Int) (u : List Int) (d : Int) (v : List Int) (hv : v.length ≤ maxLen) : impl_isCochain.f g m u d v = some (B (Co g m d v)) := by
  rw [impl_isCochain.f_eq]
  by_cases h1 : 0 ≤ d ∧ d ≤ 3
  rotate_left
  · rw [B_neg fun h => h1 h.1]
    ((with_reducible repeat (first | refine go_pos (by first | assumption | omega | rfl | exact B_pos (by omega)) ?_ | refine go_neg (by first | assumption | omega | decide | exact B_not (by omega)) ?_ | refine go_bind (by first | assumption | exact isDegree _) ?_ | dsimp only)); first | done | (with_reducible rfl) | simp (disch := omega) only [w64] | (show False; done))
  have hc := cells_ hg h1.1 (by omega)
  have ha := areIn m v hv
  by_cases h2 : (v.length : Int) = cells g d
  rotate_left
  · rw [B_neg fun h => h2 h.2.1]
    ((with_reducible repeat (first | refine go_pos (by first | assumption | omega | rfl | exact B_pos (by omega)) ?_ | refine go_neg (by first | assumption | omega | decide | exact B_not (by omega)) ?_ | refine go_bind (by first | assumption | exact isDegree _) ?_ | dsimp only)); first | done | (with_reducible rfl) | simp (disch := omega) only [w64] | (show False; done))
  (with_reducible repeat (first | refine go_pos (by first | assumption | omega | rfl | exact B_pos (by omega)) ?_ | refine go_neg (by first | assumption | omega | decide | exact B_not (by omega)) ?_ | refine go_bind (by first | assumption | exact isDegree _) ?_ | dsimp only))
  rw [B_congr (show AllIn m v ↔ Co g m d v from ⟨fun h => ⟨h1, h2, h⟩, fun h => h.2.2⟩)]
  simp
theorem Is03 {g : List (List Int)} (hg : Grp g) {m : Int} {u : List Int} (hm : Mdl g m u) (d : Int) (v : List Int) (hv : v.length ≤ maxLen) : spec_l03Is.f g m u d v = some (B (Co g m d v)) := by
  have hml := maxLen_le
  have m2 := hm.m2; have m12 := hm.m12
  rw [spec_l03Is.f_eq]
  by_cases h1 : 0 ≤ d ∧ d ≤ 3
  rotate_left
  · rw [B_neg fun h => h1 h.1]
    ((with_reducible repeat (first | refine go_pos (by first | assumption | omega | rfl | exact B_pos (by omega)) ?_ | refine go_neg (by first | assumption | omega | decide | exact B_not (by omega)) ?_ | refine go_bind (by first | assumption | exact In_ _ _ _) ?_ | dsimp only)); first | done | (with_reducible rfl) | simp (disch := omega) only [w64] | (show False; done))
  have hc := Cells_ hg h1.1 (by omega)
  by_cases h2 : (v.length : Int) = cells g d
  rotate_left
  · rw [B_neg fun h => h2 h.2.1]
    ((with_reducible repeat (first | refine go_pos (by first | assumption | omega | rfl | exact B_pos (by omega)) ?_ | refine go_neg (by first | assumption | omega | decide | exact B_not (by omega)) ?_ | refine go_bind (by first | assumption | exact In_ _ _ _) ?_ | dsimp only)); first | done | (with_reducible rfl) | simp (disch := omega) only [w64] | (show False; done))
  (with_reducible repeat (first | refine go_pos (by first | assumption | omega | rfl | exact B_pos (by omega)) ?_ | refine go_neg (by first | assumption | omega | decide | exact B_not (by omega)) ?_ | refine go_bind (by first | assumption | exact In_ _ _ _) ?_ | dsimp only))
  rw [B_congr (show Co g m d v ↔ AllIn m v from ⟨fun h => h.2.2, fun h => ⟨h1, h2, h⟩⟩)]
  have hw : wrapI (m - 1) = m - 1 := w64 (by omega) (by omega)
  refine scanT v.length (fun i => spec_l03Is.l0 i m u d v) (fun i => 0 ≤ rd v i ∧ rd v i < m) (fun i i0 i1 _ => ?_) (fun _ => by (rw [spec_l03Is.l0_eq]); ((with_reducible repeat (first | refine go_pos (by first | assumption | omega | rfl | exact B_pos (by omega)) ?_ | refine go_neg (by first | assumption | omega | decide | exact B_not (by omega)) ?_ | refine go_bind (by first | assumption) ?_ | dsimp only)); first | done | (with_reducible rfl) | simp (disch := omega) only [w64] | (show False; done)))
  refine ⟨fun h => ?_, fun h => ?_⟩ <;> (rw [spec_l03Is.l0_eq, hw]) <;> ((with_reducible repeat (first | refine go_pos (by first | assumption | omega | rfl | exact B_pos (by omega)) ?_ | refine go_neg (by first | assumption | omega | decide | exact B_not (by omega)) ?_ | refine go_bind (by first | assumption | exact In_ _ _ _) ?_ | dsimp only)); first | done | (with_reducible rfl) | simp (disch := omega) only [w64] | (show False; done))
end Go.Proofs.YtacipknfhoadoaaDoor.V
set_option linter.unusedVariables false
set_option linter.unusedSimpArgs false
set_option maxHeartbeats 2000000
set_option maxRecDepth 20000
namespace Go.Proofs.YtacipknfhoadoaaDoor.V
open Go.RowKit Go.Proofs.YtacipknfhoadoaaDoor.D Go.Proofs.YtacipknfhoadoaaDoor.P
theorem wr8 {x : Int} (h0 : 0 ≤ x) (h1 : x < 256) : wr .u8 x = x := by
  show D.hid (IntKind.u8.wrap x) = x
  rw [D.hid_eq]
  have e : (2 ^ IntKind.u8.bits : Int) = 256 := by decide
  have s : IntKind.u8.signed = false := rfl
  simp only [IntKind.wrap, e, s, Bool.false_and, Bool.false_eq_true, if_false]
  omega
end Go.Proofs.YtacipknfhoadoaaDoor.V
set_option linter.unusedVariables false
set_option linter.unusedSimpArgs false
set_option maxHeartbeats 2000000
set_option maxRecDepth 20000
namespace Go.Proofs.YtacipknfhoadoaaDoor.V
open Go.RowKit Go.Proofs.YtacipknfhoadoaaDoor.D Go.Proofs.YtacipknfhoadoaaDoor.P
def mk (l : List UInt8) : ByteArray := ⟨l.toArray⟩
theorem mk_of (s : ByteArray) : mk s.data.toList = s := by cases s; simp [mk]
theorem mk_size (l : List UInt8) : (mk l).size = l.length := rfl
theorem mk_list (l : List UInt8) : (mk l).data.toList = l := by simp [mk]
theorem mk_inj {a b : List UInt8} (h : mk a = mk b) : a = b := by rw [← mk_list a, h, mk_list]
theorem mk_nil : mk [] = (⟨#[]⟩ : ByteArray) := rfl
theorem mk_ext (l : List UInt8) (i j : Nat) : (mk l).extract i j = mk ((l.drop i).take (j - i)) := by
  apply ByteArray.ext
  rw [ByteArray.data_extract]
  apply Array.toList_inj.1
  simp [mk, List.extract_eq_take_drop]
theorem mk_byte {l : List UInt8} {i : Nat} (h : i < l.length) : byteAt (mk l) (i : Int) = ((l[i]).toNat : Int) := by
  unfold byteAt mk
  simp [Array.getD_eq_getD_getElem?, List.getElem?_eq_getElem h]
theorem byte_eq {a b : UInt8} : (a.toNat : Int) = (b.toNat : Int) ↔ a = b := ⟨fun h => UInt8.toNat_inj.1 (by omega), fun h => by rw [h]⟩
def Pt (c : UInt8) : List UInt8 → List (List UInt8)
  | [] => [[]]
  | b :: l => if b = c then [] :: Pt c l else match Pt c l with
    | [] => [[b]]
    | h :: t => (b :: h) :: t
theorem Pt_no {c : UInt8} : ∀ {l : List UInt8}, c ∉ l → Pt c l = [l]
  | [], _ => rfl
  | b :: l, h => by
    have hb : ¬ b = c := fun e => h (by rw [e]; exact List.mem_cons_self)
    rw [Pt, if_neg hb, Pt_no fun k => h (List.mem_cons_of_mem _ k)]
theorem Pt_cut {c : UInt8} : ∀ {a b : List UInt8}, c ∉ a → Pt c (a ++ c :: b) = a :: Pt c b
  | [], b, _ => by rw [List.nil_append, Pt, if_pos rfl]
  | x :: a, b, h => by
    have hb : ¬ x = c := fun e => h (by rw [e]; exact List.mem_cons_self)
    rw [List.cons_append, Pt, if_neg hb, Pt_cut fun k => h (List.mem_cons_of_mem _ k)]
theorem Pt_len (c : UInt8) : ∀ n : Nat, ∀ l : List UInt8, l.length = n → (∀ p ∈ Pt c l, p.length ≤ 2) → l.length + 1 ≤ 3 * (Pt c l).length := by
  intro n
  induction n using Nat.strongRecOn with
  | ind n ih =>
    intro l hl h
    by_cases hc : c ∈ l
    · obtain ⟨a, b, rfl, ha⟩ := List.eq_append_cons_of_mem hc
      rw [Pt_cut ha] at h ⊢
      simp only [List.length_append, List.length_cons] at hl ⊢
      have := ih b.length (by omega) b rfl fun p hp => h p (List.mem_cons_of_mem _ hp)
      have := h a List.mem_cons_self
      omega
    · rw [Pt_no hc] at h ⊢
      have := h l List.mem_cons_self
      simp only [List.length_singleton]
      omega
theorem Pt_mem (c : UInt8) : ∀ n : Nat, ∀ l : List UInt8, l.length = n → ∀ x ∈ l, x = c ∨ ∃ p ∈ Pt c l, x ∈ p := by
  intro n
  induction n using Nat.strongRecOn with
  | ind n ih =>
    intro l hl x hx
    by_cases hc : c ∈ l
    · obtain ⟨a, b, rfl, ha⟩ := List.eq_append_cons_of_mem hc
      rw [Pt_cut ha]
      simp only [List.length_append, List.length_cons] at hl
      rcases List.mem_append.1 hx with h | h
      · exact .inr ⟨a, List.mem_cons_self, h⟩
      · rcases List.mem_cons.1 h with h | h
        · exact .inl h
        · rcases ih b.length (by omega) b rfl x h with h | ⟨p, hp, h⟩
          · exact .inl h
          · exact .inr ⟨p, List.mem_cons_of_mem _ hp, h⟩
    · rw [Pt_no hc]
      exact .inr ⟨l, List.mem_cons_self, hx⟩
theorem Pt_count (c : UInt8) : ∀ n : Nat, ∀ l : List UInt8, l.length = n → (Pt c l).length ≤ l.length + 1 := by
  intro n
  induction n using Nat.strongRecOn with
  | ind n ih =>
    intro l hl
    by_cases hc : c ∈ l
    · obtain ⟨a, b, rfl, ha⟩ := List.eq_append_cons_of_mem hc
      rw [Pt_cut ha]
      simp only [List.length_append, List.length_cons] at hl ⊢
      have := ih b.length (by omega) b rfl
      omega
    · rw [Pt_no hc]
      simp
theorem Split_ {l : List UInt8} {c : UInt8} (hl : l.length ≤ 1048576) : spec_l01Split.f (mk l) (c.toNat : Int) = some ((Pt c l).map mk) := by
  have main : ∀ (k at_ i : Nat) (out : List ByteArray), i + k = l.length → at_ ≤ i → c ∉ (l.drop at_).take (i - at_) → out.length ≤ at_ → spec_l01Split.l0 (mk l) (c.toNat : Int) (at_ : Int) (i : Int) out = some (out ++ (Pt c (l.drop at_)).map mk) := by
    intro k
    induction k with
    | zero =>
      intro at_ i out hi ha hc ho
      have l3 : ∀ y : ByteArray, ([y] : List ByteArray).length = 1 := fun _ => rfl
      have e1 : (l.drop at_).take (l.length - at_) = l.drop at_ := List.take_of_length_le (by rw [List.length_drop]; exact Nat.le_refl _)
      have hc' : c ∉ l.drop at_ := by rwa [show i - at_ = l.length - at_ by omega, e1] at hc
      rw [spec_l01Split.l0_eq, mk_size, if_neg (by omega), if_pos (by omega), if_pos (by omega), l3, if_pos (by omega), Int.toNat_natCast, mk_ext, e1, Pt_no hc']
      rfl
    | succ k ih =>
      intro at_ i out hi ha hc ho
      have hlt : i < l.length := by omega
      have l3 : ∀ y : ByteArray, ([y] : List ByteArray).length = 1 := fun _ => rfl
      have hd : l.drop at_ = (l.drop at_).take (i - at_) ++ l[i] :: l.drop (i + 1) := by
        have q := (List.take_append_drop (i - at_) (l.drop at_)).symm
        rw [List.drop_drop, show at_ + (i - at_) = i by omega, List.drop_eq_getElem_cons hlt] at q
        exact q
      rw [spec_l01Split.l0_eq, mk_size, if_pos (by omega), if_pos (by omega), if_pos (by omega), mk_byte hlt, wn (j := i) (by omega)]
      by_cases hb : l[i] = c
      · rw [if_pos (byte_eq.2 hb), if_pos (by omega), if_pos (by omega), if_pos (by omega), l3, if_pos (by omega), Int.toNat_natCast, Int.toNat_natCast, mk_ext,
          ih (i + 1) (i + 1) _ (by omega) (Nat.le_refl _) (by simp) (by rw [List.length_append, l3]; omega)]
        have e : Pt c (l.drop at_) = (l.drop at_).take (i - at_) :: Pt c (l.drop (i + 1)) := by
          have := Pt_cut (b := l.drop (i + 1)) hc
          rw [hb] at hd
          rwa [← hd] at this
        rw [e, List.map_cons, List.append_assoc]
        rfl
      · rw [if_neg (fun h => hb (byte_eq.1 h))]
        refine ih at_ (i + 1) out (by omega) (by omega) ?_ ho
        have hdl : i - at_ < (l.drop at_).length := by rw [List.length_drop]; omega
        rw [show i + 1 - at_ = (i - at_) + 1 by omega, List.take_add_one, List.getElem?_drop, show at_ + (i - at_) = i by omega, List.getElem?_eq_getElem hlt]
        intro h
        rcases List.mem_append.1 h with h | h
        · exact hc h
        · simp at h
          exact hb h.symm
  have := main l.length 0 0 [] (by omega) (Nat.le_refl _) (by simp) (by simp)
  rw [spec_l01Split.f_eq]
  simpa using this
theorem idx_no {c : UInt8} : ∀ {l : List UInt8}, c ∉ l → Lib.indexByte l c = -1
  | [], _ => rfl
  | b :: l, h => by
    have hb : (b == c) = false := by simp; exact fun e => h (by rw [e]; exact List.mem_cons_self)
    rw [Lib.indexByte, hb, idx_no fun k => h (List.mem_cons_of_mem _ k)]
    rfl
theorem idx_cut {c : UInt8} : ∀ {a b : List UInt8}, c ∉ a → Lib.indexByte (a ++ c :: b) c = (a.length : Int)
  | [], b, _ => by simp [Lib.indexByte]
  | x :: a, b, h => by
    have hb : (x == c) = false := by simp; exact fun e => h (by rw [e]; exact List.mem_cons_self)
    have ih := idx_cut (b := b) (fun k => h (List.mem_cons_of_mem _ k) : c ∉ a)
    rw [List.cons_append, Lib.indexByte, hb, ih]
    have : ((a.length : Int) == -1) = false := by simp
    simp [this]
theorem Index_ (l : List UInt8) (c : UInt8) : strings_Index.f (mk l) ⟨#[c]⟩ = some (Lib.indexByte l c) := by
  have e : stringslite_Index.f (mk l) ⟨#[c]⟩ = some (Lib.indexByte l c) := by
    unfold stringslite_Index.f
    rw [if_pos (show (⟨#[c]⟩ : ByteArray).size = 1 from rfl), mk_list]
    rfl
  rw [strings_Index.f_eq, e]; rfl
theorem Split2 {l : List UInt8} {c : UInt8} (hl : l.length ≤ 1048576) : strings_Split.f (mk l) ⟨#[c]⟩ = some ((Pt c l).map mk) := by
  have main : ∀ (k : Nat) (l : List UInt8) (done : List ByteArray), l.count c = k → l.length + done.length ≤ 4000000 → strings_genSplit.l0 (mk l) ⟨#[c]⟩ 0 ((done.length + k : Nat) : Int) (done.length : Int) (done ++ List.replicate (k + 1) ByteArray.empty) = some (done ++ (Pt c l).map mk) := by
    intro k
    induction k with
    | zero =>
      intro l done hk hl
      have hc : c ∉ l := List.count_eq_zero.1 hk
      have ll : (done ++ List.replicate (0 + 1) ByteArray.empty).length = done.length + 1 := by simp
      have es : (done ++ List.replicate (0 + 1) ByteArray.empty).set done.length (mk l) = done ++ [mk l] := by rw [List.set_append, if_neg (by omega), Nat.sub_self]; rfl
      have l2 : (done ++ [mk l]).length = done.length + 1 := by simp
      have et : (done ++ [mk l]).take (done.length + 1) = done ++ [mk l] := List.take_of_length_le (by rw [l2]; exact Nat.le_refl _)
      rw [strings_genSplit.l0_eq, if_neg (by omega), if_pos (by omega), ll, if_pos (by omega), if_pos (by omega), if_pos (by omega), Int.toNat_natCast, es, l2, if_pos (by omega), wn (j := done.length) (by omega), if_pos (by omega), if_pos (by omega), Int.toNat_natCast, et, Pt_no hc]
      rfl
    | succ k ih =>
      intro l done hk hl
      have hc : c ∈ l := List.count_pos_iff.1 (by omega)
      obtain ⟨a, b, rfl, ha⟩ := List.eq_append_cons_of_mem hc
      have hkb : b.count c = k := by
        rw [List.count_append, List.count_cons_self, List.count_eq_zero.2 ha] at hk
        omega
      have ll : (done ++ List.replicate (k + 1 + 1) ByteArray.empty).length = done.length + (k + 2) := by simp
      have es : (done ++ List.replicate (k + 1 + 1) ByteArray.empty).set done.length (mk a) = (done ++ [mk a]) ++ List.replicate (k + 1) ByteArray.empty := by
        rw [List.set_append, if_neg (by omega), Nat.sub_self, List.replicate_succ, List.set_cons_zero]
        simp
      simp only [List.length_append, List.length_cons] at hl
      have hsz : (mk (a ++ c :: b)).size = a.length + (b.length + 1) := by rw [mk_size]; simp
      have e1 : ((a ++ c :: b).drop 0).take (a.length - 0) = a := by simp
      have e2 : ((a ++ c :: b).drop (a.length + 1)).take (a.length + (b.length + 1) - (a.length + 1)) = b := by
        rw [List.drop_append, List.drop_of_length_le (by omega), List.nil_append, show a.length + 1 - a.length = 1 by omega, List.drop_succ_cons, List.drop_zero, List.take_of_length_le (by omega)]
      have one : (⟨#[c]⟩ : ByteArray).size = 1 := rfl
      have := ih b (done ++ [mk a]) hkb (by simp; omega)
      have l2 : (done ++ [mk a]).length = done.length + 1 := by simp
      rw [l2] at this
      rw [strings_genSplit.l0_eq, if_pos (by omega), Index_, Option.bind_some, idx_cut ha, if_neg (by omega), w64 (x := (a.length : Int) + 0) (by omega) (by omega), one, w64 (x := (a.length : Int) + ((1 : Nat) : Int)) (by omega) (by omega), wn (j := done.length) (by omega), hsz, ll,
        if_pos (by omega), if_pos (by omega), if_pos (by omega), if_pos (by omega), if_pos (by omega), if_pos (by omega), if_pos (by omega), if_pos (by omega), show ((a.length : Int) + 0).toNat = a.length by omega, show ((a.length : Int) + ((1 : Nat) : Int)).toNat = a.length + 1 by omega, Int.toNat_natCast, mk_ext, mk_ext, e1, e2, es,
        show ((done.length + (k + 1) : Nat) : Int) = ((done.length + 1 + k : Nat) : Int) by omega, this, Pt_cut ha, List.map_cons, List.append_assoc]
      rfl
  have hcount : strings_Count.f (mk l) ⟨#[c]⟩ = some ((l.count c : Nat) : Int) := by
    unfold strings_Count.f
    rw [if_pos (show (⟨#[c]⟩ : ByteArray).size = 1 from rfl), mk_list]
    rfl
  have hle : l.count c ≤ l.length := List.count_le_length
  have := main (l.count c) l [] rfl (by simp; omega)
  have hne : ¬ (⟨#[c]⟩ : ByteArray) = ⟨#[]⟩ := fun h => by
    have := congrArg ByteArray.size h
    cases this
  simp only [List.length_nil, List.nil_append, Nat.zero_add, Int.natCast_zero] at this
  rw [strings_Split.f_eq, strings_genSplit.f_eq, if_neg (by omega), if_neg hne, if_pos (by omega), hcount, Option.bind_some, mk_size, w64 (x := ((l.count c : Nat) : Int) + 1) (by omega) (by omega), w64 (x := (l.length : Int) + 1) (by omega) (by omega)]
  have hmin : (if (l.length : Int) + 1 < ((l.count c : Nat) : Int) + 1 then (l.length : Int) + 1 else ((l.count c : Nat) : Int) + 1) = ((l.count c : Nat) : Int) + 1 := by rw [if_neg (by omega)]
  rw [hmin, if_pos rfl, if_pos (by omega), if_pos (by omega), w64 (x := ((l.count c : Nat) : Int) + 1 - 1) (by omega) (by omega), show ((l.count c : Nat) : Int) + 1 - 1 = ((l.count c : Nat) : Int) by omega, show (((l.count c : Nat) : Int) + 1).toNat = l.count c + 1 by omega, this]
  rfl
theorem Cut_no {l : List UInt8} {c : UInt8} (h : c ∉ l) : strings_Cut.f (mk l) ⟨#[c]⟩ = some (mk l, ⟨#[]⟩, false) := by
  have e : stringslite_Index.f (mk l) ⟨#[c]⟩ = some (-1) := by
    unfold stringslite_Index.f
    rw [if_pos (show (⟨#[c]⟩ : ByteArray).size = 1 from rfl), mk_list]
    show some (Lib.indexByte l c) = _
    rw [idx_no h]
  rw [strings_Cut.f_eq, stringslite_Cut.f_eq, e, Option.bind_some, if_neg (by omega)]
  rfl
theorem Cut_at {a b : List UInt8} {c : UInt8} (h : c ∉ a) (hl : (a ++ c :: b).length ≤ 1048576) : strings_Cut.f (mk (a ++ c :: b)) ⟨#[c]⟩ = some (mk a, mk b, true) := by
  have e : stringslite_Index.f (mk (a ++ c :: b)) ⟨#[c]⟩ = some (a.length : Int) := by
    unfold stringslite_Index.f
    rw [if_pos (show (⟨#[c]⟩ : ByteArray).size = 1 from rfl), mk_list]
    show some (Lib.indexByte (a ++ c :: b) c) = _
    rw [idx_cut h]
  simp only [List.length_append, List.length_cons] at hl
  have hsz : (mk (a ++ c :: b)).size = a.length + (b.length + 1) := by rw [mk_size]; simp
  have e1 : ((a ++ c :: b).drop 0).take (a.length - 0) = a := by simp
  have e2 : ((a ++ c :: b).drop (a.length + 1)).take (a.length + (b.length + 1) - (a.length + 1)) = b := by
    rw [List.drop_append, List.drop_of_length_le (by omega), List.nil_append, show a.length + 1 - a.length = 1 by omega, List.drop_succ_cons, List.drop_zero, List.take_of_length_le (by omega)]
  have one : (⟨#[c]⟩ : ByteArray).size = 1 := rfl
  rw [strings_Cut.f_eq, stringslite_Cut.f_eq, e, Option.bind_some, if_pos (by omega), if_pos (by omega), hsz, if_pos (by omega), one, w64 (x := (a.length : Int) + ((1 : Nat) : Int)) (by omega) (by omega), if_pos (by omega), if_pos (by omega), Int.toNat_natCast, show ((a.length : Int) + ((1 : Nat) : Int)).toNat = a.length + 1 by omega, mk_ext, mk_ext, e1, e2]
  rfl
end Go.Proofs.YtacipknfhoadoaaDoor.V
set_option linter.unusedVariables false
set_option linter.unusedSimpArgs false
set_option maxHeartbeats 2000000
set_option maxRecDepth 20000
namespace Go.Proofs.YtacipknfhoadoaaDoor.V
open Go.RowKit Go.Proofs.YtacipknfhoadoaaDoor.D Go.Proofs.YtacipknfhoadoaaDoor.P
theorem num_loop {l : List UInt8} (hl : l.length ≤ 9) : ∀ (k i : Nat) (n : Int), i + k = l.length → 0 ≤ n → n < ((10 ^ i : Nat) : Int) → ∃ r : Option Int,
    impl_number.l0 (mk l) n (l.length : Int) (i : Int) = some (r.getD 0, r.isSome) ∧ spec_l01Number.l0 (mk l) n (i : Int) = some (r.getD (-1)) ∧
    ∀ v, r = some v → (∀ j (h : j < l.length), i ≤ j → 48 ≤ l[j].toNat ∧ l[j].toNat ≤ 57) ∧ n ≤ v ∧ (1 ≤ k → 10 * n ≤ v) ∧ (2 ≤ k → 100 * n ≤ v) ∧ ((h : i < l.length) → 3 ≤ k → l[i].toNat ≠ 48 → 100 ≤ v) := by
  intro k
  induction k with
  | zero =>
    intro i n hi n0 n1
    refine ⟨some n, ?_, ?_, fun v hv => ?_⟩
    · rw [impl_number.l0_eq, if_neg (by omega)]; rfl
    · rw [spec_l01Number.l0_eq, mk_size, if_neg (by omega)]; rfl
    · cases hv
      exact ⟨fun j h hj => by omega, Int.le_refl _, fun h => by omega, fun h => by omega, fun h h3 => by omega⟩
  | succ k ih =>
    intro i n hi n0 n1
    have hlt : i < l.length := by omega
    have hb := mk_byte hlt
    have hp : (10 ^ (i + 1) : Nat) = 10 ^ i * 10 := Nat.pow_succ ..
    have hp9 : (10 ^ i : Nat) ≤ 10 ^ 9 := Nat.pow_le_pow_right (by omega) (by omega)
    have hb8 : l[i].toNat < 256 := l[i].toNat_lt
    by_cases h48 : l[i].toNat < 48
    · refine ⟨none, ?_, ?_, fun v hv => by cases hv⟩
      · rw [impl_number.l0_eq, mk_size, hb, if_pos (by omega), if_pos (by omega), if_pos (by omega), if_pos (by omega)]; rfl
      · rw [spec_l01Number.l0_eq, mk_size, hb, if_pos (by omega), if_pos (by omega), if_pos (by omega), if_pos (by omega)]; rfl
    by_cases h57 : 57 < l[i].toNat
    · refine ⟨none, ?_, ?_, fun v hv => by cases hv⟩
      · rw [impl_number.l0_eq, mk_size, hb, if_pos (by omega), if_pos (by omega), if_pos (by omega), if_neg (by omega), if_pos (by omega), if_pos (by omega), if_pos (by omega)]; rfl
      · rw [spec_l01Number.l0_eq, mk_size, hb, if_pos (by omega), if_pos (by omega), if_pos (by omega), if_neg (by omega), if_pos (by omega), if_pos (by omega), if_pos (by omega)]; rfl
    have e8 : wr .u8 ((l[i].toNat : Int) - 48) = (l[i].toNat : Int) - 48 := wr8 (by omega) (by omega)
    have ed : wrapI ((l[i].toNat : Int) - 48) = (l[i].toNat : Int) - 48 := w64 (by omega) (by omega)
    have en : wrapI (n * 10) = n * 10 := w64 (by omega) (by omega)
    have es : wrapI (n * 10 + ((l[i].toNat : Int) - 48)) = n * 10 + ((l[i].toNat : Int) - 48) := w64 (by omega) (by omega)
    obtain ⟨r, r1, r2, r3⟩ := ih (i + 1) (n * 10 + ((l[i].toNat : Int) - 48)) (by omega) (by omega) (by omega)
    refine ⟨r, ?_, ?_, fun v hv => ?_⟩
    · rw [impl_number.l0_eq, mk_size, hb, if_pos (by omega), if_pos (by omega), if_pos (by omega), if_neg (by omega), if_pos (by omega), if_pos (by omega), if_neg (by omega), if_pos (by omega), if_pos (by omega), e8, ed, en, es, wn (j := i) (by omega)]
      exact r1
    · rw [spec_l01Number.l0_eq, mk_size, hb, if_pos (by omega), if_pos (by omega), if_pos (by omega), if_neg (by omega), if_pos (by omega), if_pos (by omega), if_neg (by omega), if_pos (by omega), if_pos (by omega), e8, ed, en, es, wn (j := i) (by omega)]
      exact r2
    · obtain ⟨q1, q2, q3, q4, _⟩ := r3 v hv
      refine ⟨fun j h hj => ?_, by omega, fun _ => by omega, fun h => ?_, fun h h3 hne => ?_⟩
      · rcases Nat.eq_or_lt_of_le hj with e | e
        · subst e; omega
        · exact q1 j h (by omega)
      · have := q3 (by omega); omega
      · have := q4 (by omega); omega
theorem number {l : List UInt8} (hl : l.length ≤ 1048576) : ∃ r : Option Int, impl_number.f (mk l) = some (r.getD 0, r.isSome) ∧ spec_l01Number.f (mk l) = some (r.getD (-1)) ∧ ∀ v, r = some v → (∀ x ∈ l, 48 ≤ x.toNat ∧ x.toNat ≤ 57) ∧ (v < 100 → l.length ≤ 2) := by
  cases l with
  | nil => exact ⟨none, by rw [impl_number.f_eq, mk_nil, if_pos rfl]; rfl, by rw [spec_l01Number.f_eq, mk_size, if_pos (by simp)]; rfl, fun v hv => by cases hv⟩
  | cons b t =>
    have hne : ¬ mk (b :: t) = (⟨#[]⟩ : ByteArray) := fun h => by
      have := mk_inj (h.trans mk_nil.symm)
      cases this
    have hL : (b :: t).length = t.length + 1 := rfl
    by_cases h9 : 9 < (b :: t).length
    · refine ⟨none, ?_, ?_, fun v hv => by cases hv⟩
      · rw [impl_number.f_eq, if_neg hne, mk_size, if_pos (by omega)]; rfl
      · rw [spec_l01Number.f_eq, mk_size, if_neg (by omega), if_pos (by omega)]; rfl
    have hb : byteAt (mk (b :: t)) 0 = (b.toNat : Int) := mk_byte (l := b :: t) (i := 0) (by omega)
    by_cases h0 : b.toNat = 48 ∧ 1 < (b :: t).length
    · refine ⟨none, ?_, ?_, fun v hv => by cases hv⟩
      · rw [impl_number.f_eq, if_neg hne, mk_size, hb, if_neg (by omega), if_pos (by omega), if_pos (by omega), if_pos (by omega)]; rfl
      · rw [spec_l01Number.f_eq, mk_size, hb, if_neg (by omega), if_neg (by omega), if_pos (by omega), if_pos (by omega), if_pos (by omega)]; rfl
    obtain ⟨r, r1, r2, r3⟩ := num_loop (l := b :: t) (by omega) (b :: t).length 0 0 (by omega) (by omega) (by simp)
    refine ⟨r, ?_, ?_, fun v hv => ?_⟩
    · rw [impl_number.f_eq, if_neg hne, mk_size, hb, if_neg (by omega), if_pos (by omega)]
      by_cases h48 : (b.toNat : Int) = 48
      · rw [if_pos h48, if_neg (by omega)]; exact r1
      · rw [if_neg h48]; exact r1
    · rw [spec_l01Number.f_eq, mk_size, hb, if_neg (by omega), if_neg (by omega)]
      by_cases h1 : (((b :: t).length : Nat) : Int) > 1
      · rw [if_pos h1, if_pos (by omega), if_neg (by omega)]; exact r2
      · rw [if_neg h1]; exact r2
    · obtain ⟨q1, _, _, _, q5⟩ := r3 v hv
      refine ⟨fun x hx => ?_, fun hv100 => ?_⟩
      · obtain ⟨j, hj, rfl⟩ := List.getElem_of_mem hx
        exact q1 j hj (Nat.zero_le _)
      · by_cases h3 : 3 ≤ (b :: t).length
        · have := q5 (by omega) h3 (fun e => h0 ⟨e, by omega⟩)
          omega
        · omega
noncomputable def Nm (l : List UInt8) : Option Int := if h : l.length ≤ 1048576 then Classical.choose (number h) else none
theorem Nm_ {l : List UInt8} (hl : l.length ≤ 1048576) : impl_number.f (mk l) = some ((Nm l).getD 0, (Nm l).isSome) ∧ spec_l01Number.f (mk l) = some ((Nm l).getD (-1)) ∧ ∀ v, Nm l = some v → (∀ x ∈ l, 48 ≤ x.toNat ∧ x.toNat ≤ 57) ∧ (v < 100 → l.length ≤ 2) := by
  unfold Nm
  rw [dif_pos hl]
  exact Classical.choose_spec (number hl)
noncomputable def vals (ps : List (List UInt8)) : List Int := ps.map fun p => (Nm p).getD (-1)
theorem rdS {ps : List (List UInt8)} {i : Nat} (h : i < ps.length) : Ty.rd .str (ps.map mk) (i : Int) = mk ps[i] := by
  show (ps.map mk).getD ((i : Int)).toNat _ = _
  simp [List.getD_eq_getElem?_getD, List.getElem?_eq_getElem h]
theorem headed_loop (head : Int) {ps : List (List UInt8)} (hn : ps.length ≤ 2000000) (hp : ∀ p ∈ ps, p.length ≤ 1048576) : ∀ (k i : Nat), i + k = ps.length →
    ((∀ p ∈ ps.drop i, (Nm p).isSome = true) → impl_headed.l0 head (ps.length : Int) (i : Int) (vals (ps.take i)) (ps.map mk) = some (head, vals ps, true)) ∧
    ((¬ ∀ p ∈ ps.drop i, (Nm p).isSome = true) → impl_headed.l0 head (ps.length : Int) (i : Int) (vals (ps.take i)) (ps.map mk) = some (0, [], false)) := by
  intro k
  induction k with
  | zero =>
    intro i hi
    obtain rfl : i = ps.length := by omega
    refine ⟨fun _ => ?_, fun h => (h (by simp)).elim⟩
    rw [impl_headed.l0_eq, if_neg (by omega), List.take_length]
  | succ k ih =>
    intro i hi
    have hlt : i < ps.length := by omega
    obtain ⟨n1, n2, n3⟩ := Nm_ (hp _ (List.getElem_mem hlt))
    have ll : (ps.map mk).length = ps.length := List.length_map ..
    have lv : (vals (ps.take i)).length = i := by unfold vals; rw [List.length_map, List.length_take]; omega
    have l3 : ∀ y : Int, ([y] : List Int).length = 1 := fun _ => rfl
    have hd : ps.drop i = ps[i] :: ps.drop (i + 1) := List.drop_eq_getElem_cons hlt
    have ht : vals (ps.take (i + 1)) = vals (ps.take i) ++ [(Nm ps[i]).getD (-1)] := by
      unfold vals
      rw [List.take_add_one, List.getElem?_eq_getElem hlt, List.map_append]
      rfl
    obtain ⟨i1, i2⟩ := ih (i + 1) (by omega)
    rw [impl_headed.l0_eq, ll, rdS hlt, n1, Option.bind_some, if_pos (by omega), if_pos (by omega), if_pos (by omega), if_pos (by omega), if_pos (by omega)]
    cases hN : Nm ps[i] with
    | none =>
      refine ⟨fun h => ?_, fun _ => ?_⟩
      · have := h ps[i] (by rw [hd]; exact List.mem_cons_self)
        rw [hN] at this
        cases this
      · rw [if_neg (by simp)]
    | some v =>
      rw [hN] at ht
      rw [if_pos (by rfl), lv, l3, if_pos (by omega), wn (j := i) (by omega)]
      have et : vals (ps.take i) ++ [((some v : Option Int).getD 0, (some v : Option Int).isSome).1] = vals (ps.take (i + 1)) := by rw [ht]; rfl
      rw [et]
      refine ⟨fun h => i1 fun p hp' => h p (by rw [hd]; exact List.mem_cons_of_mem _ hp'), fun h => i2 fun h2 => h fun p hp' => ?_⟩
      rw [hd] at hp'
      rcases List.mem_cons.1 hp' with rfl | hp'
      · rw [hN]; rfl
      · exact h2 p hp'
theorem Pt_all {c : UInt8} {l : List UInt8} (hl : l.length ≤ 1048576) : (Pt c l).length ≤ 2000000 ∧ ∀ p ∈ Pt c l, p.length ≤ 1048576 := by
  refine ⟨by have := Pt_count c l.length l rfl; omega, ?_⟩
  have main : ∀ n : Nat, ∀ l : List UInt8, l.length = n → ∀ p ∈ Pt c l, p.length ≤ l.length := by
    intro n
    induction n using Nat.strongRecOn with
    | ind n ih =>
      intro l hl p hp
      by_cases hc : c ∈ l
      · obtain ⟨a, b, rfl, ha⟩ := List.eq_append_cons_of_mem hc
        rw [Pt_cut ha] at hp
        simp only [List.length_append, List.length_cons] at hl ⊢
        rcases List.mem_cons.1 hp with rfl | hp
        · omega
        · have := ih b.length (by omega) b rfl p hp
          omega
      · rw [Pt_no hc] at hp
        rw [List.mem_singleton.1 hp]
        exact Nat.le_refl _
  intro p hp
  have := main l.length l rfl p hp
  omega
def Ps (b : List UInt8) : List (List UInt8) := if b = [] then [] else Pt 44 b
theorem Ps_all {b : List UInt8} (hl : b.length ≤ 1048576) : (Ps b).length ≤ 2000000 ∧ ∀ p ∈ Ps b, p.length ≤ 1048576 := by
  unfold Ps
  split
  · exact ⟨by simp, by simp⟩
  · exact Pt_all hl
theorem headed_at {a b : List UInt8} (ha : (58 : UInt8) ∉ a) (hl : (a ++ 58 :: b).length ≤ 1048576) :
    ((Nm a).isSome = true ∧ b.length ≤ 1029 ∧ (∀ p ∈ Ps b, (Nm p).isSome = true) → impl_headed.f (mk (a ++ 58 :: b)) = some ((Nm a).getD (-1), vals (Ps b), true)) ∧
    (¬ ((Nm a).isSome = true ∧ b.length ≤ 1029 ∧ ∀ p ∈ Ps b, (Nm p).isSome = true) → ∃ x y, impl_headed.f (mk (a ++ 58 :: b)) = some (x, y, false)) := by
  have hl' := hl
  simp only [List.length_append, List.length_cons] at hl'
  obtain ⟨n1, n2, n3⟩ := Nm_ (l := a) (by omega)
  have hC := Cut_at ha hl
  have hS := Split2 (l := b) (c := 44) (by omega)
  obtain ⟨p1, p2⟩ := Pt_all (c := 44) (l := b) (by omega)
  rw [impl_headed.f_eq, hC, Option.bind_some, n1, Option.bind_some, if_pos rfl, mk_size]
  cases hN : Nm a with
  | none => exact ⟨fun h => (by cases h.1), fun _ => ⟨0, [], by rw [if_neg (by simp)]⟩⟩
  | some v =>
    rw [if_pos (by rfl)]
    by_cases h9 : b.length ≤ 1029
    rotate_left
    · exact ⟨fun h => (h9 h.2.1).elim, fun _ => ⟨0, [], by rw [if_pos (by omega)]⟩⟩
    rw [if_neg (by omega)]
    by_cases hb : b = []
    · subst hb
      refine ⟨fun _ => ?_, fun h => (h ⟨rfl, h9, by simp [Ps]⟩).elim⟩
      rw [if_pos mk_nil]
      rfl
    · have hne : ¬ mk b = (⟨#[]⟩ : ByteArray) := fun h => hb (mk_inj (h.trans mk_nil.symm))
      have ep : Ps b = Pt 44 b := if_neg hb
      rw [ep, if_neg hne, hS, Option.bind_some, List.length_map]
      obtain ⟨i1, i2⟩ := headed_loop v p1 p2 (Pt 44 b).length 0 (by omega)
      exact ⟨fun h => i1 h.2.2, fun h => ⟨0, [], i2 fun h2 => h ⟨rfl, h9, h2⟩⟩⟩
theorem Read_at {g : List (List Int)} {m : Int} {u : List Int} {a b : List UInt8} (hg : Grp g) (hm : Mdl g m u) (ha : (58 : UInt8) ∉ a) (hb58 : (58 : UInt8) ∉ b) (hl : (a ++ 58 :: b).length ≤ 1048576) :
    (Co g m ((Nm a).getD (-1)) (vals (Ps b)) → spec_l03Read.f g m u (mk (a ++ 58 :: b)) = some ((Nm a).getD (-1), vals (Ps b), true)) ∧
    (¬ Co g m ((Nm a).getD (-1)) (vals (Ps b)) → ∃ x y, spec_l03Read.f g m u (mk (a ++ 58 :: b)) = some (x, y, false)) := by
  have hl' := hl
  simp only [List.length_append, List.length_cons] at hl'
  obtain ⟨n1, n2, n3⟩ := Nm_ (l := a) (by omega)
  have hS := Split_ (c := 58) hl
  have hS2 := Split_ (l := b) (c := 44) (by omega)
  obtain ⟨p1, p2⟩ := Pt_all (c := 44) (l := b) (by omega)
  obtain ⟨p3, p4⟩ := Ps_all (b := b) (by omega)
  have lv : (vals (Ps b)).length ≤ maxLen := by unfold vals; rw [List.length_map]; exact le_maxLen (by omega)
  have hIs := Is03 hg hm ((Nm a).getD (-1)) (vals (Ps b)) lv
  rw [Pt_cut ha, Pt_no hb58] at hS
  have fin : (Co g m ((Nm a).getD (-1)) (vals (Ps b)) → spec_l03Read.j0 g m u 0 ((Nm a).getD (-1)) (vals (Ps b)) = some ((Nm a).getD (-1), vals (Ps b), true)) ∧
      (¬ Co g m ((Nm a).getD (-1)) (vals (Ps b)) → ∃ x y, spec_l03Read.j0 g m u 0 ((Nm a).getD (-1)) (vals (Ps b)) = some (x, y, false)) := by
    refine ⟨fun h => ?_, fun h => ⟨0, [], ?_⟩⟩
    · rw [spec_l03Read.j0_eq, hIs, B_pos h, Option.bind_some, if_pos rfl]
    · rw [spec_l03Read.j0_eq, hIs, B_neg h, Option.bind_some, if_neg (by decide)]
  have e0 : Ty.rd .str ([a, b].map mk) 0 = mk a := rfl
  have e1 : Ty.rd .str ([a, b].map mk) 1 = mk b := rfl
  have l2 : (([a, b].map mk).length : Int) = 2 := rfl
  have c58 : ((58 : UInt8).toNat : Int) = 58 := rfl
  have c44 : ((44 : UInt8).toNat : Int) = 44 := rfl
  rw [c58] at hS
  rw [c44] at hS2
  rw [spec_l03Read.f_eq, hS, Option.bind_some, l2, e0, e1, n2, Option.bind_some, if_pos rfl, if_pos (by omega), if_pos (by omega), if_pos (by omega), if_pos (by omega)]
  by_cases hb : b = []
  · subst hb
    rw [if_pos mk_nil]
    exact fin
  · have hne : ¬ mk b = (⟨#[]⟩ : ByteArray) := fun h => hb (mk_inj (h.trans mk_nil.symm))
    have ep : Ps b = Pt 44 b := if_neg hb
    rw [if_neg hne, if_pos (by omega), if_pos (by omega), hS2, Option.bind_some]
    have := up (Pt 44 b).length (fun i => spec_l03Read.l1 (i : Int) g m u 0 ((Nm a).getD (-1)) ((Pt 44 b).map mk) (vals ((Pt 44 b).take i))) (fun i hlt => by
      obtain ⟨q1, q2, q3⟩ := Nm_ (p2 _ (List.getElem_mem hlt))
      have ll : ((Pt 44 b).map mk).length = (Pt 44 b).length := List.length_map ..
      have lv : (vals ((Pt 44 b).take i)).length = i := by unfold vals; rw [List.length_map, List.length_take]; omega
      have l3 : ∀ y : Int, ([y] : List Int).length = 1 := fun _ => rfl
      have ht : vals ((Pt 44 b).take (i + 1)) = vals ((Pt 44 b).take i) ++ [(Nm (Pt 44 b)[i]).getD (-1)] := by
        unfold vals
        rw [List.take_add_one, List.getElem?_eq_getElem hlt, List.map_append]
        rfl
      rw [ht, spec_l03Read.l1_eq, ll, rdS hlt, q2, Option.bind_some, if_pos (by omega), if_pos (by omega), if_pos (by omega), if_pos (by omega), if_pos (by omega), lv, l3, if_pos (by omega), wn (j := i) (by omega)])
    simp only [Int.natCast_zero, List.take_zero, List.take_length] at this
    have e0 : vals [] = [] := rfl
    rw [e0] at this
    rw [this, spec_l03Read.l1_eq, List.length_map, if_neg (by omega), ← ep]
    exact fin
theorem md_codes (g : List (List Int)) (hl : g.length ≤ maxLen) (hr : ∀ r ∈ g, r.length ≤ maxLen) (m : Int) (u : List Int) (hu : u.length ≤ maxLen) :
    (Grp g ∧ Mdl g m u ∧ impl_moduleCode.f g [(m, u)] = some 0 ∧ spec_l03Code.f g m u [] = some 0) ∨
    (impl_moduleCode.f g [(m, u)] = some 1 ∧ spec_l03Code.f g m u [] = some 1) := by
  have hA := moduleCode1 g hl hr m u hu
  have hS := Is_ g
  have stS : spec_l03Code.l0 [] 0 g m u = some 0 := by rw [spec_l03Code.l0_eq]; exact if_neg (by simp)
  by_cases h : GM g m u
  · have hM := Is02 h.1 m u hu
    rw [ite_pos h] at hA
    rw [B_pos h.2] at hM
    rw [B_pos h.1] at hS
    refine .inl ⟨h.1, h.2, hA, ?_⟩
    rw [spec_l03Code.f_eq, hS, Option.bind_some, if_pos rfl, hM, Option.bind_some, if_pos rfl, stS]
  · rw [ite_neg h] at hA
    refine .inr ⟨hA, ?_⟩
    by_cases h1 : Grp g
    · have hM := Is02 h1 m u hu
      rw [B_neg fun k => h ⟨h1, k⟩] at hM
      rw [B_pos h1] at hS
      rw [spec_l03Code.f_eq, hS, Option.bind_some, if_pos rfl, hM, Option.bind_some, if_neg (by decide)]
    · rw [B_neg h1] at hS
      rw [spec_l03Code.f_eq, hS, Option.bind_some, if_neg (by decide)]
end Go.Proofs.YtacipknfhoadoaaDoor.V
set_option linter.unusedVariables false
set_option linter.unusedSimpArgs false
set_option maxHeartbeats 2000000
set_option maxRecDepth 20000
namespace Go.Proofs.YtacipknfhoadoaaDoor.V
open Go.RowKit Go.Proofs.YtacipknfhoadoaaDoor.D Go.Proofs.YtacipknfhoadoaaDoor.P
theorem cells343 : ∀ n : Nat, n ≤ 7 → ∀ i : Nat, i ≤ 3 → n ^ i ≤ 343 := by decide
theorem cells_343 {g : List (List Int)} (hg : Grp g) {d : Int} (d0 : 0 ≤ d) (d1 : d ≤ 3) : cells g d ≤ 343 := by
  have n8 := hg.n8; have n1 := hg.n1
  obtain ⟨k, hk⟩ : ∃ k : Nat, (g.length : Int) - 1 = (k : Int) := ⟨g.length - 1, by omega⟩
  have := cells343 k (by omega) d.toNat (by omega)
  unfold cells
  rw [hk, ← Int.natCast_pow]
  omega
theorem same_ParseCochain (g : List (List Int)) (m : Int) (u : List Int) (s : ByteArray) (hl : g.length ≤ maxLen) (hr : ∀ r ∈ g, r.length ≤ maxLen) (hu : u.length ≤ maxLen) (hs : s.size ≤ 1048576) :
    ∃ (d : Int) (v : List Int) (c : Int), spec_ParseCochain.f g m u s = some (d, v, c) ∧ impl_ParseCochain.f g m u s = some (d, v, c) ∧ v.length ≤ 1048576 := by
  rcases md_codes g hl hr m u hu with ⟨hg, hm, cI, cS⟩ | ⟨cI, cS⟩
  rotate_left
  · refine ⟨0, [], 1, ?_, ?_, by simp⟩
    · rw [spec_ParseCochain.f_eq]
      ((with_reducible repeat (first | refine go_pos (by first | assumption | omega | rfl | exact B_pos (by omega)) ?_ | refine go_neg (by first | assumption | omega | decide | exact B_not (by omega)) ?_ | refine go_bind (by first | assumption) ?_ | dsimp only)); first | done | (with_reducible rfl) | simp (disch := omega) only [w64] | (show False; done))
    · rw [impl_ParseCochain.f_eq]
      ((with_reducible repeat (first | refine go_pos (by first | assumption | omega | rfl | exact B_pos (by omega)) ?_ | refine go_neg (by first | assumption | omega | decide | exact B_not (by omega)) ?_ | refine go_bind (by first | assumption) ?_ | dsimp only)); first | done | (with_reducible rfl) | simp (disch := omega) only [w64] | (show False; done))
  have m2 := hm.m2; have m12 := hm.m12
  rw [spec_ParseCochain.f_eq, impl_ParseCochain.f_eq, cI, cS, Option.bind_some, Option.bind_some, if_pos rfl, if_pos rfl]
  have fail : (∃ x y, spec_l03Read.f g m u s = some (x, y, false)) → (∃ x y b, impl_headed.f s = some (x, y, b) ∧ (b = true → impl_isCochain.f g m u x y = some false)) →
      ∃ (d : Int) (v : List Int) (c : Int), (spec_l03Read.f g m u s).bind (fun t22 => if t22.2.2 = true then (some (t22.1, t22.2.1, 0)) else (some (0, ([] : List Int), 6))) = some (d, v, c) ∧
        (impl_headed.f s).bind (fun t23 => if t23.2.2 = true then ((impl_isCochain.f g m u t23.1 t23.2.1).bind fun t36 => if t36 = true then (some (t23.1, t23.2.1, 0)) else (some (0, ([] : List Int), 6))) else (some (0, ([] : List Int), 6))) = some (d, v, c) ∧ v.length ≤ 1048576 := by
    rintro ⟨x, y, h1⟩ ⟨x', y', b, h2, h3⟩
    refine ⟨0, [], 6, ?_, ?_, by simp⟩
    · rw [h1]; rfl
    · rw [h2, Option.bind_some]
      cases b with
      | false => rfl
      | true =>
        have := h3 rfl
        rw [if_pos rfl, this]
        rfl
  obtain ⟨l, rfl⟩ : ∃ l, s = mk l := ⟨s.data.toList, (mk_of s).symm⟩
  rw [mk_size] at hs
  have c58 : ((58 : UInt8).toNat : Int) = 58 := rfl
  by_cases h58 : (58 : UInt8) ∈ l
  rotate_left
  · refine fail ⟨0, [], ?_⟩ ⟨0, [], false, ?_, fun h => by cases h⟩
    · have := Split_ (c := 58) hs
      rw [c58, Pt_no h58] at this
      rw [spec_l03Read.f_eq, this, Option.bind_some, if_neg (by simp)]
    · obtain ⟨n1, _, _⟩ := Nm_ hs
      rw [impl_headed.f_eq, Cut_no h58, Option.bind_some, n1, Option.bind_some, if_neg (by simp)]
  obtain ⟨a, b, rfl, ha⟩ := List.eq_append_cons_of_mem h58
  have hs' := hs
  simp only [List.length_append, List.length_cons] at hs'
  obtain ⟨i1, i2⟩ := headed_at ha hs
  obtain ⟨p3, p4⟩ := Ps_all (b := b) (by omega)
  have lv : (vals (Ps b)).length = (Ps b).length := by unfold vals; rw [List.length_map]
  by_cases hb : (58 : UInt8) ∈ b
  · refine fail ⟨0, [], ?_⟩ ?_
    · have := Split_ (c := 58) hs
      obtain ⟨b1, b2, rfl, hb1⟩ := List.eq_append_cons_of_mem hb
      rw [c58, Pt_cut ha, Pt_cut hb1] at this
      have hne : ¬ (((a :: b1 :: Pt 58 b2).map mk).length : Int) = 2 := by
        have : ∀ l : List UInt8, 1 ≤ (Pt 58 l).length := by
          intro l
          by_cases h : (58 : UInt8) ∈ l
          · obtain ⟨x, y, rfl, hx⟩ := List.eq_append_cons_of_mem h
            rw [Pt_cut hx]; simp
          · rw [Pt_no h]; simp
        have := this b2
        simp only [List.length_map, List.length_cons]
        omega
      rw [spec_l03Read.f_eq, this, Option.bind_some, if_neg hne]
    · obtain ⟨x, y, h⟩ := i2 fun ⟨_, _, h3⟩ => by
        have hne : ¬ b = [] := fun e => by rw [e] at hb; cases hb
        have ep : Ps b = Pt 44 b := if_neg hne
        rcases Pt_mem 44 b.length b rfl 58 hb with h | ⟨p, hp, h⟩
        · revert h; decide
        · have hp' := ep ▸ hp
          obtain ⟨_, _, n3⟩ := Nm_ (p4 p hp')
          obtain ⟨v, hv⟩ := Option.isSome_iff_exists.1 (h3 p hp')
          have := ((n3 v hv).1 58 h).2
          revert this; decide
      exact ⟨x, y, false, h, fun h => by cases h⟩
  obtain ⟨r1, r2⟩ := Read_at hg hm ha hb hs
  by_cases hc : Co g m ((Nm a).getD (-1)) (vals (Ps b))
  · have c1 := hc.1
    have hN : (Nm a).isSome = true := by
      cases h : Nm a with
      | none => rw [h] at c1; simp at c1
      | some v => rfl
    have hall : ∀ p ∈ Ps b, ∃ v, Nm p = some v ∧ v < 100 := fun p hp => by
      have := hc.2.2.mem (x := (Nm p).getD (-1)) (List.mem_map.2 ⟨p, hp, rfl⟩)
      cases h : Nm p with
      | none => rw [h] at this; simp at this
      | some v => rw [h] at this; exact ⟨v, rfl, by simp at this; omega⟩
    have hlen : b.length ≤ 1029 := by
      by_cases hne : b = []
      · rw [hne]; simp
      · have ep : Ps b = Pt 44 b := if_neg hne
        have := Pt_len 44 b.length b rfl fun p hp => by
          have hp' : p ∈ Ps b := ep ▸ hp
          obtain ⟨v, hv, h100⟩ := hall p hp'
          obtain ⟨_, _, n3⟩ := Nm_ (p4 p hp')
          exact (n3 v hv).2 h100
        have c2 := hc.2.1
        have c3 := cells_343 hg c1.1 c1.2
        rw [lv, ep] at c2
        omega
    have hI := i1 ⟨hN, hlen, fun p hp => by obtain ⟨v, hv, _⟩ := hall p hp; rw [hv]; rfl⟩
    have hC := isCochain hg m u ((Nm a).getD (-1)) (vals (Ps b)) (le_maxLen (by omega))
    rw [B_pos hc] at hC
    have c2 := hc.2.1
    have c3 := cells_343 hg c1.1 c1.2
    refine ⟨(Nm a).getD (-1), vals (Ps b), 0, by rw [r1 hc]; rfl, ?_, by omega⟩
    rw [hI, Option.bind_some, if_pos rfl, hC]
    rfl
  · refine fail (r2 hc) ?_
    by_cases hI : (Nm a).isSome = true ∧ b.length ≤ 1029 ∧ ∀ p ∈ Ps b, (Nm p).isSome = true
    · have hC := isCochain hg m u ((Nm a).getD (-1)) (vals (Ps b)) (le_maxLen (by omega))
      rw [B_neg hc] at hC
      exact ⟨_, _, true, i1 hI, fun _ => hC⟩
    · obtain ⟨x, y, h⟩ := i2 hI
      exact ⟨x, y, false, h, fun h => by cases h⟩
end Go.Proofs.YtacipknfhoadoaaDoor.V
set_option linter.unusedVariables false
set_option linter.unusedSimpArgs false
set_option maxHeartbeats 4000000
set_option maxRecDepth 20000
namespace Go.Proofs.YtacipknfhoadoaaDoor.Pure
open Go.RowKit Go.Proofs.YtacipknfhoadoaaDoor.D Go.Proofs.YtacipknfhoadoaaDoor.P Go.Proofs.YtacipknfhoadoaaDoor.V
theorem FnExactParseCochain_pure : ∀ (g0 : List (List Int)) (m1 : Int) (u1 : List Int) (u2 : ByteArray), g0.length ≤ maxLen → (∀ r ∈ g0, r.length ≤ maxLen ∧ ∀ x ∈ r, (Lit.int .i64 x).wf = true) → (Lit.int .i64 m1).wf = true → u1.length ≤ maxLen → (∀ x ∈ u1, (Lit.int .i64 x).wf = true) → u2.size ≤ maxLen → laws_FnExactParseCochain.f g0 m1 u1 u2 = some true := by
  intro g0 m1 u1 u2 hl0 hq0 hw1 hu1 hx1 hu2
  have hr0 : ∀ r ∈ g0, r.length ≤ maxLen := fun r h => (hq0 r h).1
  rw [laws_FnExactParseCochain.f_eq]
  by_cases ku2 : u2.size ≤ 1048576
  rotate_left
  · ((with_reducible repeat (first | refine go_pos (by first | assumption | omega | rfl | exact B_pos (by omega)) ?_ | refine go_neg (by first | assumption | omega | decide | exact B_not (by omega)) ?_ | refine go_bind (by first | assumption) ?_ | dsimp only)); first | done | (with_reducible rfl) | simp (disch := omega) only [w64] | (show False; done))
  obtain ⟨t0, e0, z0⟩ := szGroup g0 1048576 hl0 hr0 (by omega) (by omega)
  rcases z0 with z0 | ⟨ta0, tb0, kl0, kr0⟩
  · ((with_reducible repeat (first | refine go_pos (by first | assumption | omega | rfl | exact B_pos (by omega)) ?_ | refine go_neg (by first | assumption | omega | decide | exact B_not (by omega)) ?_ | refine go_bind (by first | assumption) ?_ | dsimp only)); first | done | (with_reducible rfl) | simp (disch := omega) only [w64] | (show False; done))
  obtain ⟨t1, e1, z1⟩ := szModule m1 u1 t0 hu1 (by omega) (by omega)
  rcases z1 with z1 | ⟨ta1, tb1, ku1⟩
  · ((with_reducible repeat (first | refine go_pos (by first | assumption | omega | rfl | exact B_pos (by omega)) ?_ | refine go_neg (by first | assumption | omega | decide | exact B_not (by omega)) ?_ | refine go_bind (by first | assumption) ?_ | dsimp only)); first | done | (with_reducible rfl) | simp (disch := omega) only [w64] | (show False; done))
  obtain ⟨c0, R0, c1, hS, hI, rb0⟩ := same_ParseCochain g0 m1 u1 u2 hl0 hr0 hu1 ku2
  have eT0 := toGroup g0 kl0 kr0
  have eS0 := same_Group g0 hl0 hr0
  have eN0 := tot_small kl0 kr0
  have eK0 := markGroup g0 (1) (by omega) (by omega) (by omega)
  have eT1 := toModule m1 u1 ku1
  have eS1 := same_Module m1 u1 hu1
  have eK1 := markModule m1 u1 (1 + tot g0) (by omega) (by omega)
  have rS0 := same_Cochain c0 R0 (le_maxLen (by omega))
  have rK0 := markCochain c0 R0 (1) (by omega) (by omega)
  have rH0 := heldCochain c0 (1) R0.length (by omega) (by omega)
  ((with_reducible repeat (first | refine go_pos (by first | assumption | omega | rfl | exact B_pos (by omega)) ?_ | refine go_neg (by first | assumption | omega | decide | exact B_not (by omega)) ?_ | refine go_bind (by first | assumption) ?_ | dsimp only)); first | done | (with_reducible rfl) | simp (disch := omega) only [w64] | (show False; done))
end Go.Proofs.YtacipknfhoadoaaDoor.Pure
namespace Go.Proofs.YtacipknfhoadoaaDoor.shut
theorem mayEnter : Tryd.pinned.checked.prog.mayEnter = true := by kernel_rfl
theorem lifted : (Rows.fnExactCochainTextRow.lifted == Tryd.pinned.checked.prog.liftsFinal) = true := by kernel_rfl
theorem make : (Tryd.pinned.checked.prog.make == some Rows.fnExactCochainTextRow.make) = true := by kernel_rfl
end Go.Proofs.YtacipknfhoadoaaDoor.shut
