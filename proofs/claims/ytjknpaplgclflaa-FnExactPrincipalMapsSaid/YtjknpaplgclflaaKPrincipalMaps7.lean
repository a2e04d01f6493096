/- What the proof of the law PrincipalMaps stands on, part 7: words, each Go function's Lean function, and that the Go code comes to its answers; no condition. (Packed by wip/myprint/pack.py out of what the kit's printer wrote, its words among it, partly by our patches of it, and out of texts of this session.) -/
import Derived.Test.YtjknpaplgclflaaRows
import Derived.WalkKit
import Derived.ProofKit
import Derived.KernelRfl
import Derived.Test.YtjknpaplgclflaaKPrincipalMaps3
import Derived.Test.YtjknpaplgclflaaKPrincipalMaps4
import Derived.Test.YtjknpaplgclflaaKPrincipalMaps6
set_option linter.unusedVariables false
set_option linter.unusedSimpArgs false
set_option maxHeartbeats 2000000
set_option maxRecDepth 20000
namespace Go.Proofs.Ytjknpaplgclflaa.V
open Go.RowKit Go.Proofs.Ytjknpaplgclflaa.D Go.Proofs.Ytjknpaplgclflaa.P
theorem copy_step {α : Type} (xs : List α) (d : α) (m : Nat) (hm : m < xs.length) :
    (xs.take m ++ List.replicate (xs.length - m) d).set m xs[m] = xs.take (m + 1) ++ List.replicate (xs.length - (m + 1)) d := by
  have h1 : (xs.take m).length = m := by rw [List.length_take]; omega
  rw [List.set_append, if_neg (by omega), h1, Nat.sub_self]
  rw [show xs.length - m = (xs.length - (m + 1)) + 1 by omega, List.replicate_succ, List.set_cons_zero]
  rw [List.take_succ_eq_append_getElem hm, List.append_assoc]; rfl
theorem copy_len {α : Type} (xs : List α) (d : α) (m : Nat) (hm : m ≤ xs.length) : (xs.take m ++ List.replicate (xs.length - m) d).length = xs.length := by
  rw [List.length_append, List.length_take, List.length_replicate]; omega
theorem toInt64S (xs : List Int) (hl : xs.length ≤ 1048576) : laws_toInt64S.f xs = some xs := by
  rw [laws_toInt64S.f_eq, Int.toNat_natCast]
  (with_reducible repeat (first | refine go_pos (by first | assumption | omega | rfl | exact B_pos (by omega)) ?_ | refine go_neg (by first | assumption | omega | decide | exact B_not (by omega)) ?_ | refine go_bind (by first | assumption) ?_ | dsimp only))
  have := up xs.length (fun m => laws_toInt64S.l0 xs (m : Int) (xs.take m ++ List.replicate (xs.length - m) 0)) (fun m hm => by
    have hw : wrapI ((m : Int) + 1) = ((m + 1 : Nat) : Int) := by rw [w64 (by omega) (by omega)]; omega
    have l1 := copy_len xs (0 : Int) m (by omega)
    rw [← copy_step xs 0 m hm, laws_toInt64S.l0_eq, hw, Int.toNat_natCast, rd_get hm]
    ((with_reducible repeat (first | refine go_pos (by first | assumption | omega | rfl | exact B_pos (by omega)) ?_ | refine go_neg (by first | assumption | omega | decide | exact B_not (by omega)) ?_ | refine go_bind (by first | assumption) ?_ | dsimp only)); first | done | (with_reducible rfl) | simp (disch := omega) only [w64] | (show False; done)))
  simp only [List.take_zero, List.nil_append, Nat.sub_zero, List.take_length, Nat.sub_self, List.replicate_zero, List.append_nil, Int.natCast_zero] at this
  rw [this, laws_toInt64S.l0_eq]
  ((with_reducible repeat (first | refine go_pos (by first | assumption | omega | rfl | exact B_pos (by omega)) ?_ | refine go_neg (by first | assumption | omega | decide | exact B_not (by omega)) ?_ | refine go_bind (by first | assumption) ?_ | dsimp only)); first | done | (with_reducible rfl) | simp (disch := omega) only [w64] | (show False; done))
theorem toInt64SS (g : List (List Int)) (hl : g.length ≤ 1048576) (hr : ∀ r ∈ g, r.length ≤ 1048576) : laws_toInt64SS.f g = some g := by
  rw [laws_toInt64SS.f_eq, Int.toNat_natCast]
  (with_reducible repeat (first | refine go_pos (by first | assumption | omega | rfl | exact B_pos (by omega)) ?_ | refine go_neg (by first | assumption | omega | decide | exact B_not (by omega)) ?_ | refine go_bind (by first | assumption) ?_ | dsimp only))
  have := up g.length (fun m => laws_toInt64SS.l0 g (m : Int) (g.take m ++ List.replicate (g.length - m) [])) (fun m hm => by
    have hw : wrapI ((m : Int) + 1) = ((m + 1 : Nat) : Int) := by rw [w64 (by omega) (by omega)]; omega
    have l1 := copy_len g ([] : List Int) m (by omega)
    have ht := toInt64S g[m] (hr _ (List.getElem_mem hm))
    rw [← copy_step g [] m hm, laws_toInt64SS.l0_eq, hw, Int.toNat_natCast, row_get hm]
    ((with_reducible repeat (first | refine go_pos (by first | assumption | omega | rfl | exact B_pos (by omega)) ?_ | refine go_neg (by first | assumption | omega | decide | exact B_not (by omega)) ?_ | refine go_bind (by first | assumption) ?_ | dsimp only)); first | done | (with_reducible rfl) | simp (disch := omega) only [w64] | (show False; done)))
  simp only [List.take_zero, List.nil_append, Nat.sub_zero, List.take_length, Nat.sub_self, List.replicate_zero, List.append_nil, Int.natCast_zero] at this
  rw [this, laws_toInt64SS.l0_eq]
  ((with_reducible repeat (first | refine go_pos (by first | assumption | omega | rfl | exact B_pos (by omega)) ?_ | refine go_neg (by first | assumption | omega | decide | exact B_not (by omega)) ?_ | refine go_bind (by first | assumption) ?_ | dsimp only)); first | done | (with_reducible rfl) | simp (disch := omega) only [w64] | (show False; done))
theorem toGroup (g : List (List Int)) (hl : g.length ≤ 1048576) (hr : ∀ r ∈ g, r.length ≤ 1048576) : laws_toGroup.f g = some g := by
  rw [laws_toGroup.f_eq]; ((with_reducible repeat (first | refine go_pos (by first | assumption | omega | rfl | exact B_pos (by omega)) ?_ | refine go_neg (by first | assumption | omega | decide | exact B_not (by omega)) ?_ | refine go_bind (by first | assumption | exact toInt64SS _ hl hr) ?_ | dsimp only)); first | done | (with_reducible rfl) | simp (disch := omega) only [w64] | (show False; done))
theorem toModule (m : Int) (u : List Int) (hl : u.length ≤ 1048576) : laws_toModule.f m u = some (m, u) := by
  rw [laws_toModule.f_eq]; ((with_reducible repeat (first | refine go_pos (by first | assumption | omega | rfl | exact B_pos (by omega)) ?_ | refine go_neg (by first | assumption | omega | decide | exact B_not (by omega)) ?_ | refine go_bind (by first | assumption | exact toInt64S _ hl) ?_ | dsimp only)); first | done | (with_reducible rfl) | simp (disch := omega) only [w64] | (show False; done))
theorem eqInt64S (xs ys : List Int) (hl : xs.length ≤ maxLen) : laws_eqInt64S.f xs ys = some (B (xs = ys)) := by
  have hm := maxLen_le
  rw [laws_eqInt64S.f_eq]
  by_cases h : (xs.length : Int) = ys.length
  rotate_left
  · rw [B_neg fun e => h (by rw [e])]
    ((with_reducible repeat (first | refine go_pos (by first | assumption | omega | rfl | exact B_pos (by omega)) ?_ | refine go_neg (by first | assumption | omega | decide | exact B_not (by omega)) ?_ | refine go_bind (by first | assumption) ?_ | dsimp only)); first | done | (with_reducible rfl) | simp (disch := omega) only [w64] | (show False; done))
  (with_reducible repeat (first | refine go_pos (by first | assumption | omega | rfl | exact B_pos (by omega)) ?_ | refine go_neg (by first | assumption | omega | decide | exact B_not (by omega)) ?_ | refine go_bind (by first | assumption) ?_ | dsimp only))
  rw [B_congr (show xs = ys ↔ ∀ i : Int, 0 ≤ i → i < xs.length → rd xs i = rd ys i from ⟨fun e i _ _ => by rw [e], fun e => ext_rd (by omega) e⟩)]
  refine scanT xs.length (fun i => laws_eqInt64S.l0 xs ys i) (fun i => rd xs i = rd ys i) (fun i i0 i1 _ => ?_) (fun _ => by (rw [laws_eqInt64S.l0_eq]); ((with_reducible repeat (first | refine go_pos (by first | assumption | omega | rfl | exact B_pos (by omega)) ?_ | refine go_neg (by first | assumption | omega | decide | exact B_not (by omega)) ?_ | refine go_bind (by first | assumption) ?_ | dsimp only)); first | done | (with_reducible rfl) | simp (disch := omega) only [w64] | (show False; done)))
  refine ⟨fun h => ?_, fun h => ?_⟩ <;> (rw [laws_eqInt64S.l0_eq]) <;> ((with_reducible repeat (first | refine go_pos (by first | assumption | omega | rfl | exact B_pos (by omega)) ?_ | refine go_neg (by first | assumption | omega | decide | exact B_not (by omega)) ?_ | refine go_bind (by first | assumption) ?_ | dsimp only)); first | done | (with_reducible rfl) | simp (disch := omega) only [w64] | (show False; done))
theorem eqInt64SS (xs ys : List (List Int)) (hl : xs.length ≤ maxLen) (hr : ∀ r ∈ xs, r.length ≤ maxLen) : laws_eqInt64SS.f xs ys = some (B (xs = ys)) := by
  have hm := maxLen_le
  rw [laws_eqInt64SS.f_eq]
  by_cases h : (xs.length : Int) = ys.length
  rotate_left
  · rw [B_neg fun e => h (by rw [e])]
    ((with_reducible repeat (first | refine go_pos (by first | assumption | omega | rfl | exact B_pos (by omega)) ?_ | refine go_neg (by first | assumption | omega | decide | exact B_not (by omega)) ?_ | refine go_bind (by first | assumption) ?_ | dsimp only)); first | done | (with_reducible rfl) | simp (disch := omega) only [w64] | (show False; done))
  (with_reducible repeat (first | refine go_pos (by first | assumption | omega | rfl | exact B_pos (by omega)) ?_ | refine go_neg (by first | assumption | omega | decide | exact B_not (by omega)) ?_ | refine go_bind (by first | assumption) ?_ | dsimp only))
  rw [B_congr (show xs = ys ↔ ∀ i : Int, 0 ≤ i → i < xs.length → row xs i = row ys i from ⟨fun e i _ _ => by rw [e], fun e => ext_row (by omega) e⟩)]
  refine scanT xs.length (fun i => laws_eqInt64SS.l0 xs ys i) (fun i => row xs i = row ys i) (fun i i0 i1 _ => ?_) (fun _ => by (rw [laws_eqInt64SS.l0_eq]); ((with_reducible repeat (first | refine go_pos (by first | assumption | omega | rfl | exact B_pos (by omega)) ?_ | refine go_neg (by first | assumption | omega | decide | exact B_not (by omega)) ?_ | refine go_bind (by first | assumption) ?_ | dsimp only)); first | done | (with_reducible rfl) | simp (disch := omega) only [w64] | (show False; done)))
  have he := eqInt64S (row xs i) (row ys i) (hr _ (row_mem i0 i1))
  refine ⟨fun h => ?_, fun h => ?_⟩
  · rw [B_pos h] at he
    (rw [laws_eqInt64SS.l0_eq])
    ((with_reducible repeat (first | refine go_pos (by first | assumption | omega | rfl | exact B_pos (by omega)) ?_ | refine go_neg (by first | assumption | omega | decide | exact B_not (by omega)) ?_ | refine go_bind (by first | assumption) ?_ | dsimp only)); first | done | (with_reducible rfl) | simp (disch := omega) only [w64] | (show False; done))
  · rw [B_neg h] at he
    (rw [laws_eqInt64SS.l0_eq])
    ((with_reducible repeat (first | refine go_pos (by first | assumption | omega | rfl | exact B_pos (by omega)) ?_ | refine go_neg (by first | assumption | omega | decide | exact B_not (by omega)) ?_ | refine go_bind (by first | assumption) ?_ | dsimp only)); first | done | (with_reducible rfl) | simp (disch := omega) only [w64] | (show False; done))
theorem eqGroup (xs ys : List (List Int)) (hl : xs.length ≤ maxLen) (hr : ∀ r ∈ xs, r.length ≤ maxLen) : laws_eqGroup.f xs ys = some (B (xs = ys)) := by
  have he := eqInt64SS xs ys hl hr
  rw [laws_eqGroup.f_eq, he]
  by_cases h : xs = ys
  · rw [B_pos h]; rfl
  · rw [B_neg h]; rfl
theorem eqModule (m n : Int) (u v : List Int) (hl : u.length ≤ maxLen) : laws_eqModule.f m u n v = some (B (m = n ∧ u = v)) := by
  have he := eqInt64S u v hl
  rw [laws_eqModule.f_eq]
  by_cases h : m = n ∧ u = v
  · rw [B_pos h.2] at he; rw [B_pos h]; ((with_reducible repeat (first | refine go_pos (by first | assumption | omega | rfl | exact B_pos (by omega)) ?_ | refine go_neg (by first | assumption | omega | decide | exact B_not (by omega)) ?_ | refine go_bind (by first | assumption) ?_ | dsimp only)); first | done | (with_reducible rfl) | simp (disch := omega) only [w64] | (show False; done))
  · rw [B_neg h]
    by_cases h1 : m = n
    · rw [B_neg fun k => h ⟨h1, k⟩] at he; ((with_reducible repeat (first | refine go_pos (by first | assumption | omega | rfl | exact B_pos (by omega)) ?_ | refine go_neg (by first | assumption | omega | decide | exact B_not (by omega)) ?_ | refine go_bind (by first | assumption) ?_ | dsimp only)); first | done | (with_reducible rfl) | simp (disch := omega) only [w64] | (show False; done))
    · ((with_reducible repeat (first | refine go_pos (by first | assumption | omega | rfl | exact B_pos (by omega)) ?_ | refine go_neg (by first | assumption | omega | decide | exact B_not (by omega)) ?_ | refine go_bind (by first | assumption) ?_ | dsimp only)); first | done | (with_reducible rfl) | simp (disch := omega) only [w64] | (show False; done))
theorem same_Rows (xs : List (List Int)) (hl : xs.length ≤ maxLen) (hr : ∀ r ∈ xs, r.length ≤ maxLen) : laws_eqInt64SS.f xs xs = some true := by rw [eqInt64SS xs xs hl hr, B_pos rfl]
theorem same_Group (xs : List (List Int)) (hl : xs.length ≤ maxLen) (hr : ∀ r ∈ xs, r.length ≤ maxLen) : laws_eqGroup.f xs xs = some true := by rw [eqGroup xs xs hl hr, B_pos rfl]
theorem same_Module (m : Int) (u : List Int) (hl : u.length ≤ maxLen) : laws_eqModule.f m u m u = some true := by rw [eqModule m m u u hl, B_pos ⟨rfl, rfl⟩]
theorem szInt64S (xs : List Int) (left : Int) (hl : xs.length ≤ maxLen) (l0 : 0 ≤ left) (l1 : left ≤ 1048576) :
    ∃ t, laws_szInt64S.f xs left = some t ∧ (t < 0 ∨ (0 ≤ t ∧ t ≤ 1048576 ∧ xs.length ≤ 1048576)) := by
  have hm := maxLen_le
  rw [laws_szInt64S.f_eq, w64 (by omega) (by omega)]
  by_cases h : left - (xs.length : Int) < 0
  · exact ⟨_, if_pos h, .inl (by omega)⟩
  · exact ⟨_, if_neg h, .inr (by omega)⟩
theorem szInt64SS (g : List (List Int)) (left : Int) (hl : g.length ≤ maxLen) (hr : ∀ r ∈ g, r.length ≤ maxLen) (l0 : 0 ≤ left) (l1 : left ≤ 1048576) :
    ∃ t, laws_szInt64SS.f g left = some t ∧ (t < 0 ∨ (0 ≤ t ∧ t ≤ 1048576 ∧ g.length ≤ 1048576 ∧ ∀ r ∈ g, r.length ≤ 1048576)) := by
  have hm := maxLen_le
  rw [laws_szInt64SS.f_eq, w64 (by omega) (by omega)]
  by_cases h : left - (g.length : Int) < 0
  · exact ⟨_, if_pos h, .inl (by omega)⟩
  rw [if_neg h]
  have H : ∀ d m : Nat, m + d = g.length → ∀ s : Int, 0 ≤ s → s ≤ 1048576 → (∀ j, j < m → (row g j).length ≤ 1048576) → ∃ t, laws_szInt64SS.l0 g s (m : Int) = some t ∧ (t < 0 ∨ (0 ≤ t ∧ t ≤ 1048576 ∧ g.length ≤ 1048576 ∧ ∀ r ∈ g, r.length ≤ 1048576)) := by
    intro d
    induction d with
    | zero =>
      intro m hd s s0 s1 hs
      obtain rfl : m = g.length := by omega
      refine ⟨s, by (rw [laws_szInt64SS.l0_eq]); ((with_reducible repeat (first | refine go_pos (by first | assumption | omega | rfl | exact B_pos (by omega)) ?_ | refine go_neg (by first | assumption | omega | decide | exact B_not (by omega)) ?_ | refine go_bind (by first | assumption) ?_ | dsimp only)); first | done | (with_reducible rfl) | simp (disch := omega) only [w64] | (show False; done)), .inr ⟨s0, s1, by omega, fun r hr' => ?_⟩⟩
      obtain ⟨i, i0, i1, rfl⟩ := mem_row hr'
      have := hs i.toNat (by omega)
      rwa [show ((i.toNat : Nat) : Int) = i by omega] at this
    | succ d ih =>
      intro m hd s s0 s1 hs
      obtain ⟨t, ht, h⟩ := szInt64S (row g m) s (hr _ (row_mem (by omega) (by omega))) s0 s1
      have hw : wrapI ((m : Int) + 1) = ((m + 1 : Nat) : Int) := by rw [w64 (by omega) (by omega)]; omega
      rcases h with h | ⟨h0, h1, h2⟩
      · refine ⟨-1, ?_, .inl (by omega)⟩
        (rw [laws_szInt64SS.l0_eq])
        ((with_reducible repeat (first | refine go_pos (by first | assumption | omega | rfl | exact B_pos (by omega)) ?_ | refine go_neg (by first | assumption | omega | decide | exact B_not (by omega)) ?_ | refine go_bind (by first | assumption) ?_ | dsimp only)); first | done | (with_reducible rfl) | simp (disch := omega) only [w64] | (show False; done))
      · obtain ⟨t', ht', h'⟩ := ih (m + 1) (by omega) t h0 h1 (fun j hj => by
          by_cases e : j = m
          · rw [e]; exact h2
          · exact hs j (by omega))
        refine ⟨t', ?_, h'⟩
        (rw [laws_szInt64SS.l0_eq, hw])
        (with_reducible repeat (first | refine go_pos (by first | assumption | omega | rfl | exact B_pos (by omega)) ?_ | refine go_neg (by first | assumption | omega | decide | exact B_not (by omega)) ?_ | refine go_bind (by first | assumption) ?_ | dsimp only))
        exact ht'
  have := H g.length 0 (by omega) (left - g.length) (by omega) (by omega) (fun j hj => by omega)
  exact this
theorem szGroup (g : List (List Int)) (left : Int) (hl : g.length ≤ maxLen) (hr : ∀ r ∈ g, r.length ≤ maxLen) (l0 : 0 ≤ left) (l1 : left ≤ 1048576) :
    ∃ t, laws_szGroup.f g left = some t ∧ (t < 0 ∨ (0 ≤ t ∧ t ≤ 1048576 ∧ g.length ≤ 1048576 ∧ ∀ r ∈ g, r.length ≤ 1048576)) := by
  obtain ⟨t, ht, h⟩ := szInt64SS g left hl hr l0 l1
  rw [laws_szGroup.f_eq]
  rcases h with h | h
  · exact ⟨-1, by ((with_reducible repeat (first | refine go_pos (by first | assumption | omega | rfl | exact B_pos (by omega)) ?_ | refine go_neg (by first | assumption | omega | decide | exact B_not (by omega)) ?_ | refine go_bind (by first | assumption) ?_ | dsimp only)); first | done | (with_reducible rfl) | simp (disch := omega) only [w64] | (show False; done)), .inl (by omega)⟩
  · have := h.1
    exact ⟨t, by ((with_reducible repeat (first | refine go_pos (by first | assumption | omega | rfl | exact B_pos (by omega)) ?_ | refine go_neg (by first | assumption | omega | decide | exact B_not (by omega)) ?_ | refine go_bind (by first | assumption) ?_ | dsimp only)); first | done | (with_reducible rfl) | simp (disch := omega) only [w64] | (show False; done)), .inr h⟩
theorem szModule (m : Int) (u : List Int) (left : Int) (hl : u.length ≤ maxLen) (l0 : 0 ≤ left) (l1 : left ≤ 1048576) :
    ∃ t, laws_szModule.f m u left = some t ∧ (t < 0 ∨ (0 ≤ t ∧ t ≤ 1048576 ∧ u.length ≤ 1048576)) := by
  obtain ⟨t, ht, h⟩ := szInt64S u left hl l0 l1
  rw [laws_szModule.f_eq]
  rcases h with h | h
  · exact ⟨-1, by ((with_reducible repeat (first | refine go_pos (by first | assumption | omega | rfl | exact B_pos (by omega)) ?_ | refine go_neg (by first | assumption | omega | decide | exact B_not (by omega)) ?_ | refine go_bind (by first | assumption) ?_ | dsimp only)); first | done | (with_reducible rfl) | simp (disch := omega) only [w64] | (show False; done)), .inl (by omega)⟩
  · have := h.1
    exact ⟨t, by ((with_reducible repeat (first | refine go_pos (by first | assumption | omega | rfl | exact B_pos (by omega)) ?_ | refine go_neg (by first | assumption | omega | decide | exact B_not (by omega)) ?_ | refine go_bind (by first | assumption) ?_ | dsimp only)); first | done | (with_reducible rfl) | simp (disch := omega) only [w64] | (show False; done)), .inr h⟩
def MkS (a : Int) (n : Nat) : List Int := (List.range n).map fun (i : Nat) => a + (i : Int)
theorem MkS_length (a : Int) (n : Nat) : (MkS a n).length = n := by simp [MkS]
theorem MkS_rd {a : Int} {n : Nat} {i : Int} (h0 : 0 ≤ i) (h1 : i < n) : rd (MkS a n) i = a + i := by
  have h : i.toNat < n := by omega
  simp [rd, MkS, List.getD_eq_getElem?_getD, h]
  omega
theorem MkS_step (a : Int) (xs : List Int) (m : Nat) (hm : m < xs.length) : (MkS a m ++ xs.drop m).set m (a + m) = MkS a (m + 1) ++ xs.drop (m + 1) := by
  rw [List.set_append, if_neg (by rw [MkS_length]; omega), MkS_length, Nat.sub_self, List.drop_eq_getElem_cons hm, List.set_cons_zero]
  simp [MkS, List.range_succ]
theorem markS (xs : List Int) (a : Int) (h0 : 0 ≤ a) (h1 : a + xs.length ≤ 4611686018427387904) : laws_markInt64S.f xs a = some (a + xs.length, MkS a xs.length) := by
  rw [laws_markInt64S.f_eq]
  have := up xs.length (fun m => laws_markInt64S.l0 (a + (m : Int)) (m : Int) (MkS a m ++ xs.drop m)) (fun m hm => by
    have hw : wrapI ((m : Int) + 1) = ((m + 1 : Nat) : Int) := by rw [w64 (by omega) (by omega)]; omega
    have hw2 : wrapI (a + (m : Int) + 1) = a + ((m + 1 : Nat) : Int) := by rw [w64 (by omega) (by omega)]; omega
    have l1 : (MkS a m ++ xs.drop m).length = xs.length := by rw [List.length_append, MkS_length, List.length_drop]; omega
    rw [← MkS_step a xs m hm, laws_markInt64S.l0_eq, hw, hw2, Int.toNat_natCast]
    ((with_reducible repeat (first | refine go_pos (by first | assumption | omega | rfl | exact B_pos (by omega)) ?_ | refine go_neg (by first | assumption | omega | decide | exact B_not (by omega)) ?_ | refine go_bind (by first | assumption) ?_ | dsimp only)); first | done | (with_reducible rfl) | simp (disch := omega) only [w64] | (show False; done)))
  simp only [Int.natCast_zero, Int.add_zero, List.drop_zero, List.drop_length, List.append_nil, show MkS a 0 = [] from rfl, List.nil_append] at this
  have hl := MkS_length a xs.length
  rw [this, laws_markInt64S.l0_eq]
  ((with_reducible repeat (first | refine go_pos (by first | assumption | omega | rfl | exact B_pos (by omega)) ?_ | refine go_neg (by first | assumption | omega | decide | exact B_not (by omega)) ?_ | refine go_bind (by first | assumption) ?_ | dsimp only)); first | done | (with_reducible rfl) | simp (disch := omega) only [w64] | (show False; done))
theorem heldS (a : Int) (n : Nat) (h0 : 0 ≤ a) (h1 : a + n ≤ 4611686018427387904) : laws_heldInt64S.f (MkS a n) a = some (a + n) := by
  rw [laws_heldInt64S.f_eq]
  have hl := MkS_length a n
  have := up n (fun m => laws_heldInt64S.l0 (MkS a n) (a + (m : Int)) (m : Int)) (fun m hm => by
    have hw : wrapI ((m : Int) + 1) = ((m + 1 : Nat) : Int) := by rw [w64 (by omega) (by omega)]; omega
    have hw2 : wrapI (a + (m : Int) + 1) = a + ((m + 1 : Nat) : Int) := by rw [w64 (by omega) (by omega)]; omega
    have e := MkS_rd (a := a) (n := n) (i := m) (by omega) (by omega)
    rw [laws_heldInt64S.l0_eq, hw, hw2]
    ((with_reducible repeat (first | refine go_pos (by first | assumption | omega | rfl | exact B_pos (by omega)) ?_ | refine go_neg (by first | assumption | omega | decide | exact B_not (by omega)) ?_ | refine go_bind (by first | assumption) ?_ | dsimp only)); first | done | (with_reducible rfl) | simp (disch := omega) only [w64] | (show False; done)))
  simp only [Int.natCast_zero, Int.add_zero] at this
  rw [this, laws_heldInt64S.l0_eq]
  ((with_reducible repeat (first | refine go_pos (by first | assumption | omega | rfl | exact B_pos (by omega)) ?_ | refine go_neg (by first | assumption | omega | decide | exact B_not (by omega)) ?_ | refine go_bind (by first | assumption) ?_ | dsimp only)); first | done | (with_reducible rfl) | simp (disch := omega) only [w64] | (show False; done))
def tot : List (List Int) → Nat
  | [] => 0
  | r :: g => r.length + tot g
def MkSS (a : Int) : List (List Int) → List (List Int)
  | [] => []
  | r :: g => MkS a r.length :: MkSS (a + r.length) g
theorem MkSS_length (g : List (List Int)) : ∀ a, (MkSS a g).length = g.length := by
  induction g with
  | nil => intro a; rfl
  | cons r g ih => intro a; simp [MkSS, ih]
theorem tot_le (b : Nat) (g : List (List Int)) (h : ∀ r ∈ g, r.length ≤ b) : tot g ≤ g.length * b := by
  induction g with
  | nil => simp [tot]
  | cons r g ih =>
    have h1 := ih fun r hr => h r (List.mem_cons_of_mem _ hr)
    have h2 := h r (List.mem_cons_self ..)
    rw [List.length_cons, Nat.succ_mul, tot]
    omega
theorem tot_small {g : List (List Int)} (h1 : g.length ≤ 1048576) (h2 : ∀ r ∈ g, r.length ≤ 1048576) : tot g ≤ 1099511627776 :=
  Nat.le_trans (tot_le 1048576 g h2) (Nat.mul_le_mul_right 1048576 h1)
theorem markSS (g : List (List Int)) (a : Int) (h0 : 0 ≤ a) (h1 : a + tot g ≤ 4611686018427387904) (hl : g.length ≤ 4611686018427387904) : laws_markInt64SS.f g a = some (a + tot g, MkSS a g) := by
  rw [laws_markInt64SS.f_eq]
  suffices H : ∀ (g done : List (List Int)) (b : Int), 0 ≤ b → b + tot g ≤ 4611686018427387904 → done.length + g.length ≤ 4611686018427387904 → laws_markInt64SS.l0 b (done.length : Int) (done ++ g) = some (b + tot g, done ++ MkSS b g) from by
    simpa using H g [] a h0 h1 (by simpa using hl)
  intro g
  induction g with
  | nil =>
    intro done b b0 b1 hd
    rw [laws_markInt64SS.l0_eq, List.append_nil]
    have : b + ((tot [] : Nat) : Int) = b := by simp [tot]
    rw [this, MkSS, List.append_nil]
    ((with_reducible repeat (first | refine go_pos (by first | assumption | omega | rfl | exact B_pos (by omega)) ?_ | refine go_neg (by first | assumption | omega | decide | exact B_not (by omega)) ?_ | refine go_bind (by first | assumption) ?_ | dsimp only)); first | done | (with_reducible rfl) | simp (disch := omega) only [w64] | (show False; done))
  | cons r g ih =>
    intro done b b0 b1 hd
    simp only [tot, List.length_cons] at b1 hd
    have m1 : (done ++ r :: g).length = done.length + g.length + 1 := by rw [List.length_append, List.length_cons]; omega
    have hw : wrapI ((done.length : Int) + 1) = (((done ++ [MkS b r.length]).length : Nat) : Int) := by
      rw [w64 (by omega) (by omega), List.length_append, List.length_singleton]; omega
    have e : row (done ++ r :: g) (done.length : Int) = r := by simp [row, List.getD_eq_getElem?_getD]
    have e2 : (done ++ r :: g).set done.length (MkS b r.length) = (done ++ [MkS b r.length]) ++ g := by
      rw [List.set_append, if_neg (by omega), Nat.sub_self, List.set_cons_zero]; simp
    have hm := markS r b b0 (by omega)
    rw [laws_markInt64SS.l0_eq, hw, e, Int.toNat_natCast]
    (with_reducible repeat (first | refine go_pos (by first | assumption | omega | rfl | exact B_pos (by omega)) ?_ | refine go_neg (by first | assumption | omega | decide | exact B_not (by omega)) ?_ | refine go_bind (by first | assumption) ?_ | dsimp only))
    have := ih (done ++ [MkS b r.length]) (b + r.length) (by omega) (by omega) (by rw [List.length_append, List.length_singleton]; omega)
    rw [e2, this]
    simp only [MkSS, tot, List.append_assoc, List.singleton_append, Int.natCast_add, Int.add_assoc]
theorem markGroup (g : List (List Int)) (a : Int) (h0 : 0 ≤ a) (h1 : a + tot g ≤ 4611686018427387904) (hl : g.length ≤ 4611686018427387904) : laws_markGroup.f g a = some (a + tot g, MkSS a g) := by
  have := markSS g a h0 h1 hl
  rw [laws_markGroup.f_eq]; ((with_reducible repeat (first | refine go_pos (by first | assumption | omega | rfl | exact B_pos (by omega)) ?_ | refine go_neg (by first | assumption | omega | decide | exact B_not (by omega)) ?_ | refine go_bind (by first | assumption) ?_ | dsimp only)); first | done | (with_reducible rfl) | simp (disch := omega) only [w64] | (show False; done))
theorem markModule (m : Int) (xs : List Int) (a : Int) (h0 : 0 ≤ a) (h1 : a + xs.length ≤ 4611686018427387904) : laws_markModule.f m xs a = some (a + xs.length, MkS a xs.length) := by
  have := markS xs a h0 h1
  rw [laws_markModule.f_eq]; ((with_reducible repeat (first | refine go_pos (by first | assumption | omega | rfl | exact B_pos (by omega)) ?_ | refine go_neg (by first | assumption | omega | decide | exact B_not (by omega)) ?_ | refine go_bind (by first | assumption) ?_ | dsimp only)); first | done | (with_reducible rfl) | simp (disch := omega) only [w64] | (show False; done))
theorem heldSS (g : List (List Int)) (a : Int) (h0 : 0 ≤ a) (h1 : a + tot g ≤ 4611686018427387904) (hl : g.length ≤ 4611686018427387904) : laws_heldInt64SS.f (MkSS a g) a = some (a + tot g) := by
  rw [laws_heldInt64SS.f_eq]
  suffices H : ∀ (g done : List (List Int)) (b : Int), 0 ≤ b → b + tot g ≤ 4611686018427387904 → done.length + g.length ≤ 4611686018427387904 → laws_heldInt64SS.l0 (done ++ MkSS b g) b (done.length : Int) = some (b + tot g) from by
    simpa using H g [] a h0 h1 (by simpa using hl)
  intro g
  induction g with
  | nil =>
    intro done b b0 b1 hd
    rw [laws_heldInt64SS.l0_eq, MkSS, List.append_nil]
    have : b + ((tot [] : Nat) : Int) = b := by simp [tot]
    rw [this]
    ((with_reducible repeat (first | refine go_pos (by first | assumption | omega | rfl | exact B_pos (by omega)) ?_ | refine go_neg (by first | assumption | omega | decide | exact B_not (by omega)) ?_ | refine go_bind (by first | assumption) ?_ | dsimp only)); first | done | (with_reducible rfl) | simp (disch := omega) only [w64] | (show False; done))
  | cons r g ih =>
    intro done b b0 b1 hd
    simp only [tot, List.length_cons] at b1 hd
    have m1 : (done ++ MkSS b (r :: g)).length = done.length + g.length + 1 := by rw [List.length_append, MkSS_length, List.length_cons]; omega
    have e : row (done ++ MkSS b (r :: g)) (done.length : Int) = MkS b r.length := by simp [row, MkSS, List.getD_eq_getElem?_getD]
    have hm := heldS b r.length b0 (by omega)
    have := ih (done ++ [MkS b r.length]) (b + r.length) (by omega) (by omega) (by rw [List.length_append, List.length_singleton]; omega)
    rw [List.length_append, List.length_singleton] at this
    rw [laws_heldInt64SS.l0_eq, wn (j := done.length) (by omega), e]
    (with_reducible repeat (first | refine go_pos (by first | assumption | omega | rfl | exact B_pos (by omega)) ?_ | refine go_neg (by first | assumption | omega | decide | exact B_not (by omega)) ?_ | refine go_bind (by first | assumption) ?_ | dsimp only))
    have e2 : done ++ MkSS b (r :: g) = (done ++ [MkS b r.length]) ++ MkSS (b + r.length) g := by simp [MkSS]
    rw [e2, this]
    simp only [tot, Int.natCast_add, Int.add_assoc]
end Go.Proofs.Ytjknpaplgclflaa.V
set_option linter.unusedVariables false
set_option linter.unusedSimpArgs false
set_option maxHeartbeats 4000000
set_option maxRecDepth 20000
namespace Go.Proofs.Ytjknpaplgclflaa.V
open Go.RowKit Go.Proofs.Ytjknpaplgclflaa.D Go.Proofs.Ytjknpaplgclflaa.P
def Ll (W : Nat) (x y : List Int) : Prop := ∃ j : Nat, j < W ∧ (∀ i : Nat, i < j → rd x (i : Int) = rd y (i : Int)) ∧ rd x (j : Int) < rd y (j : Int)
theorem Ll.irrefl {W : Nat} {x : List Int} : ¬ Ll W x x := fun ⟨j, _, _, h⟩ => by omega
theorem Ll.trans {W : Nat} {x y z : List Int} (h : Ll W x y) (k : Ll W y z) : Ll W x z := by
  obtain ⟨i, i1, i2, i3⟩ := h
  obtain ⟨j, j1, j2, j3⟩ := k
  rcases Nat.lt_trichotomy i j with q | q | q
  · exact ⟨i, i1, fun t ht => (i2 t ht).trans (j2 t (by omega)), by rw [← j2 i q]; exact i3⟩
  · subst q; exact ⟨i, i1, fun t ht => (i2 t ht).trans (j2 t ht), by omega⟩
  · exact ⟨j, j1, fun t ht => (i2 t (by omega)).trans (j2 t ht), by rw [i2 j q]; exact j3⟩
theorem Ll.asymm {W : Nat} {x y : List Int} (h : Ll W x y) : ¬ Ll W y x := fun k => Ll.irrefl (h.trans k)
theorem Ll.tri (W : Nat) (x y : List Int) : Ll W x y ∨ (∀ i : Nat, i < W → rd x (i : Int) = rd y (i : Int)) ∨ Ll W y x := by
  have main : ∀ k, k ≤ W → Ll W x y ∨ (∀ i : Nat, i < k → rd x (i : Int) = rd y (i : Int)) ∨ Ll W y x := by
    intro k
    induction k with
    | zero => exact fun _ => .inr (.inl fun i hi => by omega)
    | succ k ih =>
      intro hk
      rcases ih (by omega) with h | h | h
      · exact .inl h
      · rcases Int.lt_trichotomy (rd x (k : Int)) (rd y (k : Int)) with q | q | q
        · exact .inl ⟨k, by omega, h, q⟩
        · refine .inr (.inl fun i hi => ?_)
          by_cases e : i = k
          · rw [e]; exact q
          · exact h i (by omega)
        · exact .inr (.inr ⟨k, by omega, fun i hi => (h i hi).symm, q⟩)
      · exact .inr (.inr h)
  exact main W (Nat.le_refl _)
theorem eq_of_all {W : Nat} {x y : List Int} (hx : x.length = W) (hy : y.length = W) (h : ∀ i : Nat, i < W → rd x (i : Int) = rd y (i : Int)) : x = y :=
  ext_rd (by omega) fun i i0 i1 => by
    obtain ⟨n, rfl⟩ := Int.eq_ofNat_of_zero_le i0
    exact h n (by omega)
theorem Ll.le_trans {W : Nat} {x y z : List Int} (hx : x.length = W) (hy : y.length = W) (hz : z.length = W) (h : ¬ Ll W y x) (k : ¬ Ll W z y) : ¬ Ll W z x := by
  intro q
  rcases Ll.tri W x y with a | a | a
  · rcases Ll.tri W y z with b | b | b
    · exact Ll.asymm q (a.trans b)
    · have := eq_of_all hy hz b; subst this; exact Ll.asymm q a
    · exact k b
  · have := eq_of_all hx hy a; subst this
    exact k q
  · exact h a
theorem Compare_ {x y : List Int} {W : Nat} (hx : x.length = W) (hy : y.length = W) (hW : W ≤ 1000000) : ∃ c : Int, slices_Compare_int64.f x y = some c ∧ (c < 0 ↔ Ll W x y) ∧ (c = 0 ↔ x = y) := by
  rw [slices_Compare_int64.f_eq]
  have hc : ∀ a b : Int, cmp_Compare_int64.f a b = some (if a < b then -1 else if a > b then 1 else 0) := fun a b => by
    have n1 : cmp_isNaN_int64.f a = some false := by rw [cmp_isNaN_int64.f_eq]; simp
    have n2 : cmp_isNaN_int64.f b = some false := by rw [cmp_isNaN_int64.f_eq]; simp
    rw [cmp_Compare_int64.f_eq, n1, n2]
    by_cases h : a < b
    · simp [h]
    · by_cases h2 : a > b
      · simp [h, h2]
      · simp [h, h2]
  suffices H : ∀ d k : Nat, k + d = W → (∀ i : Nat, i < k → rd x (i : Int) = rd y (i : Int)) → ∃ c : Int, slices_Compare_int64.l0 x y x (x.length : Int) (k : Int) = some c ∧ (c < 0 ↔ Ll W x y) ∧ (c = 0 ↔ x = y) from H W 0 (by omega) fun i hi => by omega
  intro d
  induction d with
  | zero =>
    intro k hk he
    have exy := eq_of_all hx hy fun i hi => he i (by omega)
    refine ⟨0, ?_, ⟨fun h => by omega, fun h => by rw [exy] at h; exact absurd h Ll.irrefl⟩, ⟨fun _ => exy, fun _ => rfl⟩⟩
    rw [slices_Compare_int64.l0_eq]
    ((with_reducible repeat (first | refine go_pos (by first | assumption | omega | rfl | exact B_pos (by omega)) ?_ | refine go_neg (by first | assumption | omega | decide | exact B_not (by omega)) ?_ | refine go_bind (by first | assumption) ?_ | dsimp only)); first | done | (with_reducible rfl) | simp (disch := omega) only [w64] | (show False; done))
  | succ d ih =>
    intro k hk he
    have hck := hc (rd x (k : Int)) (rd y (k : Int))
    rcases Int.lt_trichotomy (rd x (k : Int)) (rd y (k : Int)) with q | q | q
    · rw [if_pos q] at hck
      refine ⟨-1, ?_, ⟨fun _ => ⟨k, by omega, he, q⟩, fun _ => by omega⟩, ⟨fun h => by omega, fun h => by rw [h] at q; omega⟩⟩
      rw [slices_Compare_int64.l0_eq]
      ((with_reducible repeat (first | refine go_pos (by first | assumption | omega | rfl | exact B_pos (by omega)) ?_ | refine go_neg (by first | assumption | omega | decide | exact B_not (by omega)) ?_ | refine go_bind (by first | assumption) ?_ | dsimp only)); first | done | (with_reducible rfl) | simp (disch := omega) only [w64] | (show False; done))
    · rw [if_neg (by omega), if_neg (by omega)] at hck
      obtain ⟨c, c1, c2, c3⟩ := ih (k + 1) (by omega) fun i hi => by
        by_cases e : i = k
        · rw [e]; exact q
        · exact he i (by omega)
      refine ⟨c, ?_, c2, c3⟩
      rw [slices_Compare_int64.l0_eq, wn (j := k) (by omega)]
      (with_reducible repeat (first | refine go_pos (by first | assumption | omega | rfl | exact B_pos (by omega)) ?_ | refine go_neg (by first | assumption | omega | decide | exact B_not (by omega)) ?_ | refine go_bind (by first | assumption) ?_ | dsimp only))
      exact c1
    · rw [if_neg (by omega), if_pos q] at hck
      refine ⟨1, ?_, ⟨fun h => by omega, fun h => absurd (⟨k, by omega, fun i hi => (he i hi).symm, q⟩ : Ll W y x) h.asymm⟩, ⟨fun h => by omega, fun h => by rw [h] at q; omega⟩⟩
      rw [slices_Compare_int64.l0_eq]
      ((with_reducible repeat (first | refine go_pos (by first | assumption | omega | rfl | exact B_pos (by omega)) ?_ | refine go_neg (by first | assumption | omega | decide | exact B_not (by omega)) ?_ | refine go_bind (by first | assumption) ?_ | dsimp only)); first | done | (with_reducible rfl) | simp (disch := omega) only [w64] | (show False; done))
theorem Equal_ (x y : List Int) (hx : x.length ≤ 1000000) : slices_Equal_int64.f x y = some (B (x = y)) := by
  rw [slices_Equal_int64.f_eq]
  by_cases h : (x.length : Int) = (y.length : Int)
  rotate_left
  · rw [B_neg fun e => h (by rw [e])]
    ((with_reducible repeat (first | refine go_pos (by first | assumption | omega | rfl | exact B_pos (by omega)) ?_ | refine go_neg (by first | assumption | omega | decide | exact B_not (by omega)) ?_ | refine go_bind (by first | assumption) ?_ | dsimp only)); first | done | (with_reducible rfl) | simp (disch := omega) only [w64] | (show False; done))
  (with_reducible repeat (first | refine go_pos (by first | assumption | omega | rfl | exact B_pos (by omega)) ?_ | refine go_neg (by first | assumption | omega | decide | exact B_not (by omega)) ?_ | refine go_bind (by first | assumption) ?_ | dsimp only))
  rw [B_congr (show x = y ↔ ∀ i : Int, 0 ≤ i → i < x.length → rd x i = rd y i from ⟨fun e i _ _ => by rw [e], fun e => ext_rd (by omega) e⟩)]
  refine scanT x.length (fun i => slices_Equal_int64.l0 x y (x.length : Int) i) (fun i => rd x i = rd y i) (fun i i0 i1 _ => ?_) (fun _ => by (rw [slices_Equal_int64.l0_eq]); ((with_reducible repeat (first | refine go_pos (by first | assumption | omega | rfl | exact B_pos (by omega)) ?_ | refine go_neg (by first | assumption | omega | decide | exact B_not (by omega)) ?_ | refine go_bind (by first | assumption) ?_ | dsimp only)); first | done | (with_reducible rfl) | simp (disch := omega) only [w64] | (show False; done)))
  refine ⟨fun h => ?_, fun h => ?_⟩ <;> (rw [slices_Equal_int64.l0_eq]) <;> ((with_reducible repeat (first | refine go_pos (by first | assumption | omega | rfl | exact B_pos (by omega)) ?_ | refine go_neg (by first | assumption | omega | decide | exact B_not (by omega)) ?_ | refine go_bind (by first | assumption) ?_ | dsimp only)); first | done | (with_reducible rfl) | simp (disch := omega) only [w64] | (show False; done))
theorem Before_ {x y : List Int} {W : Nat} (hx : x.length = W) (hy : y.length = W) (hW : W ≤ 1000000) : spec_l01Before.f x y = some (B (Ll W x y)) := by
  rw [spec_l01Before.f_eq, if_pos (by omega)]
  suffices H : ∀ d k : Nat, k + d = W → (∀ i : Nat, i < k → rd x (i : Int) = rd y (i : Int)) → spec_l01Before.l0 x y (k : Int) = some (B (Ll W x y)) from H W 0 (by omega) fun i hi => by omega
  intro d
  induction d with
  | zero =>
    intro k hk he
    have exy := eq_of_all hx hy fun i hi => he i (by omega)
    rw [B_neg (by rw [exy]; exact Ll.irrefl), spec_l01Before.l0_eq]
    ((with_reducible repeat (first | refine go_pos (by first | assumption | omega | rfl | exact B_pos (by omega)) ?_ | refine go_neg (by first | assumption | omega | decide | exact B_not (by omega)) ?_ | refine go_bind (by first | assumption) ?_ | dsimp only)); first | done | (with_reducible rfl) | simp (disch := omega) only [w64] | (show False; done))
  | succ d ih =>
    intro k hk he
    by_cases q : rd x (k : Int) = rd y (k : Int)
    · have := ih (k + 1) (by omega) fun i hi => by
        by_cases e : i = k
        · rw [e]; exact q
        · exact he i (by omega)
      rw [spec_l01Before.l0_eq, wn (j := k) (by omega)]
      (with_reducible repeat (first | refine go_pos (by first | assumption | omega | rfl | exact B_pos (by omega)) ?_ | refine go_neg (by first | assumption | omega | decide | exact B_not (by omega)) ?_ | refine go_bind (by first | assumption) ?_ | dsimp only))
      exact this
    · have e : B (Ll W x y) = decide (rd x (k : Int) < rd y (k : Int)) := by
        by_cases q2 : rd x (k : Int) < rd y (k : Int)
        · rw [B_pos ⟨k, by omega, he, q2⟩]; simp [q2]
        · rw [B_neg (Ll.asymm ⟨k, by omega, fun i hi => (he i hi).symm, by omega⟩)]; simp [q2]
      rw [e, spec_l01Before.l0_eq]
      ((with_reducible repeat (first | refine go_pos (by first | assumption | omega | rfl | exact B_pos (by omega)) ?_ | refine go_neg (by first | assumption | omega | decide | exact B_not (by omega)) ?_ | refine go_bind (by first | assumption) ?_ | dsimp only)); first | done | (with_reducible rfl) | simp (disch := omega) only [w64] | (show False; done))
end Go.Proofs.Ytjknpaplgclflaa.V
set_option linter.unusedVariables false
namespace Go.Proofs.Ytjknpaplgclflaa.P
open Go Go.RowKit Go.Proofs.Ytjknpaplgclflaa.D
end Go.Proofs.Ytjknpaplgclflaa.P
set_option linter.unusedVariables false
namespace Go.Proofs.Ytjknpaplgclflaa.P
open Go Go.RowKit Go.Proofs.Ytjknpaplgclflaa.D
end Go.Proofs.Ytjknpaplgclflaa.P
set_option linter.unusedVariables false
namespace Go.Proofs.Ytjknpaplgclflaa.P
open Go Go.RowKit Go.Proofs.Ytjknpaplgclflaa.D
end Go.Proofs.Ytjknpaplgclflaa.P
set_option linter.unusedVariables false
namespace Go.Proofs.Ytjknpaplgclflaa.P
open Go Go.RowKit Go.Proofs.Ytjknpaplgclflaa.D
end Go.Proofs.Ytjknpaplgclflaa.P
set_option linter.unusedVariables false
namespace Go.Proofs.Ytjknpaplgclflaa.P
open Go Go.RowKit Go.Proofs.Ytjknpaplgclflaa.D
end Go.Proofs.Ytjknpaplgclflaa.P
set_option linter.unusedVariables false
namespace Go.Proofs.Ytjknpaplgclflaa.P
open Go Go.RowKit Go.Proofs.Ytjknpaplgclflaa.D
end Go.Proofs.Ytjknpaplgclflaa.P
set_option linter.unusedVariables false
namespace Go.Proofs.Ytjknpaplgclflaa.P
open Go Go.RowKit Go.Proofs.Ytjknpaplgclflaa.D
end Go.Proofs.Ytjknpaplgclflaa.P
set_option linter.unusedVariables false
set_option linter.unusedSimpArgs false
set_option maxHeartbeats 2000000
set_option maxRecDepth 20000
namespace Go.Proofs.Ytjknpaplgclflaa.V
open Go.RowKit Go.Proofs.Ytjknpaplgclflaa.D Go.Proofs.Ytjknpaplgclflaa.P
theorem areIn (n : Int) (xs : List Int) (hl : xs.length ≤ maxLen) : impl_areIn.f n xs = some (B (AllIn n xs)) := by
  have hm := maxLen_le
  rw [impl_areIn.f_eq]
  refine scanT xs.length (fun i => impl_areIn.l0 n xs (xs.length : Int) i) (fun i => 0 ≤ rd xs i ∧ rd xs i < n) (fun i h0 h1 _ => ?_) (fun _ => ?_)
  · refine ⟨fun h => ?_, fun h => ?_⟩ <;> (rw [impl_areIn.l0_eq])
    · ((with_reducible repeat (first | refine go_pos (by first | assumption | omega | rfl | exact B_pos (by omega)) ?_ | refine go_neg (by first | assumption | omega | decide | exact B_not (by omega)) ?_ | refine go_bind (by first | assumption) ?_ | dsimp only)); first | done | (with_reducible rfl) | simp (disch := omega) only [w64] | (show False; done))
    · by_cases h2 : rd xs i < 0 <;> ((with_reducible repeat (first | refine go_pos (by first | assumption | omega | rfl | exact B_pos (by omega)) ?_ | refine go_neg (by first | assumption | omega | decide | exact B_not (by omega)) ?_ | refine go_bind (by first | assumption) ?_ | dsimp only)); first | done | (with_reducible rfl) | simp (disch := omega) only [w64] | (show False; done))
  · (rw [impl_areIn.l0_eq])
    ((with_reducible repeat (first | refine go_pos (by first | assumption | omega | rfl | exact B_pos (by omega)) ?_ | refine go_neg (by first | assumption | omega | decide | exact B_not (by omega)) ?_ | refine go_bind (by first | assumption) ?_ | dsimp only)); first | done | (with_reducible rfl) | simp (disch := omega) only [w64] | (show False; done))
theorem index_ (xs : List Int) (x : Int) (hl : xs.length ≤ maxLen) :
    ((∀ i : Int, 0 ≤ i → i < xs.length → rd xs i ≠ x) ∧ slices_Index_int64.f xs x = some (-1)) ∨
    ∃ i : Int, 0 ≤ i ∧ i < xs.length ∧ (∀ j : Int, 0 ≤ j → j < i → rd xs j ≠ x) ∧ rd xs i = x ∧ slices_Index_int64.f xs x = some i := by
  have hm := maxLen_le
  rw [slices_Index_int64.f_eq]
  suffices H : ∀ d m : Nat, m + d = xs.length → (∀ j : Int, 0 ≤ j → j < m → rd xs j ≠ x) →
      ((∀ i : Int, 0 ≤ i → i < xs.length → rd xs i ≠ x) ∧ slices_Index_int64.l0 xs x (xs.length : Int) m = some (-1)) ∨
      ∃ i : Int, 0 ≤ i ∧ i < xs.length ∧ (∀ j : Int, 0 ≤ j → j < i → rd xs j ≠ x) ∧ rd xs i = x ∧ slices_Index_int64.l0 xs x (xs.length : Int) m = some i from
    H xs.length 0 (by omega) (fun j h0 h1 => by omega)
  intro d
  induction d with
  | zero =>
    intro m hd hp
    obtain rfl : m = xs.length := by omega
    refine .inl ⟨hp, ?_⟩
    (rw [slices_Index_int64.l0_eq])
    ((with_reducible repeat (first | refine go_pos (by first | assumption | omega | rfl | exact B_pos (by omega)) ?_ | refine go_neg (by first | assumption | omega | decide | exact B_not (by omega)) ?_ | refine go_bind (by first | assumption) ?_ | dsimp only)); first | done | (with_reducible rfl) | simp (disch := omega) only [w64] | (show False; done))
  | succ d ih =>
    intro m hd hp
    by_cases h2 : x = rd xs m
    · refine .inr ⟨m, by omega, by omega, hp, h2.symm, ?_⟩
      (rw [slices_Index_int64.l0_eq])
      ((with_reducible repeat (first | refine go_pos (by first | assumption | omega | rfl | exact B_pos (by omega)) ?_ | refine go_neg (by first | assumption | omega | decide | exact B_not (by omega)) ?_ | refine go_bind (by first | assumption) ?_ | dsimp only)); first | done | (with_reducible rfl) | simp (disch := omega) only [w64] | (show False; done))
    · have st : slices_Index_int64.l0 xs x (xs.length : Int) m = slices_Index_int64.l0 xs x (xs.length : Int) ((m + 1 : Nat) : Int) := by
        rw [Int.natCast_add, Int.natCast_one]
        (rw [slices_Index_int64.l0_eq])
        ((with_reducible repeat (first | refine go_pos (by first | assumption | omega | rfl | exact B_pos (by omega)) ?_ | refine go_neg (by first | assumption | omega | decide | exact B_not (by omega)) ?_ | refine go_bind (by first | assumption) ?_ | dsimp only)); first | done | (with_reducible rfl) | simp (disch := omega) only [w64] | (show False; done))
      rw [st]
      refine ih (m + 1) (by omega) fun j k0 k1 => ?_
      by_cases e : j = m
      · rw [e]; exact fun h => h2 h.symm
      · exact hp j k0 (by omega)
theorem contains_ (xs : List Int) (x : Int) (hl : xs.length ≤ maxLen) : slices_Contains_int64.f xs x = some (B (∃ i : Int, 0 ≤ i ∧ i < xs.length ∧ rd xs i = x)) := by
  rw [slices_Contains_int64.f_eq]
  rcases index_ xs x hl with ⟨h, e⟩ | ⟨i, h0, h1, _, h2, e⟩
  · rw [e, B_neg fun ⟨i, h0, h1, h2⟩ => h i h0 h1 h2]; rfl
  · rw [e, B_pos ⟨i, h0, h1, h2⟩]; simp [h0]
structure Grp (g : List (List Int)) : Prop where
  n1 : 1 ≤ g.length
  n8 : g.length ≤ 8
  row : ∀ a : Int, 0 ≤ a → a < g.length → (row g a).length = g.length
  ent : ∀ a b : Int, 0 ≤ a → a < g.length → 0 ≤ b → b < g.length → 0 ≤ T g a b ∧ T g a b < g.length
  one : ∀ a : Int, 0 ≤ a → a < g.length → T g 0 a = a
  one' : ∀ a : Int, 0 ≤ a → a < g.length → T g a 0 = a
  assoc : ∀ a b c : Int, 0 ≤ a → a < g.length → 0 ≤ b → b < g.length → 0 ≤ c → c < g.length → T g (T g a b) c = T g a (T g b c)
  inv : ∀ a : Int, 0 ≤ a → a < g.length → ∃ b : Int, 0 ≤ b ∧ b < g.length ∧ T g a b = 0
theorem Grp.inv2 {g : List (List Int)} (h : Grp g) {a : Int} (h0 : 0 ≤ a) (h1 : a < g.length) : ∃ b : Int, 0 ≤ b ∧ b < g.length ∧ T g a b = 0 ∧ T g b a = 0 := by
  obtain ⟨b, b0, b1, hb⟩ := h.inv a h0 h1
  obtain ⟨c, c0, c1, hc⟩ := h.inv b b0 b1
  refine ⟨b, b0, b1, hb, ?_⟩
  have hac : c = a := by
    have e1 := h.assoc a b c h0 h1 b0 b1 c0 c1
    rw [hb, hc, h.one c c0 c1, h.one' a h0 h1] at e1
    exact e1
  rw [← hac]; exact hc
theorem rows_len {g : List (List Int)} (hr : ∀ r ∈ g, r.length ≤ maxLen) {a : Int} (h0 : 0 ≤ a) (h1 : a < g.length) : (row g a).length ≤ maxLen := hr _ (row_mem h0 h1)
def Tab (g : List (List Int)) : Prop := ∀ a : Int, 0 ≤ a → a < g.length → (row g a).length = g.length ∧ AllIn g.length (row g a)
def Law (g : List (List Int)) (a : Int) : Prop := T g 0 a = a ∧ T g a 0 = a ∧ (∃ b : Int, 0 ≤ b ∧ b < g.length ∧ T g a b = 0) ∧ ∀ b : Int, 0 ≤ b → b < g.length → ∀ c : Int, 0 ≤ c → c < g.length → T g (T g a b) c = T g a (T g b c)
theorem grp_iff (g : List (List Int)) : Grp g ↔ (1 ≤ g.length ∧ g.length ≤ 8) ∧ Tab g ∧ ∀ a : Int, 0 ≤ a → a < g.length → Law g a := by
  constructor
  · intro h
    refine ⟨⟨h.n1, h.n8⟩, fun a h0 h1 => ⟨h.row a h0 h1, fun i i0 i1 => ?_⟩, fun a h0 h1 => ⟨h.one a h0 h1, h.one' a h0 h1, h.inv a h0 h1, fun b b0 b1 c c0 c1 => h.assoc a b c h0 h1 b0 b1 c0 c1⟩⟩
    have := h.row a h0 h1
    exact h.ent a i h0 h1 i0 (by omega)
  · rintro ⟨⟨h1, h8⟩, ht, hl⟩
    refine ⟨h1, h8, fun a a0 a1 => (ht a a0 a1).1, fun a b a0 a1 b0 b1 => ?_, fun a a0 a1 => (hl a a0 a1).1, fun a a0 a1 => (hl a a0 a1).2.1, fun a b c a0 a1 b0 b1 c0 c1 => (hl a a0 a1).2.2.2 b b0 b1 c c0 c1, fun a a0 a1 => (hl a a0 a1).2.2.1⟩
    have := (ht a a0 a1).1
    exact (ht a a0 a1).2 b b0 (by omega)
theorem isGroup (g : List (List Int)) (hl : g.length ≤ maxLen) (hr : ∀ r ∈ g, r.length ≤ maxLen) : impl_IsGroup.f g = some (B (Grp g)) := by
  have hm := maxLen_le
  rw [B_congr (grp_iff g)]
  (rw [impl_IsGroup.f_eq])
  by_cases c1 : (g.length : Int) < 1 ∨ (g.length : Int) > 8
  · rw [B_neg fun h => by omega]
    by_cases c2 : (g.length : Int) < 1 <;> ((with_reducible repeat (first | refine go_pos (by first | assumption | omega | rfl | exact B_pos (by omega)) ?_ | refine go_neg (by first | assumption | omega | decide | exact B_not (by omega)) ?_ | refine go_bind (by first | assumption | exact impl_order.f_eq _) ?_ | dsimp only)); first | done | (with_reducible rfl) | simp (disch := omega) only [w64] | (show False; done))
  rw [B_congr (show ((1 ≤ g.length ∧ g.length ≤ 8) ∧ Tab g ∧ ∀ a : Int, 0 ≤ a → a < g.length → Law g a) ↔ (Tab g ∧ ∀ a : Int, 0 ≤ a → a < g.length → Law g a) from ⟨fun h => h.2, fun h => ⟨by omega, h⟩⟩)]
  (with_reducible repeat (first | refine go_pos (by first | assumption | omega | rfl | exact B_pos (by omega)) ?_ | refine go_neg (by first | assumption | omega | decide | exact B_not (by omega)) ?_ | refine go_bind (by first | assumption | exact impl_order.f_eq _) ?_ | dsimp only))
  refine scanB g.length (fun i => impl_IsGroup.l0 (g.length : Int) g (g.length : Int) i g) (fun a => (row g a).length = g.length ∧ AllIn g.length (row g a)) _ (fun i h0 h1 _ => ?_) (fun ht => ?_)
  · have ha := areIn g.length (row g i) (rows_len hr h0 h1)
    refine ⟨fun h => ?_, fun h => ?_⟩ <;> (rw [impl_IsGroup.l0_eq])
    · have h1 := h.1
      rw [B_pos h.2] at ha
      ((with_reducible repeat (first | refine go_pos (by first | assumption | omega | rfl | exact B_pos (by omega)) ?_ | refine go_neg (by first | assumption | omega | decide | exact B_not (by omega)) ?_ | refine go_bind (by first | assumption) ?_ | dsimp only)); first | done | (with_reducible rfl) | simp (disch := omega) only [w64] | (show False; done))
    · by_cases h2 : ((row g i).length : Int) = g.length
      · rw [B_neg fun h3 => h ⟨by omega, h3⟩] at ha
        ((with_reducible repeat (first | refine go_pos (by first | assumption | omega | rfl | exact B_pos (by omega)) ?_ | refine go_neg (by first | assumption | omega | decide | exact B_not (by omega)) ?_ | refine go_bind (by first | assumption) ?_ | dsimp only)); first | done | (with_reducible rfl) | simp (disch := omega) only [w64] | (show False; done))
      · ((with_reducible repeat (first | refine go_pos (by first | assumption | omega | rfl | exact B_pos (by omega)) ?_ | refine go_neg (by first | assumption | omega | decide | exact B_not (by omega)) ?_ | refine go_bind (by first | assumption) ?_ | dsimp only)); first | done | (with_reducible rfl) | simp (disch := omega) only [w64] | (show False; done))
  (rw [impl_IsGroup.l0_eq])
  (with_reducible repeat (first | refine go_pos (by first | assumption | omega | rfl | exact B_pos (by omega)) ?_ | refine go_neg (by first | assumption | omega | decide | exact B_not (by omega)) ?_ | refine go_bind (by first | assumption) ?_ | dsimp only))
  refine scanT g.length (fun i => impl_IsGroup.l1 (g.length : Int) (g.length : Int) i g) (Law g) (fun a a0 a1 _ => ?_) (fun _ => ?_)
  rotate_left
  · (rw [impl_IsGroup.l1_eq])
    ((with_reducible repeat (first | refine go_pos (by first | assumption | omega | rfl | exact B_pos (by omega)) ?_ | refine go_neg (by first | assumption | omega | decide | exact B_not (by omega)) ?_ | refine go_bind (by first | assumption) ?_ | dsimp only)); first | done | (with_reducible rfl) | simp (disch := omega) only [w64] | (show False; done))
  have hlen : ∀ x : Int, 0 ≤ x → x < g.length → ((row g x).length : Int) = g.length := fun x x0 x1 => by rw [(ht x x0 x1).1]
  have hent : ∀ x y : Int, 0 ≤ x → x < g.length → 0 ≤ y → y < g.length → 0 ≤ T g x y ∧ T g x y < g.length := fun x y x0 x1 y0 y1 => (ht x x0 x1).2 y y0 (by rw [hlen x x0 x1]; exact y1)
  have l0 := hlen 0 (by omega) (by omega)
  have la := hlen a a0 a1
  have hc := contains_ (row g a) 0 (rows_len hr a0 a1)
  rw [B_congr (show (∃ i : Int, 0 ≤ i ∧ i < (row g a).length ∧ rd (row g a) i = 0) ↔ ∃ b : Int, 0 ≤ b ∧ b < g.length ∧ T g a b = 0 by rw [la]; exact Iff.rfl)] at hc
  by_cases h2 : T g 0 a = a
  rotate_left
  · refine ⟨fun h => absurd h.1 h2, fun _ => ?_⟩
    (rw [impl_IsGroup.l1_eq])
    ((with_reducible repeat (first | refine go_pos (by first | assumption | omega | rfl | exact B_pos (by omega)) ?_ | refine go_neg (by first | assumption | omega | decide | exact B_not (by omega)) ?_ | refine go_bind (by first | assumption) ?_ | dsimp only)); first | done | (with_reducible rfl) | simp (disch := omega) only [w64] | (show False; done))
  by_cases h3 : T g a 0 = a
  rotate_left
  · refine ⟨fun h => absurd h.2.1 h3, fun _ => ?_⟩
    (rw [impl_IsGroup.l1_eq])
    ((with_reducible repeat (first | refine go_pos (by first | assumption | omega | rfl | exact B_pos (by omega)) ?_ | refine go_neg (by first | assumption | omega | decide | exact B_not (by omega)) ?_ | refine go_bind (by first | assumption) ?_ | dsimp only)); first | done | (with_reducible rfl) | simp (disch := omega) only [w64] | (show False; done))
  by_cases h4 : ∃ b : Int, 0 ≤ b ∧ b < g.length ∧ T g a b = 0
  rotate_left
  · refine ⟨fun h => absurd h.2.2.1 h4, fun _ => ?_⟩
    rw [B_neg h4] at hc
    (rw [impl_IsGroup.l1_eq])
    ((with_reducible repeat (first | refine go_pos (by first | assumption | omega | rfl | exact B_pos (by omega)) ?_ | refine go_neg (by first | assumption | omega | decide | exact B_not (by omega)) ?_ | refine go_bind (by first | assumption) ?_ | dsimp only)); first | done | (with_reducible rfl) | simp (disch := omega) only [w64] | (show False; done))
  rw [B_pos h4] at hc
  have inner := scanI g.length (fun b => impl_IsGroup.l2 (g.length : Int) a (g.length : Int) a (g.length : Int) b g) (fun b => ∀ c : Int, 0 ≤ c → c < g.length → T g (T g a b) c = T g a (T g b c)) (some false) (impl_IsGroup.l1 (g.length : Int) (g.length : Int) (a + 1) g)
    (fun b b0 b1 _ => by
      obtain ⟨e0, e1⟩ := hent a b a0 a1 b0 b1
      have le := hlen _ e0 e1
      have lb := hlen b b0 b1
      have := scanI g.length (fun c => impl_IsGroup.l3 (g.length : Int) a b (g.length : Int) a (g.length : Int) b (g.length : Int) c g) (fun c => T g (T g a b) c = T g a (T g b c)) (some false) (impl_IsGroup.l2 (g.length : Int) a (g.length : Int) a (g.length : Int) (b + 1) g)
        (fun c c0 c1 _ => by
          obtain ⟨f0, f1⟩ := hent b c b0 b1 c0 c1
          refine ⟨fun h => ?_, fun h => ?_⟩ <;> (rw [impl_IsGroup.l3_eq]) <;> ((with_reducible repeat (first | refine go_pos (by first | assumption | omega | rfl | exact B_pos (by omega)) ?_ | refine go_neg (by first | assumption | omega | decide | exact B_not (by omega)) ?_ | refine go_bind (by first | assumption) ?_ | dsimp only)); first | done | (with_reducible rfl) | simp (disch := omega) only [w64] | (show False; done))) (fun _ => by (rw [impl_IsGroup.l3_eq]); ((with_reducible repeat (first | refine go_pos (by first | assumption | omega | rfl | exact B_pos (by omega)) ?_ | refine go_neg (by first | assumption | omega | decide | exact B_not (by omega)) ?_ | refine go_bind (by first | assumption) ?_ | dsimp only)); first | done | (with_reducible rfl) | simp (disch := omega) only [w64] | (show False; done)))
      refine ⟨fun h => ?_, fun h => ?_⟩ <;> (rw [impl_IsGroup.l2_eq])
      · (with_reducible repeat (first | refine go_pos (by first | assumption | omega | rfl | exact B_pos (by omega)) ?_ | refine go_neg (by first | assumption | omega | decide | exact B_not (by omega)) ?_ | refine go_bind (by first | assumption) ?_ | dsimp only))
        exact this.1 h
      · (with_reducible repeat (first | refine go_pos (by first | assumption | omega | rfl | exact B_pos (by omega)) ?_ | refine go_neg (by first | assumption | omega | decide | exact B_not (by omega)) ?_ | refine go_bind (by first | assumption) ?_ | dsimp only))
        exact this.2 h) (fun _ => by (rw [impl_IsGroup.l2_eq]); ((with_reducible repeat (first | refine go_pos (by first | assumption | omega | rfl | exact B_pos (by omega)) ?_ | refine go_neg (by first | assumption | omega | decide | exact B_not (by omega)) ?_ | refine go_bind (by first | assumption) ?_ | dsimp only)); first | done | (with_reducible rfl) | simp (disch := omega) only [w64] | (show False; done)))
  refine ⟨fun h => ?_, fun h => ?_⟩ <;> (rw [impl_IsGroup.l1_eq]) <;> (with_reducible repeat (first | refine go_pos (by first | assumption | omega | rfl | exact B_pos (by omega)) ?_ | refine go_neg (by first | assumption | omega | decide | exact B_not (by omega)) ?_ | refine go_bind (by first | assumption) ?_ | dsimp only))
  · exact inner.1 h.2.2.2
  · exact inner.2 fun k => h ⟨h2, h3, h4, k⟩
end Go.Proofs.Ytjknpaplgclflaa.V
set_option linter.unusedVariables false
set_option linter.unusedSimpArgs false
set_option maxHeartbeats 2000000
set_option maxRecDepth 20000
namespace Go.Proofs.Ytjknpaplgclflaa.V
open Go.RowKit Go.Proofs.Ytjknpaplgclflaa.D Go.Proofs.Ytjknpaplgclflaa.P
theorem In_ (x lo hi : Int) : spec_l01In.f x lo hi = some (B (lo ≤ x ∧ x ≤ hi)) := by
  rw [spec_l01In.f_eq]
  by_cases h : x ≥ lo
  · rw [if_pos h, B_decide, B_congr (show x ≤ hi ↔ (lo ≤ x ∧ x ≤ hi) from ⟨fun h' => ⟨h, h'⟩, fun h' => h'.2⟩)]
  · rw [if_neg h, B_neg (fun h' => h h'.1)]
def LawS (g : List (List Int)) (a : Int) : Prop := T g 0 a = a ∧ T g a 0 = a ∧ (∀ b : Int, 0 ≤ b → b < g.length → ∀ c : Int, 0 ≤ c → c < g.length → T g (T g a b) c = T g a (T g b c)) ∧ ∃ b : Int, 0 ≤ b ∧ b < g.length ∧ T g a b = 0 ∧ T g b a = 0
theorem grp_iffS (g : List (List Int)) : Grp g ↔ (1 ≤ g.length ∧ g.length ≤ 8) ∧ Tab g ∧ ∀ a : Int, 0 ≤ a → a < g.length → LawS g a := by
  rw [grp_iff]
  constructor
  · intro h
    have hg := (grp_iff g).2 h
    refine ⟨h.1, h.2.1, fun a a0 a1 => ?_⟩
    obtain ⟨h1, h2, _, h4⟩ := h.2.2 a a0 a1
    exact ⟨h1, h2, h4, hg.inv2 a0 a1⟩
  · rintro ⟨h1, h2, h3⟩
    refine ⟨h1, h2, fun a a0 a1 => ?_⟩
    obtain ⟨k1, k2, k3, b, b0, b1, hb, _⟩ := h3 a a0 a1
    exact ⟨k1, k2, ⟨b, b0, b1, hb⟩, k3⟩
theorem Is_ (g : List (List Int)) : spec_l01Is.f g = some (B (Grp g)) := by
  rw [B_congr (grp_iffS g)]
  (rw [spec_l01Is.f_eq])
  by_cases c1 : 1 ≤ (g.length : Int) ∧ (g.length : Int) ≤ 8
  rotate_left
  · rw [B_neg fun h => c1 (by omega)]
    ((with_reducible repeat (first | refine go_pos (by first | assumption | omega | rfl | exact B_pos (by omega)) ?_ | refine go_neg (by first | assumption | omega | decide | exact B_not (by omega)) ?_ | refine go_bind (by first | assumption | exact In_ _ _ _) ?_ | dsimp only)); first | done | (with_reducible rfl) | simp (disch := omega) only [w64] | (show False; done))
  rw [B_congr (show ((1 ≤ g.length ∧ g.length ≤ 8) ∧ Tab g ∧ ∀ a : Int, 0 ≤ a → a < g.length → LawS g a) ↔ (Tab g ∧ ∀ a : Int, 0 ≤ a → a < g.length → LawS g a) from ⟨fun h => h.2, fun h => ⟨by omega, h⟩⟩)]
  (with_reducible repeat (first | refine go_pos (by first | assumption | omega | rfl | exact B_pos (by omega)) ?_ | refine go_neg (by first | assumption | omega | decide | exact B_not (by omega)) ?_ | refine go_bind (by first | assumption | exact In_ _ _ _) ?_ | dsimp only))
  have hw1 : wrapI ((g.length : Int) - 1) = g.length - 1 := w64 (by omega) (by omega)
  refine scanB g.length (fun i => spec_l01Is.l0 (g.length : Int) i g) (fun a => (row g a).length = g.length ∧ AllIn g.length (row g a)) (∀ a : Int, 0 ≤ a → a < g.length → LawS g a) (fun a a0 a1 _ => ?_) (fun ht => ?_)
  · by_cases h2 : ((row g a).length : Int) = g.length
    rotate_left
    · refine ⟨fun h => absurd h.1 (by omega), fun _ => ?_⟩
      (rw [spec_l01Is.l0_eq])
      ((with_reducible repeat (first | refine go_pos (by first | assumption | omega | rfl | exact B_pos (by omega)) ?_ | refine go_neg (by first | assumption | omega | decide | exact B_not (by omega)) ?_ | refine go_bind (by first | assumption) ?_ | dsimp only)); first | done | (with_reducible rfl) | simp (disch := omega) only [w64] | (show False; done))
    have inner := scanI g.length (fun b => spec_l01Is.l1 (g.length : Int) a b g) (fun b => 0 ≤ T g a b ∧ T g a b < g.length) (some false) (spec_l01Is.l0 (g.length : Int) (a + 1) g)
      (fun b b0 b1 _ => by refine ⟨fun h => ?_, fun h => ?_⟩ <;> (rw [spec_l01Is.l1_eq, hw1]) <;> ((with_reducible repeat (first | refine go_pos (by first | assumption | omega | rfl | exact B_pos (by omega)) ?_ | refine go_neg (by first | assumption | omega | decide | exact B_not (by omega)) ?_ | refine go_bind (by first | assumption | exact In_ _ _ _) ?_ | dsimp only)); first | done | (with_reducible rfl) | simp (disch := omega) only [w64] | (show False; done))) (fun _ => by (rw [spec_l01Is.l1_eq]); ((with_reducible repeat (first | refine go_pos (by first | assumption | omega | rfl | exact B_pos (by omega)) ?_ | refine go_neg (by first | assumption | omega | decide | exact B_not (by omega)) ?_ | refine go_bind (by first | assumption) ?_ | dsimp only)); first | done | (with_reducible rfl) | simp (disch := omega) only [w64] | (show False; done)))
    refine ⟨fun h => ?_, fun h => ?_⟩ <;> (rw [spec_l01Is.l0_eq]) <;> (with_reducible repeat (first | refine go_pos (by first | assumption | omega | rfl | exact B_pos (by omega)) ?_ | refine go_neg (by first | assumption | omega | decide | exact B_not (by omega)) ?_ | refine go_bind (by first | assumption) ?_ | dsimp only))
    · exact inner.1 fun j j0 j1 => h.2 j j0 (by omega)
    · exact inner.2 fun k => h ⟨by omega, fun j j0 j1 => k j j0 (by omega)⟩
  (rw [spec_l01Is.l0_eq])
  (with_reducible repeat (first | refine go_pos (by first | assumption | omega | rfl | exact B_pos (by omega)) ?_ | refine go_neg (by first | assumption | omega | decide | exact B_not (by omega)) ?_ | refine go_bind (by first | assumption) ?_ | dsimp only))
  refine scanT g.length (fun i => spec_l01Is.l2 (g.length : Int) i g) (LawS g) (fun a a0 a1 _ => ?_) (fun _ => by (rw [spec_l01Is.l2_eq]); ((with_reducible repeat (first | refine go_pos (by first | assumption | omega | rfl | exact B_pos (by omega)) ?_ | refine go_neg (by first | assumption | omega | decide | exact B_not (by omega)) ?_ | refine go_bind (by first | assumption) ?_ | dsimp only)); first | done | (with_reducible rfl) | simp (disch := omega) only [w64] | (show False; done)))
  have hlen : ∀ x : Int, 0 ≤ x → x < g.length → ((row g x).length : Int) = g.length := fun x x0 x1 => by rw [(ht x x0 x1).1]
  have hent : ∀ x y : Int, 0 ≤ x → x < g.length → 0 ≤ y → y < g.length → 0 ≤ T g x y ∧ T g x y < g.length := fun x y x0 x1 y0 y1 => (ht x x0 x1).2 y y0 (by rw [hlen x x0 x1]; exact y1)
  have l0 := hlen 0 (by omega) (by omega)
  have la := hlen a a0 a1
  by_cases h2 : T g 0 a = a
  rotate_left
  · refine ⟨fun h => absurd h.1 h2, fun _ => ?_⟩
    (rw [spec_l01Is.l2_eq])
    ((with_reducible repeat (first | refine go_pos (by first | assumption | omega | rfl | exact B_pos (by omega)) ?_ | refine go_neg (by first | assumption | omega | decide | exact B_not (by omega)) ?_ | refine go_bind (by first | assumption) ?_ | dsimp only)); first | done | (with_reducible rfl) | simp (disch := omega) only [w64] | (show False; done))
  by_cases h3 : T g a 0 = a
  rotate_left
  · refine ⟨fun h => absurd h.2.1 h3, fun _ => ?_⟩
    (rw [spec_l01Is.l2_eq])
    ((with_reducible repeat (first | refine go_pos (by first | assumption | omega | rfl | exact B_pos (by omega)) ?_ | refine go_neg (by first | assumption | omega | decide | exact B_not (by omega)) ?_ | refine go_bind (by first | assumption) ?_ | dsimp only)); first | done | (with_reducible rfl) | simp (disch := omega) only [w64] | (show False; done))
  let Fd : Int → Prop := fun b => ∃ j : Int, 0 ≤ j ∧ j < b ∧ T g a j = 0 ∧ T g j a = 0
  have fd0 : B (Fd 0) = false := B_neg fun ⟨j, j0, j1, _⟩ => by omega
  have inner := scan g.length (fun b => spec_l01Is.l3 (g.length : Int) a (B (Fd b)) b g) (fun b => ∀ c : Int, 0 ≤ c → c < g.length → T g (T g a b) c = T g a (T g b c)) (some false) (fun b b0 b1 _ => by
    obtain ⟨e0, e1⟩ := hent a b a0 a1 b0 b1
    have le := hlen _ e0 e1
    have lb := hlen b b0 b1
    have toj : spec_l01Is.l3 (g.length : Int) a (B (Fd b)) b g = spec_l01Is.l4 (g.length : Int) a (B (Fd (b + 1))) b 0 g := by
      by_cases k1 : Fd b
      · rw [B_pos k1, B_pos (show Fd (b + 1) from by obtain ⟨j, j0, j1, h⟩ := k1; exact ⟨j, j0, by omega, h⟩)]
        (rw [spec_l01Is.l3_eq])
        ((with_reducible repeat (first | refine go_pos (by first | assumption | omega | rfl | exact B_pos (by omega)) ?_ | refine go_neg (by first | assumption | omega | decide | exact B_not (by omega)) ?_ | refine go_bind (by first | assumption) ?_ | dsimp only)); first | done | (with_reducible rfl) | simp (disch := omega) only [w64] | (show False; done))
      · rw [B_neg k1]
        by_cases k2 : T g a b = 0
        · have e : B (Fd (b + 1)) = decide (T g b a = 0) := by
            by_cases k3 : T g b a = 0
            · rw [B_pos ⟨b, b0, by omega, k2, k3⟩]; simp [k3]
            · rw [B_neg]
              · simp [k3]
              · rintro ⟨j, j0, j1, ja, jb⟩
                by_cases ej : j = b
                · subst ej; exact k3 jb
                · exact k1 ⟨j, j0, by omega, ja, jb⟩
          rw [e]
          (rw [spec_l01Is.l3_eq])
          ((with_reducible repeat (first | refine go_pos (by first | assumption | omega | rfl | exact B_pos (by omega)) ?_ | refine go_neg (by first | assumption | omega | decide | exact B_not (by omega)) ?_ | refine go_bind (by first | assumption) ?_ | dsimp only)); first | done | (with_reducible rfl) | simp (disch := omega) only [w64] | (show False; done))
        · rw [B_neg (show ¬ Fd (b + 1) from by
            rintro ⟨j, j0, j1, ja, jb⟩
            by_cases ej : j = b
            · subst ej; exact k2 ja
            · exact k1 ⟨j, j0, by omega, ja, jb⟩)]
          (rw [spec_l01Is.l3_eq])
          ((with_reducible repeat (first | refine go_pos (by first | assumption | omega | rfl | exact B_pos (by omega)) ?_ | refine go_neg (by first | assumption | omega | decide | exact B_not (by omega)) ?_ | refine go_bind (by first | assumption) ?_ | dsimp only)); first | done | (with_reducible rfl) | simp (disch := omega) only [w64] | (show False; done))
    have inner4 := scanI g.length (fun c => spec_l01Is.l4 (g.length : Int) a (B (Fd (b + 1))) b c g) (fun c => T g (T g a b) c = T g a (T g b c)) (some false) (spec_l01Is.l3 (g.length : Int) a (B (Fd (b + 1))) (b + 1) g) (fun c c0 c1 _ => by
      obtain ⟨f0, f1⟩ := hent b c b0 b1 c0 c1
      refine ⟨fun h => ?_, fun h => ?_⟩ <;> (rw [spec_l01Is.l4_eq]) <;> ((with_reducible repeat (first | refine go_pos (by first | assumption | omega | rfl | exact B_pos (by omega)) ?_ | refine go_neg (by first | assumption | omega | decide | exact B_not (by omega)) ?_ | refine go_bind (by first | assumption) ?_ | dsimp only)); first | done | (with_reducible rfl) | simp (disch := omega) only [w64] | (show False; done))) (fun _ => by (rw [spec_l01Is.l4_eq]); ((with_reducible repeat (first | refine go_pos (by first | assumption | omega | rfl | exact B_pos (by omega)) ?_ | refine go_neg (by first | assumption | omega | decide | exact B_not (by omega)) ?_ | refine go_bind (by first | assumption) ?_ | dsimp only)); first | done | (with_reducible rfl) | simp (disch := omega) only [w64] | (show False; done)))
    exact ⟨fun h => toj.trans (inner4.1 h), fun h => toj.trans (inner4.2 h)⟩)
  have st : spec_l01Is.l2 (g.length : Int) a g = spec_l01Is.l3 (g.length : Int) a (B (Fd 0)) 0 g := by
    rw [fd0]
    (rw [spec_l01Is.l2_eq])
    ((with_reducible repeat (first | refine go_pos (by first | assumption | omega | rfl | exact B_pos (by omega)) ?_ | refine go_neg (by first | assumption | omega | decide | exact B_not (by omega)) ?_ | refine go_bind (by first | assumption) ?_ | dsimp only)); first | done | (with_reducible rfl) | simp (disch := omega) only [w64] | (show False; done))
  rw [st]
  rcases inner with ⟨h5, h6⟩ | ⟨b, b0, b1, _, h5, _, h6⟩
  · simp only [h6]
    by_cases h7 : Fd g.length
    · refine ⟨fun _ => ?_, fun h => absurd ⟨h2, h3, h5, h7⟩ h⟩
      rw [B_pos h7]
      (rw [spec_l01Is.l3_eq])
      ((with_reducible repeat (first | refine go_pos (by first | assumption | omega | rfl | exact B_pos (by omega)) ?_ | refine go_neg (by first | assumption | omega | decide | exact B_not (by omega)) ?_ | refine go_bind (by first | assumption) ?_ | dsimp only)); first | done | (with_reducible rfl) | simp (disch := omega) only [w64] | (show False; done))
    · refine ⟨fun h => absurd h.2.2.2 h7, fun h => ?_⟩
      rw [B_neg h7]
      (rw [spec_l01Is.l3_eq])
      ((with_reducible repeat (first | refine go_pos (by first | assumption | omega | rfl | exact B_pos (by omega)) ?_ | refine go_neg (by first | assumption | omega | decide | exact B_not (by omega)) ?_ | refine go_bind (by first | assumption) ?_ | dsimp only)); first | done | (with_reducible rfl) | simp (disch := omega) only [w64] | (show False; done))
  · exact ⟨fun h => absurd (h.2.2.1 b b0 b1) h5, fun _ => h6⟩
theorem gcd0 (y : Nat) : ∀ x : Nat, impl_gcd.l0 (x : Int) (y : Int) = some ((Nat.gcd x y : Nat) : Int) := by
  induction y using Nat.strongRecOn with
  | _ y ih =>
    intro x
    (rw [impl_gcd.l0_eq])
    by_cases h : y = 0
    · subst h
      simp
    · have e : Int.tmod (x : Int) (y : Int) = ((x % y : Nat) : Int) := by rw [Int.ofNat_tmod]
      have := ih (x % y) (Nat.mod_lt _ (by omega)) y
      rw [show Nat.gcd y (x % y) = Nat.gcd x y by rw [Nat.gcd_comm x y, Nat.gcd_rec y x, Nat.gcd_comm]] at this
      rw [e]
      (with_reducible repeat (first | refine go_pos (by first | assumption | omega | rfl | exact B_pos (by omega)) ?_ | refine go_neg (by first | assumption | omega | decide | exact B_not (by omega)) ?_ | refine go_bind (by first | assumption) ?_ | dsimp only))
      exact this
theorem gcd_ {a b : Int} (ha : 0 ≤ a) (hb : 0 ≤ b) : impl_gcd.f a b = some ((Int.gcd a b : Nat) : Int) := by
  obtain ⟨x, rfl⟩ := Int.eq_ofNat_of_zero_le ha
  obtain ⟨y, rfl⟩ := Int.eq_ofNat_of_zero_le hb
  have := gcd0 y x
  rw [impl_gcd.f_eq]
  simpa [Int.gcd] using this
theorem Gcd0 (y : Nat) : ∀ x : Nat, x ≤ 9223372036854775807 → y ≤ 9223372036854775807 → spec_l01Gcd.l0 (x : Int) (y : Int) = some ((Nat.gcd x y : Nat) : Int) := by
  induction y using Nat.strongRecOn with
  | _ y ih =>
    intro x hx hy
    (rw [spec_l01Gcd.l0_eq])
    by_cases h : y = 0
    · subst h
      have hw : wrapI (0 - (x : Int)) = -(x : Int) := by rw [w64 (by omega) (by omega)]; omega
      rw [hw, if_pos (by simp), if_neg (by omega)]
      simp
    · have e : Int.tmod (x : Int) (y : Int) = ((x % y : Nat) : Int) := by rw [Int.ofNat_tmod]
      have hlt := Nat.mod_lt x (show y > 0 by omega)
      have := ih (x % y) hlt y hy (by omega)
      rw [show Nat.gcd y (x % y) = Nat.gcd x y by rw [Nat.gcd_comm x y, Nat.gcd_rec y x, Nat.gcd_comm]] at this
      rw [e]
      (with_reducible repeat (first | refine go_pos (by first | assumption | omega | rfl | exact B_pos (by omega)) ?_ | refine go_neg (by first | assumption | omega | decide | exact B_not (by omega)) ?_ | refine go_bind (by first | assumption) ?_ | dsimp only))
      exact this
theorem Gcd_ {a b : Int} (ha : 0 ≤ a) (hb : 0 ≤ b) (ha' : a ≤ 9223372036854775807) (hb' : b ≤ 9223372036854775807) : spec_l01Gcd.f a b = some ((Int.gcd a b : Nat) : Int) := by
  obtain ⟨x, rfl⟩ := Int.eq_ofNat_of_zero_le ha
  obtain ⟨y, rfl⟩ := Int.eq_ofNat_of_zero_le hb
  have := Gcd0 y x (by omega) (by omega)
  rw [spec_l01Gcd.f_eq]
  simpa [Int.gcd] using this
theorem Grp.foldl_in {g : List (List Int)} (hg : Grp g) : ∀ (xs : List Int) (x : Int), AllIn g.length xs → 0 ≤ x → x < g.length → 0 ≤ xs.foldl (T g) x ∧ xs.foldl (T g) x < g.length := by
  intro xs
  induction xs with
  | nil => exact fun x _ a b => ⟨a, b⟩
  | cons y ys ih =>
    intro x hx x0 x1
    obtain ⟨y0, y1⟩ := hx.mem (List.mem_cons_self ..)
    obtain ⟨z0, z1⟩ := hg.ent x y x0 x1 y0 y1
    exact ih _ (allIn_of fun z hz => hx.mem (List.mem_cons_of_mem _ hz)) z0 z1
theorem take_rd {xs : List Int} {m : Nat} (h : m < xs.length) : xs.take (m + 1) = xs.take m ++ [rd xs m] := by
  rw [List.take_succ_eq_append_getElem h, rd_get h]
theorem times {g : List (List Int)} (hg : Grp g) (xs : List Int) (hx : AllIn g.length xs) (hl : xs.length ≤ maxLen) : impl_Group_times.f g xs = some (xs.foldl (T g) 0) := by
  have hm := maxLen_le
  have n1 := hg.n1
  rw [impl_Group_times.f_eq]
  have := up xs.length (fun i => impl_Group_times.l0 ((xs.take i).foldl (T g) 0) xs (xs.length : Int) (i : Int) g) (fun i hi => by
    obtain ⟨z0, z1⟩ := hg.foldl_in (xs.take i) 0 (hx.take i) (by omega) (by omega)
    obtain ⟨y0, y1⟩ := hx i (by omega) (by omega)
    have hr : ((row g ((xs.take i).foldl (T g) 0)).length : Int) = g.length := by rw [hg.row _ z0 z1]
    have hw : wrapI ((i : Int) + 1) = ((i + 1 : Nat) : Int) := by rw [w64 (by omega) (by omega)]; omega
    rw [take_rd hi, List.foldl_append, List.foldl_cons, List.foldl_nil]
    (rw [impl_Group_times.l0_eq, hw])
    ((with_reducible repeat (first | refine go_pos (by first | assumption | omega | rfl | exact B_pos (by omega)) ?_ | refine go_neg (by first | assumption | omega | decide | exact B_not (by omega)) ?_ | refine go_bind (by first | assumption) ?_ | dsimp only)); first | done | (with_reducible rfl) | simp (disch := omega) only [w64] | (show False; done)))
  simp only [List.take_zero, List.foldl_nil, List.take_length, Int.natCast_zero] at this
  rw [this]
  (rw [impl_Group_times.l0_eq])
  ((with_reducible repeat (first | refine go_pos (by first | assumption | omega | rfl | exact B_pos (by omega)) ?_ | refine go_neg (by first | assumption | omega | decide | exact B_not (by omega)) ?_ | refine go_bind (by first | assumption) ?_ | dsimp only)); first | done | (with_reducible rfl) | simp (disch := omega) only [w64] | (show False; done))
theorem times2 {g : List (List Int)} (hg : Grp g) {x y : Int} (x0 : 0 ≤ x) (x1 : x < g.length) (y0 : 0 ≤ y) (y1 : y < g.length) : impl_Group_times.f g [x, y] = some (T g x y) := by
  have := times hg [x, y] (allIn_two x0 x1 y0 y1) (by unfold maxLen; simp)
  simpa [hg.one x x0 x1] using this
end Go.Proofs.Ytjknpaplgclflaa.V
set_option linter.unusedVariables false
set_option linter.unusedSimpArgs false
set_option maxHeartbeats 2000000
set_option maxRecDepth 20000
namespace Go.Proofs.Ytjknpaplgclflaa.V
open Go.RowKit Go.Proofs.Ytjknpaplgclflaa.D Go.Proofs.Ytjknpaplgclflaa.P
structure Mdl (g : List (List Int)) (m : Int) (u : List Int) : Prop where
  m2 : 2 ≤ m
  m12 : m ≤ 12
  len : u.length = g.length
  unit : ∀ i : Int, 0 ≤ i → i < u.length → 1 ≤ rd u i ∧ rd u i < m ∧ Int.gcd (rd u i) m = 1
  hom : ∀ i : Int, 0 ≤ i → i < u.length → ∀ j : Int, 0 ≤ j → j < u.length → rd u (T g i j) = rd u i * rd u j % m
theorem unit_one : ∀ m : Nat, m ≤ 12 → ∀ u : Nat, u < m → Nat.gcd u m = 1 → u = u * u % m → 1 ≤ u → u = 1 := by decide
theorem Mdl.one {g : List (List Int)} {m : Int} {u : List Int} (hg : Grp g) (h : Mdl g m u) : rd u 0 = 1 := by
  have n1 := hg.n1
  have hl := h.len
  obtain ⟨a1, a2, a3⟩ := h.unit 0 (by omega) (by omega)
  have e := h.hom 0 (by omega) (by omega) 0 (by omega) (by omega)
  rw [hg.one 0 (by omega) (by omega)] at e
  have m2 := h.m2; have m12 := h.m12
  obtain ⟨M, rfl⟩ := Int.eq_ofNat_of_zero_le (show 0 ≤ m by omega)
  obtain ⟨U, hU⟩ := Int.eq_ofNat_of_zero_le (show 0 ≤ rd u 0 by omega)
  rw [hU] at a1 a2 a3 e ⊢
  have := unit_one M (by omega) U (by omega) (by simpa [Int.gcd] using a3) (by exact_mod_cast e) (by omega)
  omega
theorem mul_lt_small {a b m : Int} (a0 : 0 ≤ a) (a1 : a < m) (b0 : 0 ≤ b) (b1 : b < m) (hm : m ≤ 1000) : 0 ≤ a * b ∧ a * b ≤ 1000000 := by
  refine ⟨Int.mul_nonneg a0 b0, ?_⟩
  have h1 : a * b ≤ 1000 * b := Int.mul_le_mul_of_nonneg_right (by omega) b0
  omega
theorem Mdl.at {g : List (List Int)} {m : Int} {u : List Int} (h : Mdl g m u) {x : Int} (x0 : 0 ≤ x) (x1 : x < g.length) : 1 ≤ rd u x ∧ rd u x < m := by
  have hl := h.len
  obtain ⟨a, b, _⟩ := h.unit x x0 (by omega)
  exact ⟨a, b⟩
theorem small_prod {m x : Int} {u : List Int} {g : List (List Int)} (hm : Mdl g m u) (x0 : 0 ≤ x) (x1 : x < g.length) {b : Int} (b0 : 0 ≤ b) (b1 : b < m) : 0 ≤ rd u x * b ∧ rd u x * b ≤ 1000000 := by
  have m12 := hm.m12
  have := hm.at x0 x1
  exact mul_lt_small (by omega) this.2 b0 b1 (by omega)
theorem isUnit {m x : Int} (m0 : 0 ≤ m) : impl_isUnit.f m x = some (B (1 ≤ x ∧ x < m ∧ Int.gcd x m = 1)) := by
  rw [impl_isUnit.f_eq]
  by_cases h1 : 1 ≤ x ∧ x < m
  · have h := gcd_ m0 (show 0 ≤ x by omega)
    (with_reducible repeat (first | refine go_pos (by first | assumption | omega | rfl | exact B_pos (by omega)) ?_ | refine go_neg (by first | assumption | omega | decide | exact B_not (by omega)) ?_ | refine go_bind (by first | assumption) ?_ | dsimp only))
    rw [Int.gcd_comm]
    by_cases h3 : Int.gcd x m = 1
    · rw [B_pos ⟨h1.1, h1.2, h3⟩]; simp [h3]
    · rw [B_neg fun h => h3 h.2.2]
      simp; omega
  · rw [B_neg fun h => h1 ⟨h.1, h.2.1⟩]
    by_cases h2 : 1 ≤ x <;> ((with_reducible repeat (first | refine go_pos (by first | assumption | omega | rfl | exact B_pos (by omega)) ?_ | refine go_neg (by first | assumption | omega | decide | exact B_not (by omega)) ?_ | refine go_bind (by first | assumption) ?_ | dsimp only)); first | done | (with_reducible rfl) | simp (disch := omega) only [w64] | (show False; done))
theorem isModulus (m : Int) : impl_isModulus.f m = some (B (2 ≤ m ∧ m ≤ 12)) := by
  rw [impl_isModulus.f_eq]
  by_cases h : m ≥ 2
  · rw [if_pos h, B_decide, B_congr (show m ≤ 12 ↔ (2 ≤ m ∧ m ≤ 12) from ⟨fun h' => ⟨h, h'⟩, fun h' => h'.2⟩)]
  · rw [if_neg h, B_neg (fun h' => h h'.1)]
theorem mdl_iff (g : List (List Int)) (m : Int) (u : List Int) : Mdl g m u ↔ (2 ≤ m ∧ m ≤ 12) ∧ u.length = g.length ∧ (∀ i : Int, 0 ≤ i → i < u.length → 1 ≤ rd u i ∧ rd u i < m ∧ Int.gcd (rd u i) m = 1) ∧ ∀ i : Int, 0 ≤ i → i < u.length → ∀ j : Int, 0 ≤ j → j < u.length → rd u (T g i j) = rd u i * rd u j % m :=
  ⟨fun h => ⟨⟨h.m2, h.m12⟩, h.len, h.unit, h.hom⟩, fun ⟨⟨a, b⟩, c, d, e⟩ => ⟨a, b, c, d, e⟩⟩
theorem isModule {g : List (List Int)} (hg : Grp g) (m : Int) (u : List Int) (hl : u.length ≤ maxLen) : impl_isModule.f g m u = some (B (Mdl g m u)) := by
  have hm := maxLen_le
  have n1 := hg.n1
  (rw [impl_isModule.f_eq])
  by_cases h1 : 2 ≤ m ∧ m ≤ 12
  rotate_left
  · rw [B_neg fun h => h1 ⟨h.m2, h.m12⟩]
    ((with_reducible repeat (first | refine go_pos (by first | assumption | omega | rfl | exact B_pos (by omega)) ?_ | refine go_neg (by first | assumption | omega | decide | exact B_not (by omega)) ?_ | refine go_bind (by first | assumption | exact isModulus _ | exact impl_order.f_eq _) ?_ | dsimp only)); first | done | (with_reducible rfl) | simp (disch := omega) only [w64] | (show False; done))
  by_cases h3 : (u.length : Int) = g.length
  rotate_left
  · rw [B_neg fun h => h3 (by rw [h.len])]
    ((with_reducible repeat (first | refine go_pos (by first | assumption | omega | rfl | exact B_pos (by omega)) ?_ | refine go_neg (by first | assumption | omega | decide | exact B_not (by omega)) ?_ | refine go_bind (by first | assumption | exact isModulus _ | exact impl_order.f_eq _) ?_ | dsimp only)); first | done | (with_reducible rfl) | simp (disch := omega) only [w64] | (show False; done))
  by_cases h5 : rd u 0 = 1
  rotate_left
  · rw [B_neg fun h => h5 (h.one hg)]
    ((with_reducible repeat (first | refine go_pos (by first | assumption | omega | rfl | exact B_pos (by omega)) ?_ | refine go_neg (by first | assumption | omega | decide | exact B_not (by omega)) ?_ | refine go_bind (by first | assumption | exact isModulus _ | exact impl_order.f_eq _) ?_ | dsimp only)); first | done | (with_reducible rfl) | simp (disch := omega) only [w64] | (show False; done))
  (with_reducible repeat (first | refine go_pos (by first | assumption | omega | rfl | exact B_pos (by omega)) ?_ | refine go_neg (by first | assumption | omega | decide | exact B_not (by omega)) ?_ | refine go_bind (by first | assumption | exact isModulus _ | exact impl_order.f_eq _) ?_ | dsimp only))
  rw [B_congr (mdl_iff g m u), B_congr (show ((2 ≤ m ∧ m ≤ 12) ∧ u.length = g.length ∧ (∀ i : Int, 0 ≤ i → i < u.length → 1 ≤ rd u i ∧ rd u i < m ∧ Int.gcd (rd u i) m = 1) ∧ ∀ i : Int, 0 ≤ i → i < u.length → ∀ j : Int, 0 ≤ j → j < u.length → rd u (T g i j) = rd u i * rd u j % m) ↔ _ from ⟨fun h => h.2.2, fun h => ⟨h1, by omega, h⟩⟩)]
  refine scanB u.length (fun i => impl_isModule.l0 u (u.length : Int) i g m u) (fun i => 1 ≤ rd u i ∧ rd u i < m ∧ Int.gcd (rd u i) m = 1) _ (fun i i0 i1 _ => ?_) (fun hu => ?_)
  · have hu := isUnit (m := m) (x := rd u i) (by omega)
    refine ⟨fun h => ?_, fun h => ?_⟩ <;> (rw [impl_isModule.l0_eq]) <;> ((with_reducible repeat (first | refine go_pos (by first | assumption | omega | rfl | exact B_pos (by omega)) ?_ | refine go_neg (by first | assumption | omega | decide | exact B_not (by omega)) ?_ | refine go_bind (by first | assumption) ?_ | dsimp only)); first | done | (with_reducible rfl) | simp (disch := omega) only [w64] | (show False; done))
  (rw [impl_isModule.l0_eq])
  (with_reducible repeat (first | refine go_pos (by first | assumption | omega | rfl | exact B_pos (by omega)) ?_ | refine go_neg (by first | assumption | omega | decide | exact B_not (by omega)) ?_ | refine go_bind (by first | assumption | exact impl_order.f_eq _) ?_ | dsimp only))
  rw [← h3]
  refine scanT u.length (fun i => impl_isModule.l1 (u.length : Int) i g m u) (fun i => ∀ j : Int, 0 ≤ j → j < u.length → rd u (T g i j) = rd u i * rd u j % m) (fun i i0 i1 _ => ?_) (fun _ => by (rw [impl_isModule.l1_eq]); ((with_reducible repeat (first | refine go_pos (by first | assumption | omega | rfl | exact B_pos (by omega)) ?_ | refine go_neg (by first | assumption | omega | decide | exact B_not (by omega)) ?_ | refine go_bind (by first | assumption) ?_ | dsimp only)); first | done | (with_reducible rfl) | simp (disch := omega) only [w64] | (show False; done)))
  have inner := scanI u.length (fun j => impl_isModule.l2 i (u.length : Int) i (u.length : Int) j g m u) (fun j => rd u (T g i j) = rd u i * rd u j % m) (some false) (impl_isModule.l1 (u.length : Int) (i + 1) g m u) (fun j j0 j1 _ => by
    have ht := times2 hg i0 (by omega) j0 (by omega)
    obtain ⟨e0, e1⟩ := hg.ent i j i0 (by omega) j0 (by omega)
    obtain ⟨p0, p1⟩ := mul_lt_small (show 0 ≤ rd u i by have := (hu i i0 i1).1; omega) (hu i i0 i1).2.1 (show 0 ≤ rd u j by have := (hu j j0 j1).1; omega) (hu j j0 j1).2.1 (by omega)
    have hwp : wrapI (rd u i * rd u j) = rd u i * rd u j := w64 (by omega) (by omega)
    have e := tmod_nn (m := m) p0
    refine ⟨fun h => ?_, fun h => ?_⟩ <;> (rw [impl_isModule.l2_eq, hwp, e]) <;> ((with_reducible repeat (first | refine go_pos (by first | assumption | omega | rfl | exact B_pos (by omega)) ?_ | refine go_neg (by first | assumption | omega | decide | exact B_not (by omega)) ?_ | refine go_bind (by first | assumption) ?_ | dsimp only)); first | done | (with_reducible rfl) | simp (disch := omega) only [w64] | (show False; done))) (fun _ => by (rw [impl_isModule.l2_eq]); ((with_reducible repeat (first | refine go_pos (by first | assumption | omega | rfl | exact B_pos (by omega)) ?_ | refine go_neg (by first | assumption | omega | decide | exact B_not (by omega)) ?_ | refine go_bind (by first | assumption) ?_ | dsimp only)); first | done | (with_reducible rfl) | simp (disch := omega) only [w64] | (show False; done)))
  refine ⟨fun h => ?_, fun h => ?_⟩ <;> (rw [impl_isModule.l1_eq]) <;> (with_reducible repeat (first | refine go_pos (by first | assumption | omega | rfl | exact B_pos (by omega)) ?_ | refine go_neg (by first | assumption | omega | decide | exact B_not (by omega)) ?_ | refine go_bind (by first | assumption | exact impl_order.f_eq _) ?_ | dsimp only)) <;> rw [← h3]
  · exact inner.1 h
  · exact inner.2 h
theorem Is02 {g : List (List Int)} (hg : Grp g) (m : Int) (u : List Int) (hl : u.length ≤ maxLen) : spec_l02Is.f g m u = some (B (Mdl g m u)) := by
  have hm := maxLen_le
  have n1 := hg.n1
  (rw [spec_l02Is.f_eq])
  by_cases h1 : 2 ≤ m ∧ m ≤ 12
  rotate_left
  · rw [B_neg fun h => h1 ⟨h.m2, h.m12⟩]
    ((with_reducible repeat (first | refine go_pos (by first | assumption | omega | rfl | exact B_pos (by omega)) ?_ | refine go_neg (by first | assumption | omega | decide | exact B_not (by omega)) ?_ | refine go_bind (by first | assumption | exact In_ _ _ _) ?_ | dsimp only)); first | done | (with_reducible rfl) | simp (disch := omega) only [w64] | (show False; done))
  by_cases h3 : (u.length : Int) = g.length
  rotate_left
  · rw [B_neg fun h => h3 (by rw [h.len])]
    ((with_reducible repeat (first | refine go_pos (by first | assumption | omega | rfl | exact B_pos (by omega)) ?_ | refine go_neg (by first | assumption | omega | decide | exact B_not (by omega)) ?_ | refine go_bind (by first | assumption | exact In_ _ _ _) ?_ | dsimp only)); first | done | (with_reducible rfl) | simp (disch := omega) only [w64] | (show False; done))
  (with_reducible repeat (first | refine go_pos (by first | assumption | omega | rfl | exact B_pos (by omega)) ?_ | refine go_neg (by first | assumption | omega | decide | exact B_not (by omega)) ?_ | refine go_bind (by first | assumption | exact In_ _ _ _) ?_ | dsimp only))
  rw [B_congr (mdl_iff g m u), B_congr (show ((2 ≤ m ∧ m ≤ 12) ∧ u.length = g.length ∧ (∀ i : Int, 0 ≤ i → i < u.length → 1 ≤ rd u i ∧ rd u i < m ∧ Int.gcd (rd u i) m = 1) ∧ ∀ i : Int, 0 ≤ i → i < u.length → ∀ j : Int, 0 ≤ j → j < u.length → rd u (T g i j) = rd u i * rd u j % m) ↔ _ from ⟨fun h => h.2.2, fun h => ⟨h1, by omega, h⟩⟩)]
  have hw1 : wrapI (m - 1) = m - 1 := w64 (by omega) (by omega)
  refine scanB u.length (fun i => spec_l02Is.l0 i g m u) (fun i => 1 ≤ rd u i ∧ rd u i < m ∧ Int.gcd (rd u i) m = 1) _ (fun i i0 i1 _ => ?_) (fun hu => ?_)
  · refine ⟨fun h => ?_, fun h => ?_⟩ <;> (rw [spec_l02Is.l0_eq, hw1])
    · have hgc := Gcd_ (a := rd u i) (b := m) (by omega) (by omega) (by omega) (by omega)
      ((with_reducible repeat (first | refine go_pos (by first | assumption | omega | rfl | exact B_pos (by omega)) ?_ | refine go_neg (by first | assumption | omega | decide | exact B_not (by omega)) ?_ | refine go_bind (by first | assumption | exact In_ _ _ _) ?_ | dsimp only)); first | done | (with_reducible rfl) | simp (disch := omega) only [w64] | (show False; done))
    · by_cases h6 : 1 ≤ rd u i ∧ rd u i < m
      · have hgc := Gcd_ (a := rd u i) (b := m) (by omega) (by omega) (by omega) (by omega)
        ((with_reducible repeat (first | refine go_pos (by first | assumption | omega | rfl | exact B_pos (by omega)) ?_ | refine go_neg (by first | assumption | omega | decide | exact B_not (by omega)) ?_ | refine go_bind (by first | assumption | exact In_ _ _ _) ?_ | dsimp only)); first | done | (with_reducible rfl) | simp (disch := omega) only [w64] | (show False; done))
      · ((with_reducible repeat (first | refine go_pos (by first | assumption | omega | rfl | exact B_pos (by omega)) ?_ | refine go_neg (by first | assumption | omega | decide | exact B_not (by omega)) ?_ | refine go_bind (by first | assumption | exact In_ _ _ _) ?_ | dsimp only)); first | done | (with_reducible rfl) | simp (disch := omega) only [w64] | (show False; done))
  (rw [spec_l02Is.l0_eq])
  (with_reducible repeat (first | refine go_pos (by first | assumption | omega | rfl | exact B_pos (by omega)) ?_ | refine go_neg (by first | assumption | omega | decide | exact B_not (by omega)) ?_ | refine go_bind (by first | assumption) ?_ | dsimp only))
  refine scanT u.length (fun i => spec_l02Is.l1 i g m u) (fun i => ∀ j : Int, 0 ≤ j → j < u.length → rd u (T g i j) = rd u i * rd u j % m) (fun i i0 i1 _ => ?_) (fun _ => by (rw [spec_l02Is.l1_eq]); ((with_reducible repeat (first | refine go_pos (by first | assumption | omega | rfl | exact B_pos (by omega)) ?_ | refine go_neg (by first | assumption | omega | decide | exact B_not (by omega)) ?_ | refine go_bind (by first | assumption) ?_ | dsimp only)); first | done | (with_reducible rfl) | simp (disch := omega) only [w64] | (show False; done)))
  have ri := hg.row i i0 (by omega)
  have inner := scanI u.length (fun j => spec_l02Is.l2 i j g m u) (fun j => rd u (T g i j) = rd u i * rd u j % m) (some false) (spec_l02Is.l1 (i + 1) g m u) (fun j j0 j1 _ => by
    obtain ⟨e0, e1⟩ := hg.ent i j i0 (by omega) j0 (by omega)
    obtain ⟨p0, p1⟩ := mul_lt_small (show 0 ≤ rd u i by have := (hu i i0 i1).1; omega) (hu i i0 i1).2.1 (show 0 ≤ rd u j by have := (hu j j0 j1).1; omega) (hu j j0 j1).2.1 (by omega)
    have hwp : wrapI (rd u i * rd u j) = rd u i * rd u j := w64 (by omega) (by omega)
    have e := tmod_nn (m := m) p0
    refine ⟨fun h => ?_, fun h => ?_⟩ <;> (rw [spec_l02Is.l2_eq, hwp, e]) <;> ((with_reducible repeat (first | refine go_pos (by first | assumption | omega | rfl | exact B_pos (by omega)) ?_ | refine go_neg (by first | assumption | omega | decide | exact B_not (by omega)) ?_ | refine go_bind (by first | assumption) ?_ | dsimp only)); first | done | (with_reducible rfl) | simp (disch := omega) only [w64] | (show False; done))) (fun _ => by (rw [spec_l02Is.l2_eq]); ((with_reducible repeat (first | refine go_pos (by first | assumption | omega | rfl | exact B_pos (by omega)) ?_ | refine go_neg (by first | assumption | omega | decide | exact B_not (by omega)) ?_ | refine go_bind (by first | assumption) ?_ | dsimp only)); first | done | (with_reducible rfl) | simp (disch := omega) only [w64] | (show False; done)))
  refine ⟨fun h => ?_, fun h => ?_⟩ <;> (rw [spec_l02Is.l1_eq]) <;> (with_reducible repeat (first | refine go_pos (by first | assumption | omega | rfl | exact B_pos (by omega)) ?_ | refine go_neg (by first | assumption | omega | decide | exact B_not (by omega)) ?_ | refine go_bind (by first | assumption) ?_ | dsimp only))
  · exact inner.1 h
  · exact inner.2 h
def GM (g : List (List Int)) (m : Int) (u : List Int) : Prop := Grp g ∧ Mdl g m u
theorem areModules1 (g : List (List Int)) (hl : g.length ≤ maxLen) (hr : ∀ r ∈ g, r.length ≤ maxLen) (m : Int) (u : List Int) (hu : u.length ≤ maxLen) : impl_areModules.f g [(m, u)] = some (B (GM g m u)) := by
  have hG := isGroup g hl hr
  rw [impl_areModules.f_eq]
  have st : impl_areModules.l0 [(m, u)] (([(m, u)] : List (Int × List Int)).length : Int) 1 g = some true := by (rw [impl_areModules.l0_eq]); exact if_neg (by simp)
  (rw [impl_areModules.l0_eq])
  rw [if_pos (by simp), if_pos (by simp), if_pos (by simp), hG]
  by_cases h1 : Grp g
  · have hM := isModule h1 m u hu
    rw [B_pos h1]
    show (Option.bind (impl_isModule.f g m u) _) = _
    rw [hM]
    by_cases h2 : Mdl g m u
    · rw [B_pos h2, B_pos ⟨h1, h2⟩]
      simpa [show wrapI 1 = 1 from w64 (by omega) (by omega)] using st
    · rw [B_neg h2, B_neg fun h => h2 h.2]
      rfl
  · rw [B_neg h1, B_neg fun h => h1 h.1]
    rfl
theorem moduleCode1 (g : List (List Int)) (hl : g.length ≤ maxLen) (hr : ∀ r ∈ g, r.length ≤ maxLen) (m : Int) (u : List Int) (hu : u.length ≤ maxLen) : impl_moduleCode.f g [(m, u)] = some (ite_ (GM g m u) 0 1) := by
  rw [impl_moduleCode.f_eq, areModules1 g hl hr m u hu]
  by_cases h : GM g m u
  · rw [B_pos h, ite_pos h]; rfl
  · rw [B_neg h, ite_neg h]; rfl
end Go.Proofs.Ytjknpaplgclflaa.V
set_option linter.unusedVariables false
set_option linter.unusedSimpArgs false
set_option maxHeartbeats 2000000
set_option maxRecDepth 20000
namespace Go.Proofs.Ytjknpaplgclflaa.V
open Go.RowKit Go.Proofs.Ytjknpaplgclflaa.D Go.Proofs.Ytjknpaplgclflaa.P
theorem Mod_ {a m : Int} (h0 : -1000000000 ≤ a) (h1 : a ≤ 1000000000) (m0 : 0 < m) (m1 : m ≤ 1000000) : spec_l01Mod.f a m = some (a % m) := by
  rw [spec_l01Mod.f_eq]
  have t0 := Int.tmod_lt_of_pos a m0
  have t1 : -m < Int.tmod a m := Int.lt_tmod_of_pos a m0
  have hq := Int.mul_tdiv_add_tmod a m
  have h5 : (m * a.tdiv m + a.tmod m) % m = a.tmod m % m := by rw [Int.add_comm, Int.add_mul_emod_self_left]
  rw [hq] at h5
  rw [w64 (by omega) (by omega), Int.tmod_eq_emod_of_nonneg (show 0 ≤ Int.tmod a m + m by omega), Int.add_emod_right, ← h5]
  ((with_reducible repeat (first | refine go_pos (by first | assumption | omega | rfl | exact B_pos (by omega)) ?_ | refine go_neg (by first | assumption | omega | decide | exact B_not (by omega)) ?_ | refine go_bind (by first | assumption) ?_ | dsimp only)); first | done | (with_reducible rfl) | simp (disch := omega) only [w64] | (show False; done))
def cells (g : List (List Int)) (d : Int) : Int := ((g.length : Int) - 1) ^ d.toNat
def idx (g : List (List Int)) (xs : List Int) : Int := xs.foldl (fun a x => a * ((g.length : Int) - 1) + x - 1) 0
def NoUnit (xs : List Int) : Prop := ∀ j : Int, 0 ≤ j → j < xs.length → ¬ rd xs j = 0
noncomputable def At (g : List (List Int)) (v xs : List Int) : Int := ite_ (NoUnit xs) (rd v (idx g xs)) 0
end Go.Proofs.Ytjknpaplgclflaa.V
set_option linter.unusedVariables false
set_option linter.unusedSimpArgs false
set_option maxHeartbeats 2000000
set_option maxRecDepth 20000
namespace Go.Proofs.Ytjknpaplgclflaa.V
open Go.RowKit Go.Proofs.Ytjknpaplgclflaa.D Go.Proofs.Ytjknpaplgclflaa.P
theorem mapped {F : Int → Option Int} {G : Int → Int} (xs : List Int) (hl : xs.length ≤ 1048576) (hF : ∀ x ∈ xs, F x = some (G x)) : impl_mapped.f xs F = some (xs.map G) := by
  rw [impl_mapped.f_eq]
  have := up xs.length (fun j => impl_mapped.l0 F xs (xs.length : Int) (j : Int) ((xs.take j).map G)) (fun j h => by
    have hw : wrapI ((j : Int) + 1) = ((j + 1 : Nat) : Int) := by rw [w64 (by omega) (by omega)]; omega
    have l1 : ((xs.take j).map G).length = j := by rw [List.length_map, List.length_take]; omega
    have l2 : ∀ x : Int, ([x] : List Int).length = 1 := fun _ => rfl
    have hf := hF _ (rd_mem (show (0 : Int) ≤ j by omega) (show (j : Int) < xs.length by omega))
    rw [take_rd h, List.map_append, List.map_singleton, impl_mapped.l0_eq, hw, hf, Option.bind_some, l1, l2]
    ((with_reducible repeat (first | refine go_pos (by first | assumption | omega | rfl | exact B_pos (by omega)) ?_ | refine go_neg (by first | assumption | omega | decide | exact B_not (by omega)) ?_ | refine go_bind (by first | assumption) ?_ | dsimp only)); first | done | (with_reducible rfl) | simp (disch := omega) only [w64] | (show False; done)))
  simp only [Int.natCast_zero, List.take_zero, List.map_nil, List.take_length] at this
  rw [this, impl_mapped.l0_eq]
  ((with_reducible repeat (first | refine go_pos (by first | assumption | omega | rfl | exact B_pos (by omega)) ?_ | refine go_neg (by first | assumption | omega | decide | exact B_not (by omega)) ?_ | refine go_bind (by first | assumption) ?_ | dsimp only)); first | done | (with_reducible rfl) | simp (disch := omega) only [w64] | (show False; done))
end Go.Proofs.Ytjknpaplgclflaa.V
set_option linter.unusedVariables false
set_option linter.unusedSimpArgs false
set_option maxHeartbeats 4000000
set_option maxRecDepth 20000
namespace Go.Proofs.Ytjknpaplgclflaa.V
open Go.RowKit Go.Proofs.Ytjknpaplgclflaa.D Go.Proofs.Ytjknpaplgclflaa.P
def prm (m : Int) (u : List Int) (a : Int) : List Int := u.map fun x => (x * a - a) % m
theorem prm_len (m : Int) (u : List Int) (a : Int) : (prm m u a).length = u.length := by simp [prm]
theorem principalMap_ {g : List (List Int)} {m : Int} {u : List Int} (hg : Grp g) (hm : Mdl g m u) {a : Int} (a0 : 0 ≤ a) (a1 : a < m) : impl_principalMap.f m u a = some (prm m u a) := by
  have n8 := hg.n8; have m2 := hm.m2; have m12 := hm.m12; have hlu := hm.len
  rw [impl_principalMap.f_eq]
  have := mapped (F := fun z0 => (impl_principalMap_1.f z0 a m u).map fun z => z) (G := fun x => (x * a - a) % m) u (by omega) (fun x hx => by
    obtain ⟨i, i0, i1, rfl⟩ : ∃ i : Int, 0 ≤ i ∧ i < u.length ∧ rd u i = x := by
      obtain ⟨i, hi, rfl⟩ := List.mem_iff_getElem.1 hx
      exact ⟨i, by omega, by omega, rd_get hi⟩
    have hs := small_prod hm i0 (by omega) a0 a1
    show Option.map _ (impl_principalMap_1.f (rd u i) a m u) = _
    rw [impl_principalMap_1.f_eq, if_neg (by omega), w64 (x := rd u i * a) (by omega) (by omega), w64 (x := rd u i * a + m) (by omega) (by omega), w64 (by omega) (by omega), tmod_nn (by omega), show rd u i * a + m - a = rd u i * a - a + m by omega, Int.add_emod_right]
    rfl)
  rw [this]
  rfl
theorem Principal_ {g : List (List Int)} {m : Int} {u : List Int} (hg : Grp g) (hm : Mdl g m u) {a : Int} (a0 : 0 ≤ a) (a1 : a < m) : spec_l05Principal.f g m u a = some (prm m u a) := by
  have n8 := hg.n8; have m2 := hm.m2; have m12 := hm.m12; have hlu := hm.len
  rw [spec_l05Principal.f_eq]
  have := up g.length (fun j => spec_l05Principal.l0 a (j : Int) g m u ((u.take j).map fun x => (x * a - a) % m)) (fun j h => by
    have l1 : ((u.take j).map fun x => (x * a - a) % m).length = j := by rw [List.length_map, List.length_take]; omega
    have l2 : ∀ x : Int, ([x] : List Int).length = 1 := fun _ => rfl
    have hs := small_prod hm (x := (j : Int)) (by omega) (by omega) a0 a1
    have hmod := Mod_ (a := rd u (j : Int) * a - a) (m := m) (by omega) (by omega) (by omega) (by omega)
    rw [take_rd (by omega), List.map_append, List.map_singleton, spec_l05Principal.l0_eq, spec_l01N.f_eq, Option.bind_some, wn (j := j) (by omega), w64 (x := rd u (j : Int) * a) (by omega) (by omega), w64 (x := rd u (j : Int) * a - a) (by omega) (by omega), hmod, Option.bind_some, l1, l2]
    ((with_reducible repeat (first | refine go_pos (by first | assumption | omega | rfl | exact B_pos (by omega)) ?_ | refine go_neg (by first | assumption | omega | decide | exact B_not (by omega)) ?_ | refine go_bind (by first | assumption) ?_ | dsimp only)); first | done | (with_reducible rfl) | simp (disch := omega) only [w64] | (show False; done)))
  have e : (u.take g.length).map (fun x => (x * a - a) % m) = prm m u a := by rw [List.take_of_length_le (by omega)]; rfl
  simp only [Int.natCast_zero, List.take_zero, List.map_nil, e] at this
  rw [this, spec_l05Principal.l0_eq, spec_l01N.f_eq, Option.bind_some]
  ((with_reducible repeat (first | refine go_pos (by first | assumption | omega | rfl | exact B_pos (by omega)) ?_ | refine go_neg (by first | assumption | omega | decide | exact B_not (by omega)) ?_ | refine go_bind (by first | assumption) ?_ | dsimp only)); first | done | (with_reducible rfl) | simp (disch := omega) only [w64] | (show False; done))
end Go.Proofs.Ytjknpaplgclflaa.V
set_option linter.unusedVariables false
set_option linter.unusedSimpArgs false
set_option maxHeartbeats 4000000
set_option maxRecDepth 20000
namespace Go.Proofs.Ytjknpaplgclflaa.V
open Go Go.RowKit Go.Proofs.Ytjknpaplgclflaa.D Go.Proofs.Ytjknpaplgclflaa.P
structure Ord (H : Value → Prop) (L : Value → Value → Prop) (C : Value → Value → Option Int) : Prop where
  asy : ∀ x y, L x y → ¬ L y x
  tr : ∀ x y z, H x → H y → H z → ¬ L y x → ¬ L z y → ¬ L z x
  cmp : ∀ x y, H x → H y → ∃ c : Int, C x y = some c ∧ (c < 0 ↔ L x y)
theorem rdV_mid (P : List Value) (x : Value) (Q : List Value) : Ty.rd .raw (P ++ x :: Q) (P.length : Int) = x := by
  show (P ++ x :: Q).getD ((P.length : Int)).toNat _ = x
  simp [List.getD_eq_getElem?_getD]
theorem vals_snoc {P : List Value} {n : Nat} (h : P.length = n + 1) : ∃ P' p, P = P' ++ [p] ∧ P'.length = n := by
  have hne : P ≠ [] := fun e => by rw [e] at h; simp at h
  exact ⟨P.dropLast, P.getLast hne, (List.dropLast_concat_getLast hne).symm, by rw [List.length_dropLast]; omega⟩
theorem ins_one {H : Value → Prop} {L : Value → Value → Prop} {C : Value → Value → Option Int} (hC : Ord H L C) {N : Nat} (hN : N ≤ 1000000) :
    ∀ (n : Nat) (P Q R : List Value) (x : Value), P.length = n → (∀ r ∈ P ++ x :: (Q ++ R), H r) → (P ++ Q).Pairwise (fun r s => ¬ L s r) → (∀ q ∈ Q, L x q) → (P ++ x :: (Q ++ R)).length = N →
    ∃ S, _root_.Go.Proofs.Ytjknpaplgclflaa.R.slices_insertionSortCmpFunc_int64.l1 0 (N : Int) C ((P.length + Q.length : Nat) : Int) (n : Int) (P ++ x :: (Q ++ R)) = _root_.Go.Proofs.Ytjknpaplgclflaa.R.slices_insertionSortCmpFunc_int64.l0 0 (N : Int) C ((P.length + Q.length + 1 : Nat) : Int) (S ++ R) ∧ S.Pairwise (fun r s => ¬ L s r) ∧ S.Perm (P ++ x :: Q) := by
  intro n
  induction n with
  | zero =>
    intro P Q R x hP hr hs hq hN'
    obtain rfl := List.eq_nil_of_length_eq_zero hP
    refine ⟨x :: Q, ?_, ?_, List.Perm.refl _⟩
    · simp only [List.nil_append, List.length_nil, Nat.zero_add] at hN' ⊢
      have : Q.length + 1 ≤ N := by simp only [List.length_cons, List.length_append] at hN'; omega
      rw [_root_.Go.Proofs.Ytjknpaplgclflaa.R.slices_insertionSortCmpFunc_int64.l1_eq, wn (j := Q.length) (by omega)]
      (with_reducible repeat (first | refine go_pos (by first | assumption | omega | rfl | exact B_pos (by omega)) ?_ | refine go_neg (by first | assumption | omega | decide | exact B_not (by omega)) ?_ | refine go_bind (by first | assumption) ?_ | dsimp only))
      rfl
    · rw [List.pairwise_cons]
      exact ⟨fun q hq' => hC.asy _ _ (hq q hq'), by simpa using hs⟩
  | succ n ih =>
    intro P Q R x hP hr hs hq hN'
    obtain ⟨P', p, rfl, hP'⟩ := vals_snoc hP
    have lN : P'.length + 1 + 1 + Q.length + R.length = N := by
      have := hN'
      simp only [List.length_cons, List.length_append, List.length_nil] at this
      omega
    have hxl : H x := hr x (by simp)
    have hpl : H p := hr p (by simp)
    obtain ⟨c, c1, c2⟩ := hC.cmp x p hxl hpl
    have e0 : (P' ++ [p]) ++ x :: (Q ++ R) = P' ++ p :: (x :: (Q ++ R)) := by simp
    have r1 : Ty.rd .raw ((P' ++ [p]) ++ x :: (Q ++ R)) ((n + 1 : Nat) : Int) = x := by rw [← hP]; exact rdV_mid _ _ _
    have r0 : Ty.rd .raw ((P' ++ [p]) ++ x :: (Q ++ R)) (n : Int) = p := by rw [e0, ← hP']; exact rdV_mid _ _ _
    have w1 : wrapI (((n + 1 : Nat) : Int) - 1) = (n : Int) := by rw [w64 (by omega) (by omega)]; omega
    have sw : (((P' ++ [p]) ++ x :: (Q ++ R)).set (n + 1) p).set n x = P' ++ x :: ((p :: Q) ++ R) := by
      rw [List.set_append, if_neg (by rw [List.length_append, List.length_singleton]; omega), List.length_append, List.length_singleton, show n + 1 - (P'.length + 1) = 0 by omega, List.set_cons_zero, show (P' ++ [p]) ++ p :: (Q ++ R) = P' ++ p :: (p :: (Q ++ R)) by simp, List.set_append, if_neg (by omega), show n - P'.length = 0 by omega, List.set_cons_zero]
      rfl
    have sl : (((P' ++ [p]) ++ x :: (Q ++ R)).set (n + 1) p).length = N := by rw [List.length_set]; exact hN'
    have tn : (((n + 1 : Nat) : Int)).toNat = n + 1 := by omega
    by_cases hc : c < 0
    · have hr2 : ∀ r ∈ P' ++ x :: ((p :: Q) ++ R), H r := fun r hr' => hr r (by simp only [List.mem_append, List.mem_cons, List.mem_singleton] at hr' ⊢; rcases hr' with h | h | (h | h) | h <;> simp [h])
      obtain ⟨S, h1, h2, h3⟩ := ih P' (p :: Q) R x hP' hr2 (by rw [show P' ++ p :: Q = P' ++ [p] ++ Q by simp]; exact hs) (fun q hq' => by
        rcases List.mem_cons.1 hq' with rfl | hq'
        · exact c2.1 hc
        · exact hq q hq') (by rw [← sw, List.length_set, List.length_set]; exact hN')
      refine ⟨S, ?_, h2, h3.trans ?_⟩
      · rw [show (P' ++ [p]).length + Q.length = P'.length + (p :: Q).length by simp only [List.length_append, List.length_cons, List.length_nil]; omega, ← h1, _root_.Go.Proofs.Ytjknpaplgclflaa.R.slices_insertionSortCmpFunc_int64.l1_eq, w1, tn, Int.toNat_natCast, r1, r0]
        (with_reducible repeat (first | refine go_pos (by first | assumption | omega | rfl | exact B_pos (by omega)) ?_ | refine go_neg (by first | assumption | omega | decide | exact B_not (by omega)) ?_ | refine go_bind (by first | assumption) ?_ | dsimp only))
        rw [sw]
      · rw [show (P' ++ [p]) ++ x :: Q = P' ++ p :: x :: Q by simp]
        exact List.Perm.append_left _ (List.Perm.swap ..)
    · refine ⟨(P' ++ [p]) ++ x :: Q, ?_, ?_, List.Perm.refl _⟩
      · rw [_root_.Go.Proofs.Ytjknpaplgclflaa.R.slices_insertionSortCmpFunc_int64.l1_eq, w1, r1, r0, wn (j := (P' ++ [p]).length + Q.length) (by simp only [List.length_append, List.length_cons, List.length_nil]; omega)]
        (with_reducible repeat (first | refine go_pos (by first | assumption | omega | rfl | exact B_pos (by omega)) ?_ | refine go_neg (by first | assumption | omega | decide | exact B_not (by omega)) ?_ | refine go_bind (by first | assumption) ?_ | dsimp only))
        rw [show ((P' ++ [p]) ++ x :: Q) ++ R = (P' ++ [p]) ++ x :: (Q ++ R) by simp]
      · have hnp : ¬ L x p := fun k => hc (c2.2 k)
        rw [List.pairwise_append] at hs ⊢
        obtain ⟨s1, s2, s3⟩ := hs
        refine ⟨s1, List.pairwise_cons.2 ⟨fun q hq' => hC.asy _ _ (hq q hq'), s2⟩, fun r hr' s hs' => ?_⟩
        rcases List.mem_cons.1 hs' with rfl | hs'
        · rcases List.mem_append.1 hr' with h | h
          · rw [List.pairwise_append] at s1
            have := s1.2.2 r h p (List.mem_singleton.2 rfl)
            exact hC.tr _ _ _ (hr r (by simp [h])) hpl hxl this hnp
          · rw [List.mem_singleton.1 h]; exact hnp
        · exact s3 r hr' s hs'
theorem isort_ {H : Value → Prop} {L : Value → Value → Prop} {C : Value → Value → Option Int} (hC : Ord H L C) {xs : List Value} (hN : xs.length ≤ 1000000) (hr : ∀ r ∈ xs, H r) :
    ∃ S, _root_.Go.Proofs.Ytjknpaplgclflaa.R.slices_insertionSortCmpFunc_int64.f xs 0 (xs.length : Int) C = some S ∧ S.Pairwise (fun r s => ¬ L s r) ∧ S.Perm xs := by
  have main : ∀ (n : Nat) (S R : List Value), R.length = n → S.length + n = xs.length → 0 < S.length → S.Pairwise (fun r s => ¬ L s r) → (∀ r ∈ S ++ R, H r) →
      ∃ S', _root_.Go.Proofs.Ytjknpaplgclflaa.R.slices_insertionSortCmpFunc_int64.l0 0 (xs.length : Int) C (S.length : Int) (S ++ R) = some S' ∧ S'.Pairwise (fun r s => ¬ L s r) ∧ S'.Perm (S ++ R) := by
    intro n
    induction n with
    | zero =>
      intro S R hR hl _ hs hr
      obtain rfl := List.eq_nil_of_length_eq_zero hR
      rw [List.append_nil]
      refine ⟨S, ?_, hs, List.Perm.refl _⟩
      rw [_root_.Go.Proofs.Ytjknpaplgclflaa.R.slices_insertionSortCmpFunc_int64.l0_eq]
      ((with_reducible repeat (first | refine go_pos (by first | assumption | omega | rfl | exact B_pos (by omega)) ?_ | refine go_neg (by first | assumption | omega | decide | exact B_not (by omega)) ?_ | refine go_bind (by first | assumption) ?_ | dsimp only)); first | done | (with_reducible rfl) | simp (disch := omega) only [w64] | (show False; done))
    | succ n ih =>
      intro S R hR hl h0 hs hr
      cases R with
      | nil => simp at hR
      | cons x R =>
        obtain ⟨S1, h1, h2, h3⟩ := ins_one hC (N := xs.length) hN S.length S [] R x rfl (by simpa using hr) (by simpa using hs) (fun q hq => by cases hq) (by simp only [List.nil_append, List.length_append, List.length_cons] at hR ⊢; omega)
        have l1 : S1.length = S.length + 1 := by rw [h3.length_eq]; simp
        obtain ⟨S', k1, k2, k3⟩ := ih S1 R (by simpa using hR) (by omega) (by omega) h2 (fun r hr' => by
          rcases List.mem_append.1 hr' with h | h
          · exact hr r (by have := h3.mem_iff.1 h; simp at this ⊢; rcases this with h | h <;> simp [h])
          · exact hr r (by simp [h]))
        refine ⟨S', ?_, k2, k3.trans ?_⟩
        · rw [_root_.Go.Proofs.Ytjknpaplgclflaa.R.slices_insertionSortCmpFunc_int64.l0_eq]
          simp only [List.nil_append, List.length_nil, Nat.add_zero] at h1
          have : S.length < xs.length := by omega
          (with_reducible repeat (first | refine go_pos (by first | assumption | omega | rfl | exact B_pos (by omega)) ?_ | refine go_neg (by first | assumption | omega | decide | exact B_not (by omega)) ?_ | refine go_bind (by first | assumption) ?_ | dsimp only))
          rw [h1, ← l1]
          exact k1
        · have := h3.append_right R
          simpa using this
  rw [_root_.Go.Proofs.Ytjknpaplgclflaa.R.slices_insertionSortCmpFunc_int64.f_eq, show wrapI (0 + 1) = 1 from w64 (by omega) (by omega)]
  cases xs with
  | nil =>
    refine ⟨[], ?_, List.Pairwise.nil, List.Perm.refl _⟩
    rw [_root_.Go.Proofs.Ytjknpaplgclflaa.R.slices_insertionSortCmpFunc_int64.l0_eq]
    ((with_reducible repeat (first | refine go_pos (by first | assumption | omega | rfl | exact B_pos (by omega)) ?_ | refine go_neg (by first | assumption | omega | decide | exact B_not (by omega)) ?_ | refine go_bind (by first | assumption) ?_ | dsimp only)); first | done | (with_reducible rfl) | simp (disch := omega) only [w64] | (show False; done))
  | cons x xs =>
    have := main xs.length [x] xs rfl (by simp; omega) (by simp) (List.pairwise_singleton _ _) (by simpa using hr)
    simpa using this
theorem sort12 {H : Value → Prop} {L : Value → Value → Prop} {C : Value → Value → Option Int} (hC : Ord H L C) {xs : List Value} (hN : xs.length ≤ 12) (hr : ∀ r ∈ xs, H r) :
    ∃ S, _root_.Go.Proofs.Ytjknpaplgclflaa.R.slices_SortFunc_int64.f xs C = some S ∧ S.Pairwise (fun r s => ¬ L s r) ∧ S.Perm xs := by
  obtain ⟨S, h1, h2, h3⟩ := isort_ hC (by omega) hr
  refine ⟨S, ?_, h2, h3⟩
  have hb : ∃ t, _root_.Go.Proofs.Ytjknpaplgclflaa.R.bits_Len.f (wr .u64 (xs.length : Int)) = some t := by
    have e : wr .u64 (xs.length : Int) = (xs.length : Int) := by
      show hid _ = _
      rw [hid_eq]
      simp [IntKind.wrap, IntKind.bits, IntKind.signed]
      omega
    rw [e]
    unfold _root_.Go.Proofs.Ytjknpaplgclflaa.R.bits_Len.f
    rw [if_pos (by omega)]
    exact ⟨_, rfl⟩
  obtain ⟨t, ht⟩ := hb
  have w : wrapI ((xs.length : Int) - 0) = (xs.length : Int) := by rw [w64 (by omega) (by omega)]; omega
  have hCC : (fun z0 z1 => (C z0 z1).map fun z => z) = C := by funext a b; cases C a b <;> rfl
  rw [_root_.Go.Proofs.Ytjknpaplgclflaa.R.slices_SortFunc_int64.f_eq, ht, Option.bind_some, hCC, fuel_eq, _root_.Go.Proofs.Ytjknpaplgclflaa.R.slices_pdqsortCmpFunc_int64.f_eq, _root_.Go.Proofs.Ytjknpaplgclflaa.R.slices_pdqsortCmpFunc_int64.l0_eq, w, hCC, if_pos (by omega), h1]
  rfl
end Go.Proofs.Ytjknpaplgclflaa.V
set_option linter.unusedVariables false
set_option linter.unusedSimpArgs false
set_option maxHeartbeats 4000000
set_option maxRecDepth 20000
namespace Go.Proofs.Ytjknpaplgclflaa.V
open Go Go.RowKit Go.Proofs.Ytjknpaplgclflaa.D Go.Proofs.Ytjknpaplgclflaa.P
theorem rdR {xs : List Value} (i : Nat) : Ty.rd .raw xs (i : Int) = hd xs i := by
  show xs.getD ((i : Int)).toNat _ = _
  rw [Int.toNat_natCast]
  rfl
noncomputable def cix (E : Nat → Prop) : Nat → List Nat
  | 0 => []
  | n + 1 => ite_ (0 < n ∧ E n) (cix E n) (cix E n ++ [n])
theorem cix_pos {E : Nat → Prop} {n : Nat} (h0 : 0 < n) (h : E n) : cix E (n + 1) = cix E n := by
  conv => lhs; unfold cix
  rw [ite_pos ⟨h0, h⟩]
theorem cix_neg {E : Nat → Prop} {n : Nat} (h : ¬ (0 < n ∧ E n)) : cix E (n + 1) = cix E n ++ [n] := by
  conv => lhs; unfold cix
  rw [ite_neg h]
theorem cix_len (E : Nat → Prop) : ∀ n, (cix E n).length ≤ n ∧ (0 < n → 0 < (cix E n).length) := by
  intro n
  induction n with
  | zero => simp [cix]
  | succ n ih =>
    by_cases h : 0 < n ∧ E n
    · rw [cix_pos h.1 h.2]; exact ⟨by omega, fun _ => ih.2 h.1⟩
    · rw [cix_neg h, List.length_append, List.length_singleton]; exact ⟨by omega, fun _ => by omega⟩
theorem cix_lt (E : Nat → Prop) : ∀ n, ∀ i ∈ cix E n, i < n := by
  intro n
  induction n with
  | zero => simp [cix]
  | succ n ih =>
    intro i hi
    by_cases h : 0 < n ∧ E n
    · rw [cix_pos h.1 h.2] at hi; have := ih i hi; omega
    · rw [cix_neg h] at hi
      rcases List.mem_append.1 hi with hi | hi
      · have := ih i hi; omega
      · rw [List.mem_singleton.1 hi]; omega
theorem cix_nodup (E : Nat → Prop) : ∀ n, (cix E n).Nodup := by
  intro n
  induction n with
  | zero => simp [cix]
  | succ n ih =>
    by_cases h : 0 < n ∧ E n
    · rw [cix_pos h.1 h.2]; exact ih
    · rw [cix_neg h, List.nodup_append]
      refine ⟨ih, by simp, fun a ha b hb => ?_⟩
      rw [List.mem_singleton.1 hb]
      have := cix_lt E n a ha
      omega
theorem hd_take {xs : List Value} {m : Nat} (h : m < xs.length) : xs.take (m + 1) = xs.take m ++ [hd xs m] := by
  rw [List.take_add_one, hd_get h]
  rfl
theorem hd_set_ne {xs : List Value} {i j : Nat} {v : Value} (h : i ≠ j) : hd (xs.set i v) j = hd xs j := by
  unfold hd
  rw [List.getD_eq_getElem?_getD, List.getElem?_set_ne h, ← List.getD_eq_getElem?_getD]
theorem compactR {Q : Value → Value → Option Bool} {xs : List Value} {E : Nat → Prop} (hQ : ∀ i, 0 < i → i < xs.length → Q (hd xs i) (hd xs (i - 1)) = some (B (E i))) (hN : xs.length ≤ 1000000) : _root_.Go.Proofs.Ytjknpaplgclflaa.R.slices_CompactFunc_int64.f xs Q = some ((cix E xs.length).map (hd xs)) := by
  have inner : ∀ (n b k2 : Nat) (r : List Value), b + k2 + n = xs.length → 0 < b → 0 < k2 → r.length = xs.length → (cix E (b + k2)).length ≤ b + k2 - 1 → r.take (cix E (b + k2)).length = (cix E (b + k2)).map (hd xs) → (∀ i : Nat, b + k2 - 1 ≤ i → i < xs.length → hd r i = hd xs i) →
      _root_.Go.Proofs.Ytjknpaplgclflaa.R.slices_CompactFunc_int64.l1 Q (((cix E (b + k2)).length : Nat) : Int) b (k2 : Int) r = some ((cix E xs.length).map (hd xs)) := by
    intro n
    induction n with
    | zero =>
      intro b k2 r hb b0 k0 hr hc ht hs
      have e : b + k2 = xs.length := by omega
      have ek : ((r.length - b : Nat) : Int) = (k2 : Int) := by omega
      have tl : (r.take (cix E (b + k2)).length ++ List.replicate (r.length - (cix E (b + k2)).length) (Value.slice none 0 0)).length = r.length := by
        rw [List.length_append, List.length_take, List.length_replicate]; omega
      rw [_root_.Go.Proofs.Ytjknpaplgclflaa.R.slices_CompactFunc_int64.l1_eq, Int.toNat_natCast]
      (with_reducible repeat (first | refine go_pos (by first | assumption | omega | rfl | exact B_pos (by omega)) ?_ | refine go_neg (by first | assumption | omega | decide | exact B_not (by omega)) ?_ | refine go_bind (by first | assumption) ?_ | dsimp only))
      rw [List.take_append_of_le_length (by rw [List.length_take]; omega), List.take_take, Nat.min_self, ht, e]
    | succ n ih =>
      intro b k2 r hb b0 k0 hr hc ht hs
      have w1 : wrapI ((k2 : Int) - 1) = ((k2 - 1 : Nat) : Int) := by rw [w64 (by omega) (by omega)]; omega
      have e1 : (b : Int) + (k2 : Int) = ((b + k2 : Nat) : Int) := by omega
      have e2 : (b : Int) + ((k2 - 1 : Nat) : Int) = ((b + k2 - 1 : Nat) : Int) := by omega
      have r1 : Ty.rd .raw r ((b + k2 : Nat) : Int) = hd xs (b + k2) := (rdR _).trans (hs (b + k2) (by omega) (by omega))
      have r2 : Ty.rd .raw r ((b + k2 - 1 : Nat) : Int) = hd xs (b + k2 - 1) := (rdR _).trans (hs (b + k2 - 1) (by omega) (by omega))
      have hq := hQ (b + k2) (by omega) (by omega)
      have cl := cix_len E (b + k2)
      have kl : ((r.length - b : Nat) : Int) = ((xs.length - b : Nat) : Int) := by rw [hr]
      by_cases h : E (b + k2)
      · rw [B_pos h] at hq
        have ec : cix E (b + (k2 + 1)) = cix E (b + k2) := cix_pos (n := b + k2) (by omega) h
        have := ih b (k2 + 1) r (by omega) b0 (by omega) hr (by rw [ec]; omega) (by rw [ec]; exact ht) (fun i hi => hs i (by omega))
        rw [ec] at this
        rw [_root_.Go.Proofs.Ytjknpaplgclflaa.R.slices_CompactFunc_int64.l1_eq, w1, wn (j := k2) (by omega), e1, e2, r1, r2]
        (with_reducible repeat (first | refine go_pos (by first | assumption | omega | rfl | exact B_pos (by omega)) ?_ | refine go_neg (by first | assumption | omega | decide | exact B_not (by omega)) ?_ | refine go_bind (by first | assumption) ?_ | dsimp only))
        exact this
      · rw [B_neg h] at hq
        have ec : cix E (b + (k2 + 1)) = cix E (b + k2) ++ [b + k2] := cix_neg (n := b + k2) fun q => h q.2
        have el : (cix E (b + (k2 + 1))).length = (cix E (b + k2)).length + 1 := by rw [ec, List.length_append, List.length_singleton]
        have := ih b (k2 + 1) (r.set (cix E (b + k2)).length (hd xs (b + k2))) (by omega) b0 (by omega) (by rw [List.length_set]; exact hr) (by omega) (by
          rw [el, List.take_succ_eq_append_getElem (by rw [List.length_set]; omega), List.take_set_of_le (Nat.le_refl _), ht, ec]
          simp) (fun i hi hi2 => by rw [hd_set_ne (by omega)]; exact hs i (by omega) hi2)
        rw [el] at this
        rw [_root_.Go.Proofs.Ytjknpaplgclflaa.R.slices_CompactFunc_int64.l1_eq, w1, wn (j := k2) (by omega), wn (j := (cix E (b + k2)).length) (by omega), e1, e2, r1, r2, Int.toNat_natCast]
        (with_reducible repeat (first | refine go_pos (by first | assumption | omega | rfl | exact B_pos (by omega)) ?_ | refine go_neg (by first | assumption | omega | decide | exact B_not (by omega)) ?_ | refine go_bind (by first | assumption) ?_ | dsimp only))
        exact this
  have outer : ∀ (n k : Nat), k + n = xs.length → 0 < k → cix E k = List.range k → _root_.Go.Proofs.Ytjknpaplgclflaa.R.slices_CompactFunc_int64.l0 Q (k : Int) xs = some ((cix E xs.length).map (hd xs)) := by
    have hall : ∀ k, k ≤ xs.length → (List.range k).map (hd xs) = xs.take k := by
      intro k
      induction k with
      | zero => intro _; simp
      | succ k ih => intro hk; rw [List.range_succ, List.map_append, ih (by omega), hd_take (by omega)]; rfl
    intro n
    induction n with
    | zero =>
      intro k hk k0 hc
      have hx : (cix E xs.length).map (hd xs) = xs := by
        have : k = xs.length := by omega
        subst this
        rw [hc, hall _ (Nat.le_refl _), List.take_length]
      rw [hx, _root_.Go.Proofs.Ytjknpaplgclflaa.R.slices_CompactFunc_int64.l0_eq]
      ((with_reducible repeat (first | refine go_pos (by first | assumption | omega | rfl | exact B_pos (by omega)) ?_ | refine go_neg (by first | assumption | omega | decide | exact B_not (by omega)) ?_ | refine go_bind (by first | assumption) ?_ | dsimp only)); first | done | (with_reducible rfl) | simp (disch := omega) only [w64] | (show False; done))
    | succ n ih =>
      intro k hk k0 hc
      have w1 : wrapI ((k : Int) - 1) = ((k - 1 : Nat) : Int) := by rw [w64 (by omega) (by omega)]; omega
      have hq := hQ k k0 (by omega)
      have r1 : Ty.rd .raw xs (k : Int) = hd xs k := rdR _
      have r2 : Ty.rd .raw xs ((k - 1 : Nat) : Int) = hd xs (k - 1) := rdR _
      by_cases h : E k
      · rw [B_pos h] at hq
        have ec : cix E (k + 1) = cix E k := cix_pos k0 h
        have hlk : (cix E (k + 1)).length = k := by rw [ec, hc, List.length_range]
        have := inner n k 1 xs (by omega) k0 (by omega) rfl (by omega) (by rw [hlk, ec, hc, hall k (by omega)]) (fun i _ _ => rfl)
        rw [hlk] at this
        rw [_root_.Go.Proofs.Ytjknpaplgclflaa.R.slices_CompactFunc_int64.l0_eq, w1, r1, r2]
        (with_reducible repeat (first | refine go_pos (by first | assumption | omega | rfl | exact B_pos (by omega)) ?_ | refine go_neg (by first | assumption | omega | decide | exact B_not (by omega)) ?_ | refine go_bind (by first | assumption) ?_ | dsimp only))
        exact this
      · rw [B_neg h] at hq
        have ec : cix E (k + 1) = cix E k ++ [k] := cix_neg fun q => h q.2
        have := ih (k + 1) (by omega) (by omega) (by rw [ec, hc, List.range_succ])
        rw [_root_.Go.Proofs.Ytjknpaplgclflaa.R.slices_CompactFunc_int64.l0_eq, w1, wn (j := k) (by omega), r1, r2]
        (with_reducible repeat (first | refine go_pos (by first | assumption | omega | rfl | exact B_pos (by omega)) ?_ | refine go_neg (by first | assumption | omega | decide | exact B_not (by omega)) ?_ | refine go_bind (by first | assumption) ?_ | dsimp only))
        exact this
  have c1 : cix E 1 = [0] := cix_neg (n := 0) fun q => absurd q.1 (Nat.lt_irrefl 0)
  rw [_root_.Go.Proofs.Ytjknpaplgclflaa.R.slices_CompactFunc_int64.f_eq]
  by_cases h2 : (xs.length : Int) < 2
  · rw [if_pos h2]
    congr 1
    match xs, h2 with
    | [], _ => rfl
    | [x], _ =>
      show [x] = (cix E 1).map (hd [x])
      rw [c1]
      rfl
    | x :: y :: xs, h2 => simp only [List.length_cons] at h2; omega
  · rw [if_neg h2]
    exact outer (xs.length - 1) 1 (by omega) (by omega) c1
theorem perm_sel {hs S : List Value} (h : S.Perm hs) : ∃ sel : List Nat, sel.Perm (List.range hs.length) ∧ S = sel.map (hd hs) := by
  have all : hs = (List.range hs.length).map (hd hs) := by
    apply List.ext_getElem?
    intro i
    by_cases hi : i < hs.length
    · rw [List.getElem?_map, List.getElem?_range hi, hd_get hi]; rfl
    · rw [List.getElem?_eq_none (by omega), List.getElem?_eq_none (by simp; omega)]
  have main : ∀ {A B : List Value}, A.Perm B → ∀ idx : List Nat, B = idx.map (hd hs) → ∃ sel : List Nat, sel.Perm idx ∧ A = sel.map (hd hs) := by
    intro A B hp
    induction hp with
    | nil => intro idx hi; exact ⟨idx, List.Perm.refl _, hi⟩
    | cons x hp ih =>
      intro idx hi
      cases idx with
      | nil => cases hi
      | cons i idx =>
        rw [List.map_cons] at hi
        injection hi with h1 h2
        obtain ⟨sel, s1, s2⟩ := ih idx h2
        exact ⟨i :: sel, s1.cons i, by rw [List.map_cons, h1, s2]⟩
    | swap x y l =>
      intro idx hi
      match idx, hi with
      | i :: j :: idx, hi =>
        rw [List.map_cons, List.map_cons] at hi
        injection hi with h1 h2
        injection h2 with h2 h3
        exact ⟨j :: i :: idx, List.Perm.swap .., by rw [List.map_cons, List.map_cons, h1, h2, h3]⟩
    | trans _ _ ih1 ih2 =>
      intro idx hi
      obtain ⟨s, s1, s2⟩ := ih2 idx hi
      obtain ⟨s', t1, t2⟩ := ih1 s s2
      exact ⟨s', t1.trans s1, t2⟩
  exact main h _ all
theorem sorted_uniq {W : Nat} : ∀ {A B : List (List Int)}, A.Perm B → (∀ r ∈ A, r.length = W) → A.Pairwise (fun r s => ¬ Ll W s r) → B.Pairwise (fun r s => ¬ Ll W s r) → A = B
  | [], B, hp, _, _, _ => (List.nil_perm.1 hp).symm
  | a :: A, [], hp, _, _, _ => by have := hp.length_eq; simp at this
  | a :: A, b :: B, hp, hW, hA, hB => by
    rw [List.pairwise_cons] at hA hB
    have ha : a ∈ b :: B := hp.mem_iff.1 List.mem_cons_self
    have hb : b ∈ a :: A := hp.mem_iff.2 List.mem_cons_self
    have hlb : b.length = W := hW b hb
    have hla : a.length = W := hW a List.mem_cons_self
    have e : a = b := by
      rcases Ll.tri W a b with h | h | h
      · rcases List.mem_cons.1 ha with q | q
        · exact q
        · exact absurd h (hB.1 a q)
      · exact eq_of_all hla hlb h
      · rcases List.mem_cons.1 hb with q | q
        · exact q.symm
        · exact absurd h (hA.1 b q)
    subst e
    rw [sorted_uniq (List.Perm.cons_inv hp) (fun r hr => hW r (List.mem_cons_of_mem _ hr)) hA.2 hB.2]
def Lv (xs : List (List Int)) (hs : List Value) (W : Nat) (u v : Value) : Prop := ∃ i j, i < xs.length ∧ j < xs.length ∧ u = hd hs i ∧ v = hd hs j ∧ Ll W (ct xs i) (ct xs j)
theorem ord_of {W : Nat} {xs : List (List Int)} (hr : ∀ r ∈ xs, r.length = W) {C : List Int → List Int → Option Int} (hC : ∀ x y : List Int, x.length = W → y.length = W → ∃ c : Int, C x y = some c ∧ (c < 0 ↔ Ll W x y)) {hs : List Value} {c' : Value → Value → Option Int}
    (hc : ∀ i j, i < xs.length → j < xs.length → c' (hd hs i) (hd hs j) = C (ct xs i) (ct xs j)) : Ord (fun v => ∃ i, i < xs.length ∧ v = hd hs i) (Lv xs hs W) c' := by
  have hW : ∀ i, i < xs.length → (ct xs i).length = W := fun i hi => hr _ (List.mem_of_getElem? (ct_get hi))
  have key : ∀ i j, i < xs.length → j < xs.length → (Lv xs hs W (hd hs i) (hd hs j) ↔ Ll W (ct xs i) (ct xs j)) := fun i j hi hj => by
    refine ⟨fun ⟨i', j', hi', hj', e1, e2, h⟩ => ?_, fun h => ⟨i, j, hi, hj, rfl, rfl, h⟩⟩
    obtain ⟨c, c1, c2⟩ := hC _ _ (hW i hi) (hW j hj)
    obtain ⟨d, d1, d2⟩ := hC _ _ (hW i' hi') (hW j' hj')
    have := hc i j hi hj
    rw [e1, e2, hc i' j' hi' hj', d1, c1] at this
    cases this
    exact c2.1 (d2.2 h)
  refine ⟨?_, ?_, ?_⟩
  · rintro x y ⟨i, j, hi, hj, rfl, rfl, h⟩ k
    exact h.asymm ((key j i hj hi).1 k)
  · rintro x y z ⟨i, hi, rfl⟩ ⟨j, hj, rfl⟩ ⟨k, hk, rfl⟩ h1 h2
    rw [key j i hj hi] at h1
    rw [key k j hk hj] at h2
    rw [key k i hk hi]
    exact Ll.le_trans (hW i hi) (hW j hj) (hW k hk) h1 h2
  · rintro x y ⟨i, hi, rfl⟩ ⟨j, hj, rfl⟩
    obtain ⟨c, c1, c2⟩ := hC _ _ (hW i hi) (hW j hj)
    exact ⟨c, (hc i j hi hj).trans c1, c2.trans (key i j hi hj).symm⟩
theorem sort_good {f : List Value → (Value → Value → Option Int) → Option (List Value)} {W : Nat} {xs : List (List Int)} (hr : ∀ r ∈ xs, r.length = W) {C : List Int → List Int → Option Int} (hC : ∀ x y : List Int, x.length = W → y.length = W → ∃ c : Int, C x y = some c ∧ (c < 0 ↔ Ll W x y))
  (hf : ∀ (H : Value → Prop) (L : Value → Value → Prop) (c' : Value → Value → Option Int) (hs : List Value), Ord H L c' → hs.length = xs.length → (∀ r ∈ hs, H r) → ∃ S, f hs c' = some S ∧ S.Pairwise (fun r s => ¬ L s r) ∧ S.Perm hs) :
  ∃ ys, G2 f xs C = some ys ∧ ys.Pairwise (fun r s => ¬ Ll W s r) ∧ ys.Perm xs := by
 have one : ∀ (hs : List Value) (c' : Value → Value → Option Int), hs.length = xs.length → (∀ i j, i < xs.length → j < xs.length → c' (hd hs i) (hd hs j) = C (ct xs i) (ct xs j)) → ∃ sel : List Nat, f hs c' = some (sel.map (hd hs)) ∧ sel.Perm (List.range xs.length) ∧ (sel.map (ct xs)).Pairwise (fun r s => ¬ Ll W s r) := by
  intro hs c' hl hc
  have ho := ord_of hr hC hc
  obtain ⟨S, h1, h2, h3⟩ := hf _ _ c' hs ho hl fun v hv => by
   obtain ⟨i, hi, rfl⟩ := List.getElem_of_mem hv
   exact ⟨i, by omega, Option.some.inj ((List.getElem?_eq_getElem hi).symm.trans (hd_get hi))⟩
  obtain ⟨sel, s1, rfl⟩ := perm_sel h3
  rw [hl] at s1
  refine ⟨sel, h1, s1, ?_⟩
  rw [List.pairwise_map] at h2 ⊢
  refine h2.imp_of_mem fun {a b} ha hb h k => h ?_
  have la := List.mem_range.1 (s1.mem_iff.1 ha)
  have lb := List.mem_range.1 (s1.mem_iff.1 hb)
  exact ⟨b, a, lb, la, rfl, rfl, k⟩
 have hall : (List.range xs.length).map (ct xs) = xs := by
  apply List.ext_getElem?
  intro i
  by_cases hi : i < xs.length
  ·
   rw [List.getElem?_map, List.getElem?_range hi, ct_get hi]; rfl
  ·
   rw [List.getElem?_eq_none (by simp; omega), List.getElem?_eq_none (by omega)]
 have perm : ∀ sel : List Nat, sel.Perm (List.range xs.length) → (sel.map (ct xs)).Perm xs := fun sel h => by
  have := h.map (ct xs)
  rwa [hall] at this
 have hlab : (labels xs.length).length = xs.length := by simp [labels]
 obtain ⟨s0, a1, a2, a3⟩ := one (labels xs.length) (lab2 xs C) hlab fun i j hi hj => by
  rw [labels_hd hi, labels_hd hj]
  show C (ct xs ((i : Int)).toNat) (ct xs ((j : Int)).toNat) = _
  rw [Int.toNat_natCast, Int.toNat_natCast]
 refine ⟨s0.map (ct xs), G2_eq fun hs c' hl hc => ?_, a3, perm s0 a2⟩
 obtain ⟨s1, b1, b2, b3⟩ := one hs c' hl hc
 have e : s1.map (ct xs) = s0.map (ct xs) := sorted_uniq ((perm s1 b2).trans (perm s0 a2).symm) (fun r hr' => hr r ((perm s1 b2).mem_iff.1 hr')) b3 a3
 exact ⟨_, b1, s1, (List.Perm.nodup_iff b2).2 List.nodup_range, fun i hi => List.mem_range.1 (b2.mem_iff.1 hi), rfl, e.symm⟩
theorem compact_good {xs : List (List Int)} (hN : xs.length ≤ 1000000) {Q : List Int → List Int → Option Bool} (hQ : ∀ x ∈ xs, ∀ y ∈ xs, Q x y = some (B (x = y))) :
    G2 _root_.Go.Proofs.Ytjknpaplgclflaa.R.slices_CompactFunc_int64.f xs Q = some ((cix (fun n => ct xs n = ct xs (n - 1)) xs.length).map (ct xs)) := by
  refine G2_eq fun hs c' hl hc => ?_
  have := compactR (Q := c') (xs := hs) (E := fun n => ct xs n = ct xs (n - 1)) (fun i i0 i1 => by
    rw [hc i (i - 1) (by omega) (by omega)]
    exact hQ _ (List.mem_of_getElem? (ct_get (by omega))) _ (List.mem_of_getElem? (ct_get (by omega)))) (by omega)
  rw [hl] at this
  exact ⟨_, this, cix _ xs.length, cix_nodup _ _, cix_lt _ _, rfl, rfl⟩
theorem cix_mem {xs : List (List Int)} (r : List Int) : ∀ n, n ≤ xs.length → (r ∈ (cix (fun n => ct xs n = ct xs (n - 1)) n).map (ct xs) ↔ ∃ i, i < n ∧ r = ct xs i) := by
  intro n
  induction n with
  | zero => intro _; simp [cix]
  | succ n ih =>
    intro hn
    by_cases h : 0 < n ∧ ct xs n = ct xs (n - 1)
    · rw [cix_pos h.1 h.2, ih (by omega)]
      constructor
      · rintro ⟨i, hi, rfl⟩; exact ⟨i, by omega, rfl⟩
      · rintro ⟨i, hi, rfl⟩
        by_cases e : i = n
        · subst e; exact ⟨i - 1, by omega, h.2⟩
        · exact ⟨i, by omega, rfl⟩
    · rw [cix_neg h, List.map_append, List.mem_append, ih (by omega)]
      constructor
      · rintro (⟨i, hi, rfl⟩ | h)
        · exact ⟨i, by omega, rfl⟩
        · simp at h; exact ⟨n, by omega, h⟩
      · rintro ⟨i, hi, rfl⟩
        by_cases e : i = n
        · subst e; exact .inr (by simp)
        · exact .inl ⟨i, by omega, rfl⟩
theorem cix_sorted {W : Nat} {xs : List (List Int)} (hr : ∀ r ∈ xs, r.length = W) (hs : xs.Pairwise (fun r s => ¬ Ll W s r)) : ∀ n, n ≤ xs.length → ((cix (fun n => ct xs n = ct xs (n - 1)) n).map (ct xs)).Pairwise (fun r s => Ll W r s) := by
  have hW : ∀ i, i < xs.length → (ct xs i).length = W := fun i hi => hr _ (List.mem_of_getElem? (ct_get hi))
  have hlt : ∀ i j, i < j → j < xs.length → ¬ Ll W (ct xs j) (ct xs i) := fun i j hij hj => by
    have e1 : xs[i]'(by omega) = ct xs i := Option.some.inj ((List.getElem?_eq_getElem (by omega)).symm.trans (ct_get (by omega)))
    have e2 : xs[j] = ct xs j := Option.some.inj ((List.getElem?_eq_getElem hj).symm.trans (ct_get hj))
    have := List.pairwise_iff_getElem.1 hs i j (by omega) hj hij
    rwa [e1, e2] at this
  intro n
  induction n with
  | zero => intro _; simp [cix]
  | succ n ih =>
    intro hn
    by_cases h : 0 < n ∧ ct xs n = ct xs (n - 1)
    · rw [cix_pos h.1 h.2]; exact ih (by omega)
    · rw [cix_neg h, List.map_append, List.pairwise_append]
      refine ⟨ih (by omega), by simp, fun r hr' s hs' => ?_⟩
      simp at hs'
      subst hs'
      obtain ⟨i, hi, rfl⟩ := (cix_mem r n (by omega)).1 hr'
      rcases Ll.tri W (ct xs i) (ct xs n) with q | q | q
      · exact q
      · have e := eq_of_all (hW i (by omega)) (hW n (by omega)) q
        by_cases hin : i = n - 1
        · exact absurd ⟨by omega, by rw [← hin]; exact e.symm⟩ h
        · have h1 := hlt i (n - 1) (by omega) (by omega)
          have h2 := hlt (n - 1) n (by omega) (by omega)
          rw [e] at h1
          rcases Ll.tri W (ct xs (n - 1)) (ct xs n) with q | q | q
          · exact absurd q h1
          · exact absurd ⟨by omega, (eq_of_all (hW (n - 1) (by omega)) (hW n (by omega)) q).symm⟩ h
          · exact absurd q h2
      · exact absurd q (hlt i n hi (by omega))
theorem strict_uniq {W : Nat} : ∀ {A B : List (List Int)}, (∀ r, r ∈ A ↔ r ∈ B) → A.Pairwise (fun r s => Ll W r s) → B.Pairwise (fun r s => Ll W r s) → A = B
  | [], [], _, _, _ => rfl
  | [], b :: B, h, _, _ => by have := (h b).2 List.mem_cons_self; cases this
  | a :: A, [], h, _, _ => by have := (h a).1 List.mem_cons_self; cases this
  | a :: A, b :: B, h, hA, hB => by
    rw [List.pairwise_cons] at hA hB
    have e : a = b := by
      rcases List.mem_cons.1 ((h a).1 List.mem_cons_self) with q | q
      · exact q
      · rcases List.mem_cons.1 ((h b).2 List.mem_cons_self) with q2 | q2
        · exact q2.symm
        · exact absurd (hB.1 a q) (hA.1 b q2).asymm
    subst e
    rw [strict_uniq (W := W) (fun r => ?_) hA.2 hB.2]
    refine ⟨fun hr => ?_, fun hr => ?_⟩
    · rcases List.mem_cons.1 ((h r).1 (List.mem_cons_of_mem _ hr)) with q | q
      · subst q; exact absurd (hA.1 _ hr) Ll.irrefl
      · exact q
    · rcases List.mem_cons.1 ((h r).2 (List.mem_cons_of_mem _ hr)) with q | q
      · subst q; exact absurd (hB.1 _ hr) Ll.irrefl
      · exact q
end Go.Proofs.Ytjknpaplgclflaa.V
set_option linter.unusedVariables false
set_option linter.unusedSimpArgs false
set_option maxHeartbeats 4000000
set_option maxRecDepth 20000
namespace Go.Proofs.Ytjknpaplgclflaa.V
open Go.RowKit Go.Proofs.Ytjknpaplgclflaa.D Go.Proofs.Ytjknpaplgclflaa.P
theorem row_mid2 (P : List (List Int)) (x : List Int) (Q : List (List Int)) : row (P ++ x :: Q) (P.length : Int) = x := by simp [row, List.getD_eq_getElem?_getD]
theorem snoc2 {P : List (List Int)} {n : Nat} (h : P.length = n + 1) : ∃ P' p, P = P' ++ [p] ∧ P'.length = n := by
  have hne : P ≠ [] := fun e => by rw [e] at h; simp at h
  exact ⟨P.dropLast, P.getLast hne, (List.dropLast_concat_getLast hne).symm, by rw [List.length_dropLast]; omega⟩
theorem Put_go {W : Nat} (hW : W ≤ 1000000) {x : List Int} (hx : x.length = W) : ∀ (n : Nat) (P Q : List (List Int)), P.length = n → (P ++ Q).Pairwise (fun r s => Ll W r s) → (∀ q ∈ Q, Ll W x q) → (∀ r ∈ P ++ Q, r.length = W) → (P ++ Q).length ≤ 1000000 →
    ∃ A, spec_l05Put.l0 (P ++ Q) x (n : Int) = some A ∧ A.Pairwise (fun r s => Ll W r s) ∧ (∀ r, r ∈ A ↔ r ∈ P ++ Q ∨ r = x) ∧ A.length ≤ (P ++ Q).length + 1 := by
  intro n
  induction n with
  | zero =>
    intro P Q hP hs hq hr hl
    obtain rfl := List.eq_nil_of_length_eq_zero hP
    rw [List.nil_append] at hs hr hl ⊢
    refine ⟨x :: Q, ?_, List.pairwise_cons.2 ⟨hq, hs⟩, fun r => by rw [List.mem_cons]; exact or_comm, by simp⟩
    rw [spec_l05Put.l0_eq, if_neg (by omega), if_neg (by omega)]
    have z : ((0 : Nat) : Int).toNat = 0 := rfl
    simp only [z, List.take_zero, List.drop_zero, List.nil_append, List.length_nil, List.length_singleton, List.singleton_append]
    rw [if_pos (by omega), if_pos (by omega), if_pos (by omega), if_pos (by omega), if_pos (by omega), if_pos (by omega), if_pos (by omega)]
  | succ n ih =>
    intro P Q hP hs hq hr hl
    obtain ⟨P', p, rfl, hP'⟩ := snoc2 hP
    have e0 : (P' ++ [p]) ++ Q = P' ++ p :: Q := by simp
    have hpl : p.length = W := hr p (by simp)
    have hrow : row ((P' ++ [p]) ++ Q) (n : Int) = p := by rw [e0, ← hP']; exact row_mid2 _ _ _
    have hlen : ((P' ++ [p]) ++ Q).length = n + 1 + Q.length := by simp; omega
    have w1 : wrapI (((n + 1 : Nat) : Int) - 1) = (n : Int) := by rw [w64 (by omega) (by omega)]; omega
    have b1 := Before_ hx hpl hW
    have b2 := Before_ hpl hx hW
    rw [spec_l05Put.l0_eq, if_pos (by omega), w1, hrow, if_pos (by omega), if_pos (by omega), b1, Option.bind_some]
    by_cases h1 : Ll W x p
    · rw [B_pos h1, if_pos rfl, e0]
      refine ih P' (p :: Q) hP' (by rw [← e0]; exact hs) (fun q hq' => ?_) (fun r hr' => hr r (by rw [e0]; exact hr')) (by rw [← e0]; exact hl)
      rcases List.mem_cons.1 hq' with rfl | hq'
      · exact h1
      · exact hq q hq'
    · rw [B_neg h1, if_neg (by decide), if_pos (by omega), if_pos (by omega), if_pos (by omega), b2, Option.bind_some]
      by_cases h2 : Ll W p x
      · rw [B_pos h2, if_pos rfl]
        have tk : ((P' ++ [p]) ++ Q).take (((n + 1 : Nat) : Int)).toNat = P' ++ [p] := by
          rw [Int.toNat_natCast, List.take_append_of_le_length (by omega), List.take_of_length_le (by omega)]
        have dr : ((P' ++ [p]) ++ Q).drop (((n + 1 : Nat) : Int)).toNat = Q := by
          rw [Int.toNat_natCast, List.drop_append_of_le_length (by omega), List.drop_of_length_le (by omega), List.nil_append]
        rw [tk, dr, List.nil_append]
        refine ⟨((P' ++ [p]) ++ [x]) ++ Q, ?_, ?_, fun r => ?_, ?_⟩
        · have l1 : ((P' ++ [p]) : List (List Int)).length = n + 1 := hP
          have l2 : ([x] : List (List Int)).length = 1 := rfl
          have l3 : (((P' ++ [p]) ++ [x]) : List (List Int)).length = n + 2 := by rw [List.length_append, hP, l2]
          rw [List.length_nil, l1, l2, l3, if_pos (by omega), if_pos (by omega), if_pos (by omega), if_pos (by omega), if_pos (by omega), if_pos (by omega), if_pos (by omega)]
        · rw [List.pairwise_append] at hs ⊢
          obtain ⟨s1, s2, s3⟩ := hs
          rw [List.pairwise_append] at s1
          obtain ⟨t1, _, t3⟩ := s1
          have lt : ∀ a ∈ P' ++ [p], Ll W a x := fun a ha => by
            rcases List.mem_append.1 ha with h | h
            · exact (t3 a h p (List.mem_singleton.2 rfl)).trans h2
            · rw [List.mem_singleton.1 h]; exact h2
          refine ⟨?_, s2, fun a ha b hb => ?_⟩
          · rw [List.pairwise_append]
            refine ⟨by rw [List.pairwise_append]; exact ⟨t1, List.pairwise_singleton _ _, t3⟩, List.pairwise_singleton _ _, fun a ha b hb => ?_⟩
            rw [List.mem_singleton.1 hb]
            exact lt a ha
          · rcases List.mem_append.1 ha with h | h
            · exact s3 a h b hb
            · rw [List.mem_singleton.1 h]; exact hq b hb
        · simp only [List.mem_append, List.mem_singleton]
          constructor
          · rintro ((h | h) | h)
            · exact .inl (.inl h)
            · exact .inr h
            · exact .inl (.inr h)
          · rintro ((h | h) | h)
            · exact .inl (.inl h)
            · exact .inr h
            · exact .inl (.inr h)
        · simp only [List.length_append, List.length_singleton]; omega
      · rw [B_neg h2, if_neg (by decide)]
        refine ⟨_, rfl, hs, fun r => ⟨.inl, fun h => h.elim id fun e => ?_⟩, by omega⟩
        have : x = p := by
          rcases Ll.tri W x p with q | q | q
          · exact absurd q h1
          · exact eq_of_all hx hpl q
          · exact absurd q h2
        rw [e, this]
        simp
theorem All_ {g : List (List Int)} {m : Int} {u : List Int} (hg : Grp g) (hm : Mdl g m u) : ∃ A, spec_l05All.f g m u = some A ∧ A.Pairwise (fun r s => Ll g.length r s) ∧ (∀ r, r ∈ A ↔ ∃ a : Nat, (a : Int) < m ∧ r = prm m u (a : Int)) ∧ A.length ≤ 12 := by
  have n8 := hg.n8; have m2 := hm.m2; have m12 := hm.m12; have hlu := hm.len
  obtain ⟨M, hM⟩ : ∃ M : Nat, m = (M : Int) := Int.eq_ofNat_of_zero_le (by omega)
  have main : ∀ j : Nat, j ≤ M → ∃ A : List (List Int), spec_l05All.l0 [] 0 g m u = spec_l05All.l0 A (j : Int) g m u ∧ A.Pairwise (fun r s => Ll g.length r s) ∧ (∀ r, r ∈ A ↔ ∃ a : Nat, a < j ∧ r = prm m u (a : Int)) ∧ A.length ≤ j := by
    intro j
    induction j with
    | zero => intro _; exact ⟨[], rfl, List.Pairwise.nil, fun r => ⟨fun h => (by cases h), fun ⟨a, h, _⟩ => by omega⟩, Nat.le_refl _⟩
    | succ j ih =>
      intro hj
      obtain ⟨A, a1, a2, a3, a4⟩ := ih (by omega)
      have hp := Principal_ hg hm (a := (j : Int)) (by omega) (by omega)
      obtain ⟨A', b1, b2, b3, b4⟩ := Put_go (W := g.length) (by omega) (x := prm m u (j : Int)) (by rw [prm_len, hlu]) A.length A [] rfl (by rw [List.append_nil]; exact a2) (fun q hq => by cases hq) (fun r hr => by
        rw [List.append_nil] at hr
        obtain ⟨a, _, rfl⟩ := (a3 r).1 hr
        rw [prm_len, hlu]) (by rw [List.append_nil]; omega)
      rw [List.append_nil] at b1 b3 b4
      refine ⟨A', ?_, b2, fun r => ?_, by omega⟩
      · rw [a1, spec_l05All.l0_eq, if_pos (by omega), hp, Option.bind_some, spec_l05Put.f_eq, b1, Option.bind_some, wn (j := j) (by omega)]
      · rw [b3, a3]
        constructor
        · rintro (⟨a, ha, rfl⟩ | rfl)
          · exact ⟨a, by omega, rfl⟩
          · exact ⟨j, by omega, rfl⟩
        · rintro ⟨a, ha, rfl⟩
          by_cases e : a = j
          · exact .inr (by rw [e])
          · exact .inl ⟨a, by omega, rfl⟩
  obtain ⟨A, a1, a2, a3, a4⟩ := main M (Nat.le_refl _)
  refine ⟨A, ?_, a2, fun r => ?_, by omega⟩
  · rw [spec_l05All.f_eq, a1, spec_l05All.l0_eq, if_neg (by omega)]
  · rw [a3]
    exact ⟨fun ⟨a, h, e⟩ => ⟨a, by omega, e⟩, fun ⟨a, h, e⟩ => ⟨a, by omega, e⟩⟩
theorem principalMapsD {g : List (List Int)} {m : Int} {u : List Int} (hg : Grp g) (hm : Mdl g m u) : ∃ Ps, impl_principalMaps.f m u = some Ps ∧ Ps.Pairwise (fun r s => Ll g.length r s) ∧ (∀ r, r ∈ Ps ↔ ∃ a : Nat, (a : Int) < m ∧ r = prm m u (a : Int)) ∧ 0 < Ps.length ∧ Ps.length ≤ 12 := by
  have n8 := hg.n8; have m2 := hm.m2; have m12 := hm.m12; have hlu := hm.len
  obtain ⟨M, hM⟩ : ∃ M : Nat, m = (M : Int) := Int.eq_ofNat_of_zero_le (by omega)
  obtain ⟨xs, hxs⟩ : ∃ xs : List (List Int), xs = (List.range M).map fun a : Nat => prm m u (a : Int) := ⟨_, rfl⟩
  have hxl : xs.length = M := by rw [hxs]; simp
  have hmem : ∀ r, r ∈ xs ↔ ∃ a : Nat, (a : Int) < m ∧ r = prm m u (a : Int) := fun r => by
    rw [hxs, List.mem_map]
    constructor
    · rintro ⟨a, ha, rfl⟩; exact ⟨a, by have := List.mem_range.1 ha; omega, rfl⟩
    · rintro ⟨a, ha, rfl⟩; exact ⟨a, List.mem_range.2 (by omega), rfl⟩
  have hW : ∀ r ∈ xs, r.length = g.length := fun r hr => by
    obtain ⟨a, _, rfl⟩ := (hmem r).1 hr
    rw [prm_len, hlu]
  obtain ⟨S, s1, s2, s3⟩ := sort_good (f := _root_.Go.Proofs.Ytjknpaplgclflaa.R.slices_SortFunc_int64.f) hW (C := fun z0 z1 => (slices_Compare_int64.f z0 z1).map fun z => z) (fun x y hx hy => by
    obtain ⟨c, c1, c2, _⟩ := Compare_ hx hy (by omega)
    exact ⟨c, by show Option.map _ (slices_Compare_int64.f x y) = _; rw [c1]; rfl, c2⟩) (fun H L c' hs ho hl hH => sort12 ho (by omega) hH)
  have hSW : ∀ r ∈ S, r.length = g.length := fun r hr => hW r (s3.mem_iff.1 hr)
  have hSl : S.length = M := by rw [s3.length_eq, hxl]
  have hc := compact_good (xs := S) (by omega) (Q := fun z0 z1 => (slices_Equal_int64.f z0 z1).map fun z => z) (fun x hx y hy => by
    show Option.map _ (slices_Equal_int64.f x y) = _
    rw [Equal_ _ _ (by rw [hSW x hx]; omega)]; rfl)
  have hlen := cix_len (fun n => ct S n = ct S (n - 1)) S.length
  refine ⟨_, ?_, cix_sorted hSW s2 S.length (Nat.le_refl _), fun r => ?_, by rw [List.length_map]; exact hlen.2 (by omega), by rw [List.length_map]; omega⟩
  · rw [impl_principalMaps.f_eq]
    have := up M (fun j => impl_principalMaps.l0 m (j : Int) m u ((List.range j).map fun a : Nat => prm m u (a : Int))) (fun j h => by
      have l1 : ((List.range j).map fun a : Nat => prm m u (a : Int)).length = j := by simp
      have l2 : ∀ x : List Int, ([x] : List (List Int)).length = 1 := fun _ => rfl
      have hp := principalMap_ hg hm (a := (j : Int)) (by omega) (by omega)
      rw [List.range_succ, List.map_append, List.map_singleton, impl_principalMaps.l0_eq, wn (j := j) (by omega), hp, Option.bind_some, l1, l2]
      ((with_reducible repeat (first | refine go_pos (by first | assumption | omega | rfl | exact B_pos (by omega)) ?_ | refine go_neg (by first | assumption | omega | decide | exact B_not (by omega)) ?_ | refine go_bind (by first | assumption) ?_ | dsimp only)); first | done | (with_reducible rfl) | simp (disch := omega) only [w64] | (show False; done)))
    simp only [Int.natCast_zero, List.range_zero, List.map_nil, ← hxs] at this
    have e1 : slices_SortFunc_int64.f xs (fun z0 z1 => (slices_Compare_int64.f z0 z1).map fun z => z) = some S := s1
    have e2 : slices_CompactFunc_int64.f S (fun z0 z1 => (slices_Equal_int64.f z0 z1).map fun z => z) = some _ := hc
    rw [this, impl_principalMaps.l0_eq, if_neg (by omega), e1, Option.bind_some, e2, Option.bind_some]
  · rw [cix_mem r S.length (Nat.le_refl _), ← hmem, ← s3.mem_iff]
    constructor
    · rintro ⟨i, hi, rfl⟩; exact List.mem_of_getElem? (ct_get hi)
    · intro h
      obtain ⟨i, hi, rfl⟩ := List.getElem_of_mem h
      exact ⟨i, hi, Option.some.inj ((List.getElem?_eq_getElem hi).symm.trans (ct_get hi))⟩
end Go.Proofs.Ytjknpaplgclflaa.V
set_option linter.unusedVariables false
set_option linter.unusedSimpArgs false
set_option maxHeartbeats 2000000
set_option maxRecDepth 20000
namespace Go.Proofs.Ytjknpaplgclflaa.V
open Go.RowKit Go.Proofs.Ytjknpaplgclflaa.D Go.Proofs.Ytjknpaplgclflaa.P
theorem same_PrincipalMaps (g : List (List Int)) (m : Int) (u : List Int) (hl : g.length ≤ maxLen) (hr : ∀ r ∈ g, r.length ≤ maxLen) (hu : u.length ≤ maxLen) :
    ∃ (R : List (List Int)) (c : Int), spec_PrincipalMaps.f g m u = some (R, c) ∧ impl_PrincipalMaps.f g m u = some (R, c) ∧ R.length ≤ 1048576 ∧ ∀ r ∈ R, r.length ≤ 1048576 := by
  have hA := moduleCode1 g hl hr m u hu
  have hS := Is_ g
  by_cases h : GM g m u
  · obtain ⟨hg, hm⟩ := h
    have hM := Is02 hg m u hu
    have n8 := hg.n8; have hlu := hm.len
    rw [ite_pos ⟨hg, hm⟩] at hA
    rw [B_pos hm] at hM
    rw [B_pos hg] at hS
    obtain ⟨A, a1, a2, a3, a4⟩ := All_ hg hm
    obtain ⟨Ps, p1, p2, p3, _, p5⟩ := principalMapsD hg hm
    obtain rfl : Ps = A := strict_uniq (fun r => (p3 r).trans (a3 r).symm) p2 a2
    refine ⟨Ps, 0, ?_, ?_, by omega, fun r hr' => ?_⟩
    · rw [spec_PrincipalMaps.f_eq, hS, Option.bind_some, if_pos rfl, hM, Option.bind_some, if_pos rfl, a1]; rfl
    · rw [impl_PrincipalMaps.f_eq, hA, Option.bind_some, if_pos rfl, p1]; rfl
    · obtain ⟨a, _, rfl⟩ := (p3 r).1 hr'
      rw [prm_len]; omega
  · rw [ite_neg h] at hA
    refine ⟨[], 1, ?_, ?_, by simp, fun r hr' => by cases hr'⟩
    · by_cases h1 : Grp g
      · have hM := Is02 h1 m u hu
        rw [B_neg fun k => h ⟨h1, k⟩] at hM
        rw [B_pos h1] at hS
        rw [spec_PrincipalMaps.f_eq, hS, Option.bind_some, if_pos rfl, hM, Option.bind_some, if_neg (by decide)]
      · rw [B_neg h1] at hS
        rw [spec_PrincipalMaps.f_eq, hS, Option.bind_some, if_neg (by decide)]
    · rw [impl_PrincipalMaps.f_eq, hA, Option.bind_some, if_neg (by decide)]
end Go.Proofs.Ytjknpaplgclflaa.V
set_option linter.unusedVariables false
set_option linter.unusedSimpArgs false
set_option maxHeartbeats 4000000
set_option maxRecDepth 20000
namespace Go.Proofs.Ytjknpaplgclflaa.Pure
open Go.RowKit Go.Proofs.Ytjknpaplgclflaa.D Go.Proofs.Ytjknpaplgclflaa.P Go.Proofs.Ytjknpaplgclflaa.V
theorem FnExactPrincipalMaps_pure : ∀ (g0 : List (List Int)) (m1 : Int) (u1 : List Int), g0.length ≤ maxLen → (∀ r ∈ g0, r.length ≤ maxLen ∧ ∀ x ∈ r, (Lit.int .i64 x).wf = true) → (Lit.int .i64 m1).wf = true → u1.length ≤ maxLen → (∀ x ∈ u1, (Lit.int .i64 x).wf = true) → laws_FnExactPrincipalMaps.f g0 m1 u1 = some true := by
  intro g0 m1 u1 hl0 hq0 hw1 hu1 hx1
  have hr0 : ∀ r ∈ g0, r.length ≤ maxLen := fun r h => (hq0 r h).1
  rw [laws_FnExactPrincipalMaps.f_eq]
  obtain ⟨t0, e0, z0⟩ := szGroup g0 1048576 hl0 hr0 (by omega) (by omega)
  rcases z0 with z0 | ⟨ta0, tb0, kl0, kr0⟩
  · ((with_reducible repeat (first | refine go_pos (by first | assumption | omega | rfl | exact B_pos (by omega)) ?_ | refine go_neg (by first | assumption | omega | decide | exact B_not (by omega)) ?_ | refine go_bind (by first | assumption) ?_ | dsimp only)); first | done | (with_reducible rfl) | simp (disch := omega) only [w64] | (show False; done))
  obtain ⟨t1, e1, z1⟩ := szModule m1 u1 t0 hu1 (by omega) (by omega)
  rcases z1 with z1 | ⟨ta1, tb1, ku1⟩
  · ((with_reducible repeat (first | refine go_pos (by first | assumption | omega | rfl | exact B_pos (by omega)) ?_ | refine go_neg (by first | assumption | omega | decide | exact B_not (by omega)) ?_ | refine go_bind (by first | assumption) ?_ | dsimp only)); first | done | (with_reducible rfl) | simp (disch := omega) only [w64] | (show False; done))
  obtain ⟨R0, c1, hS, hI, rb0, rc0⟩ := same_PrincipalMaps g0 m1 u1 hl0 hr0 hu1
  have eT0 := toGroup g0 kl0 kr0
  have eS0 := same_Group g0 hl0 hr0
  have eN0 := tot_small kl0 kr0
  have eK0 := markGroup g0 (1) (by omega) (by omega) (by omega)
  have eT1 := toModule m1 u1 ku1
  have eS1 := same_Module m1 u1 hu1
  have eK1 := markModule m1 u1 (1 + tot g0) (by omega) (by omega)
  have rS0 := same_Rows R0 (le_maxLen (by omega)) (fun r h => le_maxLen (by have := rc0 r h; omega))
  have rN0 := tot_small rb0 rc0
  have rK0 := markSS R0 (1) (by omega) (by omega) (by omega)
  have rH0 := heldSS R0 (1) (by omega) (by omega) (by omega)
  ((with_reducible repeat (first | refine go_pos (by first | assumption | omega | rfl | exact B_pos (by omega)) ?_ | refine go_neg (by first | assumption | omega | decide | exact B_not (by omega)) ?_ | refine go_bind (by first | assumption) ?_ | dsimp only)); first | done | (with_reducible rfl) | simp (disch := omega) only [w64] | (show False; done))
end Go.Proofs.Ytjknpaplgclflaa.Pure
namespace Go.Proofs.Ytjknpaplgclflaa.shut
theorem mayEnter : Try.pinned.checked.prog.mayEnter = true := by kernel_rfl
theorem lifted : (Rows.fnExactPrincipalMapsRow.lifted == Try.pinned.checked.prog.liftsFinal) = true := by kernel_rfl
theorem make : (Try.pinned.checked.prog.make == some Rows.fnExactPrincipalMapsRow.make) = true := by kernel_rfl
end Go.Proofs.Ytjknpaplgclflaa.shut
