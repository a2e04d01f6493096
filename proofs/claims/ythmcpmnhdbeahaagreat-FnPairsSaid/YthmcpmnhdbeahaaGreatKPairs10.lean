/- What the proof of the law Pairs stands on, part 10: words, each Go function's Lean function, and that the Go code comes to its answers; no condition. (Packed by wip/myprint/pack.py out of what the kit's printer wrote, its words among it, partly by our patches of it, and out of texts of this session.) -/
import Derived.Test.YthmcpmnhdbeahaaGreatRows
import Derived.WalkKit
import Derived.ProofKit
import Derived.KernelRfl
import Derived.Test.YthmcpmnhdbeahaaGreatKPairs3
import Derived.Test.YthmcpmnhdbeahaaGreatKPairs4
import Derived.Test.YthmcpmnhdbeahaaGreatKPairs5
import Derived.Test.YthmcpmnhdbeahaaGreatKPairs7
import Derived.Test.YthmcpmnhdbeahaaGreatKPairs8
import Derived.Test.YthmcpmnhdbeahaaGreatKPairs9
set_option linter.unusedVariables false
set_option linter.unusedSimpArgs false
set_option maxHeartbeats 4000000
set_option maxRecDepth 20000
namespace Go.Proofs.YthmcpmnhdbeahaaGreat.V
open Go.RowKit Go.Proofs.YthmcpmnhdbeahaaGreat.D Go.Proofs.YthmcpmnhdbeahaaGreat.P
theorem adm_rd' {m : Int} {v w : List Int} {i : Nat} (h : i < v.length) : ∃ k : Int, rd (adm m v w) (i : Int) = rd v (i : Int) + rd w (i : Int) + m * k := by
 obtain ⟨k, hk⟩ := dvd_mod m (rd v (i : Int) + rd w (i : Int))
 exact ⟨-k, by rw [adm_rd h, Int.mul_neg]; omega⟩
theorem prm_rd' {m : Int} {u : List Int} {a : Int} {i : Nat} (h : i < u.length) : ∃ k : Int, rd (prm m u a) (i : Int) = rd u (i : Int) * a - a + m * k := by
 obtain ⟨k, hk⟩ := dvd_mod m (rd u (i : Int) * a - a)
 exact ⟨-k, by rw [prm_rd h, Int.mul_neg]; omega⟩
theorem adm_adm {m : Int} (m0 : 0 < m) {u l : List Int} (hl : l.length = u.length) (a b c : Int) (hc : m ∣ a + b - c) : adm m (adm m l (prm m u a)) (prm m u b) = adm m l (prm m u c) := by
 refine ext_rd (by rw [adm_len, adm_len, adm_len]) fun i i0 i1 => ?_
 rw [adm_len, adm_len] at i1
 obtain ⟨n, rfl⟩ := Int.eq_ofNat_of_zero_le i0
 have hn : n < l.length := by omega
 rw [adm_rd (by rw [adm_len]; exact hn), adm_rd (w := prm m u c) hn]
 refine emod_same ?_
 obtain ⟨k1, e1⟩ := adm_rd' (m := m) (v := l) (w := prm m u a) hn
 obtain ⟨k2, e2⟩ := prm_rd' (m := m) (u := u) (a := a) (i := n) (by omega)
 obtain ⟨k3, e3⟩ := prm_rd' (m := m) (u := u) (a := b) (i := n) (by omega)
 obtain ⟨k4, e4⟩ := prm_rd' (m := m) (u := u) (a := c) (i := n) (by omega)
 obtain ⟨q, hq⟩ := hc
 have hu : rd u (n : Int) * a + rd u (n : Int) * b - rd u (n : Int) * c = m * (rd u (n : Int) * q) := by
  rw [← Int.mul_add, ← Int.mul_sub, hq, Int.mul_left_comm]
 refine ⟨k1 + k2 + k3 - k4 + rd u (n : Int) * q - q, ?_⟩
 rw [e1, e2, e3, e4]
 simp only [Int.mul_add, Int.mul_sub]
 omega
theorem cand_shift {g : List (List Int)} {m : Int} {u l : List Int} (hm : Mdl g m u) (hn : Nums g m l) {a : Int} (a0 : 0 ≤ a) (r : List Int) : Cand m u (adm m l (prm m u a)) r ↔ Cand m u l r := by
 have m2 := hm.m2; have hlu := hm.len; have hll := hn.1
 have hl : l.length = u.length := by omega
 constructor
 ·
  rintro ⟨b, hb, rfl⟩
  have k0 := Int.emod_nonneg (a + b) (show m ≠ 0 by omega)
  have k1 := Int.emod_lt_of_pos (a + b) (show 0 < m by omega)
  exact ⟨((a + b) % m).toNat, by omega, adm_adm (by omega) hl a b _ (by rw [Int.toNat_of_nonneg k0]; exact dvd_mod m _)⟩
 ·
  rintro ⟨c, hc, rfl⟩
  have k0 := Int.emod_nonneg ((c : Int) - a) (show m ≠ 0 by omega)
  have k1 := Int.emod_lt_of_pos ((c : Int) - a) (show 0 < m by omega)
  refine ⟨(((c : Int) - a) % m).toNat, by omega, (adm_adm (by omega) hl a _ c ?_).symm⟩
  rw [Int.toNat_of_nonneg k0]
  obtain ⟨k, hk⟩ := dvd_mod m ((c : Int) - a)
  exact ⟨-k, by rw [Int.mul_neg]; omega⟩
theorem best_shift {g : List (List Int)} {m : Int} {u l : List Int} (hm : Mdl g m u) (hn : Nums g m l) {a : Int} (a0 : 0 ≤ a) (r : List Int) : BestC m u (adm m l (prm m u a)) r ↔ BestC m u l r := by
 unfold BestC
 rw [cand_shift hm hn a0, adm_len]
 exact and_congr Iff.rfl ⟨fun h s hs => h s ((cand_shift hm hn a0 s).2 hs), fun h s hs => h s ((cand_shift hm hn a0 s).1 hs)⟩
theorem Crs.adm {g : List (List Int)} {m : Int} {u l : List Int} (hg : Grp g) (hm : Mdl g m u) (hn : Nums g m l) (hc : Crs g m u l) (a : Int) : Crs g m u (adm m l (prm m u a)) ∧ Nums g m (V.adm m l (prm m u a)) := by
 have m2 := hm.m2; have hlu := hm.len; have hll := hn.1
 have hr : ∀ x : Int, 0 ≤ x → x < g.length → ∃ k : Int, rd (V.adm m l (prm m u a)) x = rd l x + rd u x * a - a + m * k := fun x x0 x1 => by
  obtain ⟨n, rfl⟩ := Int.eq_ofNat_of_zero_le x0
  obtain ⟨k1, e1⟩ := adm_rd' (m := m) (v := l) (w := prm m u a) (i := n) (by omega)
  obtain ⟨k2, e2⟩ := prm_rd' (m := m) (u := u) (a := a) (i := n) (by omega)
  exact ⟨k1 + k2, by rw [e1, e2, Int.mul_add]; omega⟩
 have hin : AllIn m (V.adm m l (prm m u a)) := allIn_of fun x hx => by
  obtain ⟨i, _, rfl⟩ := List.mem_map.1 hx
  exact ⟨Int.emod_nonneg _ (by omega), Int.emod_lt_of_pos _ (by omega)⟩
 refine ⟨fun x x0 x1 y y0 y1 => ?_, by rw [adm_len]; exact hll, hin⟩
 obtain ⟨t0, t1⟩ := hg.ent x y x0 x1 y0 y1
 obtain ⟨c0, c1⟩ := hin (T g x y) t0 (by rw [adm_len]; omega)
 obtain ⟨k1, e1⟩ := hr x x0 x1
 obtain ⟨k2, e2⟩ := hr y y0 y1
 obtain ⟨k3, e3⟩ := hr (T g x y) t0 t1
 rw [← Int.emod_eq_of_lt c0 c1]
 refine emod_same ?_
 have h1 := hc x x0 x1 y y0 y1
 obtain ⟨k4, e4⟩ := dvd_mod m (rd l x + rd u x * rd l y)
 have h2 := hm.hom x x0 (by omega) y y0 (by omega)
 obtain ⟨k5, e5⟩ := dvd_mod m (rd u x * rd u y)
 rw [← h1] at e4
 rw [← h2] at e5
 refine ⟨k3 - k1 - rd u x * k2 - k4 - k5 * a, ?_⟩
 rw [e1, e2, e3]
 have e6 : rd u (T g x y) * a = rd u x * rd u y * a - m * (k5 * a) := by rw [← Int.mul_assoc, ← Int.sub_mul]; congr 1; omega
 have e7 : rd u x * (rd l y + rd u y * a - a + m * k2) = rd u x * rd l y + rd u x * rd u y * a - rd u x * a + m * (rd u x * k2) := by
  rw [Int.mul_add, Int.mul_sub, Int.mul_add, Int.mul_assoc, Int.mul_left_comm (rd u x) m k2]
 rw [e7, e6]
 simp only [Int.mul_sub]
 omega
end Go.Proofs.YthmcpmnhdbeahaaGreat.V
namespace Go.Proofs.YthmcpmnhdbeahaaGreat.V
open Go.RowKit Go.Proofs.YthmcpmnhdbeahaaGreat.D Go.Proofs.YthmcpmnhdbeahaaGreat.P
theorem allIn1 {n x : Int} : AllIn n [x] ↔ 0 ≤ x ∧ x < n := ⟨fun h => h.mem (List.mem_singleton.2 rfl), fun h => allIn_one h.1 h.2⟩
theorem pairs_ok (g : List (List Int)) (hl : g.length ≤ maxLen) (hr : ∀ r ∈ g, r.length ≤ maxLen) (m : Int) (u : List Int) (hu : u.length ≤ maxLen) (ps : List Int) (hp : ps.length ≤ maxLen) (hg : Grp g) (hm : Mdl g m u) (ha : AllIn (g.length * m) ps) : impl_pairsCode.f g m u ps = some 0 ∧ spec_l05Pairs.f g m u ps = some 0 := by
 have hM := moduleCode1 g hl hr m u hu
 have hS := Is_ g
 have h2 := Is02 hg m u hu
 rw [ite_pos ⟨hg, hm⟩] at hM
 obtain ⟨b0, b1⟩ := nm_bd hg hm
 have hA := areIn (g.length * m) ps hp
 have hB1 : B (Grp g) = true := B_pos hg
 have hB2 : B (Mdl g m u) = true := B_pos hm
 have hml := maxLen_le
 rw [B_pos ha] at hA
 rw [impl_pairsCode.f_eq, spec_l05Pairs.f_eq]
 have e1 : wrapI (wrapI (m * g.length) - 1) = g.length * m - 1 := by rw [Int.mul_comm, w64 (x := (g.length : Int) * m) (by omega) (by omega), w64 (by omega) (by omega)]
 rw [impl_order.f_eq, Option.bind_some, w64 (x := (g.length : Int) * m) (by omega) (by omega)]
 have e := up ps.length (fun i => spec_l05Pairs.l0 ps (i : Int) g m u) (fun i hi => by
  have := ha i (by omega) (by omega)
  rw [spec_l05Pairs.l0_eq, spec_l01N.f_eq, Option.bind_some, e1, show wrapI ((i : Int) + 1) = ((i + 1 : Nat) : Int) from by rw [w64 (by omega) (by omega)]; omega]
  ((with_reducible repeat (first | refine go_pos (by first | assumption | omega | rfl | exact B_pos (by omega)) ?_ | refine go_neg (by first | assumption | omega | decide | exact B_not (by omega)) ?_ | refine go_bind (by first | assumption | exact In_ _ _ _) ?_ | dsimp only)); first | done | (with_reducible rfl) | simp (disch := omega) only [w64] | (show False; done)))
 simp only [Int.natCast_zero] at e
 refine ⟨by ((with_reducible repeat (first | refine go_pos (by first | assumption | omega | rfl | exact B_pos (by omega)) ?_ | refine go_neg (by first | assumption | omega | decide | exact B_not (by omega)) ?_ | refine go_bind (by first | assumption) ?_ | dsimp only)); first | done | (with_reducible rfl) | simp (disch := omega) only [w64] | (show False; done)), ?_⟩
 (with_reducible repeat (first | refine go_pos (by first | assumption | omega | rfl | exact B_pos (by omega)) ?_ | refine go_neg (by first | assumption | omega | decide | exact B_not (by omega)) ?_ | refine go_bind (by first | assumption) ?_ | dsimp only))
 rw [e, spec_l05Pairs.l0_eq]
 ((with_reducible repeat (first | refine go_pos (by first | assumption | omega | rfl | exact B_pos (by omega)) ?_ | refine go_neg (by first | assumption | omega | decide | exact B_not (by omega)) ?_ | refine go_bind (by first | assumption) ?_ | dsimp only)); first | done | (with_reducible rfl) | simp (disch := omega) only [w64] | (show False; done))
theorem crossed_ok (g : List (List Int)) (hl : g.length ≤ maxLen) (hr : ∀ r ∈ g, r.length ≤ maxLen) (m : Int) (u : List Int) (hu : u.length ≤ maxLen) (l : List Int) (hx : l.length ≤ maxLen) (hg : Grp g) (hm : Mdl g m u) (hn : Nums g m l) (hc : Crs g m u l) : impl_crossedCode.f g m u l = some 0 := by
 have hM := moduleCode1 g hl hr m u hu
 have hn1 := isNumbers (g := g) (m := m) (u := u) hx
 have c1 := isCrossed hg hm hn
 rw [ite_pos ⟨hg, hm⟩] at hM
 rw [impl_crossedCode.f_eq, impl_numbersCode.f_eq, hM, Option.bind_some, if_pos rfl, hn1, B_pos hn, Option.bind_some, if_pos rfl, Option.bind_some, if_pos rfl, c1, B_pos hc]
 rfl
theorem small_len {g : List (List Int)} (hg : Grp g) : g.length ≤ maxLen ∧ ∀ r ∈ g, r.length ≤ maxLen := by
 have n8 := hg.n8
 refine ⟨le_maxLen (by omega), fun r hr => ?_⟩
 obtain ⟨i, i0, i1, rfl⟩ := mem_row hr
 have := hg.row i i0 i1
 exact le_maxLen (by omega)
theorem pair2 {g : List (List Int)} {m p q : Int} (hp : Pr g m p) (hq : Pr g m q) : AllIn (g.length * m) [p, q] := allIn_two hp.1 hp.2 hq.1 hq.2
theorem pair1 {g : List (List Int)} {m p : Int} (hp : Pr g m p) : AllIn (g.length * m) [p] := allIn_one hp.1 hp.2
theorem product_ok {g : List (List Int)} {m : Int} {u : List Int} (hg : Grp g) (hm : Mdl g m u) {p q : Int} (hp : Pr g m p) (hq : Pr g m q) : impl_PairProduct.f g m u p q = some (PP g m u p q, 0) := by
 obtain ⟨hl, hr⟩ := small_len hg
 have n8 := hg.n8; have hlu := hm.len
 obtain ⟨cI, _⟩ := pairs_ok g hl hr m u (le_maxLen (by omega)) [p, q] (le_maxLen (by simp)) hg hm (pair2 hp hq)
 obtain ⟨_, _, f3, _⟩ := PP_facts hg hm hp.1 hp.2 hq.1 hq.2
 rw [impl_PairProduct.f_eq]
 ((with_reducible repeat (first | refine go_pos (by first | assumption | omega | rfl | exact B_pos (by omega)) ?_ | refine go_neg (by first | assumption | omega | decide | exact B_not (by omega)) ?_ | refine go_bind (by first | assumption) ?_ | dsimp only)); first | done | (with_reducible rfl) | simp (disch := omega) only [w64] | (show False; done))
theorem same_PairProduct (g : List (List Int)) (m : Int) (u : List Int) (p q : Int) (hl : g.length ≤ maxLen) (hr : ∀ r ∈ g, r.length ≤ maxLen) (hu : u.length ≤ maxLen) :
  ∃ v e : Int, impl_PairProduct.f g m u p q = some (v, e) ∧ spec_PairProduct.f g m u p q = some (v, e) ∧ ((e = 0 ∧ Grp g ∧ Mdl g m u ∧ Pr g m p ∧ Pr g m q ∧ v = PP g m u p q) ∨ ¬ e = 0) := by
 rcases pairs_codes g hl hr m u hu [p, q] (le_maxLen (by simp)) with ⟨hg, hm, ha, cI, cS⟩ | ⟨e, e0, cI, cS⟩
 ·
  have hp : Pr g m p := ha.mem (by simp)
  have hq : Pr g m q := ha.mem (by simp)
  obtain ⟨_, _, f3, f4⟩ := PP_facts hg hm hp.1 hp.2 hq.1 hq.2
  refine ⟨_, 0, product_ok hg hm hp hq, ?_, .inl ⟨rfl, hg, hm, hp, hq, rfl⟩⟩
  rw [spec_PairProduct.f_eq]
  ((with_reducible repeat (first | refine go_pos (by first | assumption | omega | rfl | exact B_pos (by omega)) ?_ | refine go_neg (by first | assumption | omega | decide | exact B_not (by omega)) ?_ | refine go_bind (by first | assumption) ?_ | dsimp only)); first | done | (with_reducible rfl) | simp (disch := omega) only [w64] | (show False; done))
 ·
  refine ⟨0, e, ?_, ?_, .inr e0⟩
  ·
   rw [impl_PairProduct.f_eq]; ((with_reducible repeat (first | refine go_pos (by first | assumption | omega | rfl | exact B_pos (by omega)) ?_ | refine go_neg (by first | assumption | omega | decide | exact B_not (by omega)) ?_ | refine go_bind (by first | assumption) ?_ | dsimp only)); first | done | (with_reducible rfl) | simp (disch := omega) only [w64] | (show False; done))
  ·
   rw [spec_PairProduct.f_eq]; ((with_reducible repeat (first | refine go_pos (by first | assumption | omega | rfl | exact B_pos (by omega)) ?_ | refine go_neg (by first | assumption | omega | decide | exact B_not (by omega)) ?_ | refine go_bind (by first | assumption) ?_ | dsimp only)); first | done | (with_reducible rfl) | simp (disch := omega) only [w64] | (show False; done))
theorem inverse_ok {g : List (List Int)} {m : Int} {u : List Int} (hg : Grp g) (hm : Mdl g m u) {p : Int} (hp : Pr g m p) : ∃ v, impl_PairInverse.f g m u p = some (v, 0) ∧ spec_PairInverse.f g m u p = some (v, 0) ∧ Pr g m v ∧ PP g m u p v = 0 := by
 obtain ⟨hl, hr⟩ := small_len hg
 have n8 := hg.n8; have hlu := hm.len; have m2 := hm.m2; have m12 := hm.m12
 obtain ⟨cI, cS⟩ := pairs_ok g hl hr m u (le_maxLen (by omega)) [p] (le_maxLen (by simp)) hg hm (pair1 hp)
 obtain ⟨⟨x0, x1⟩, r0, r1⟩ := hp.parts (show 0 < m by omega)
 obtain ⟨y, y0, y1, hy, iI, iS⟩ := inv_is hg x0 x1
 obtain ⟨w0, w1⟩ := nm_bd hg hm
 obtain ⟨ux0, ux1⟩ := hm.at x0 x1
 obtain ⟨uy0, uy1⟩ := hm.at y0 y1
 have hx := hm.hom _ x0 (by omega) _ y0 (by omega)
 rw [hy, hm.one hg] at hx
 obtain ⟨r, hr'⟩ : ∃ r, r = p % m := ⟨_, rfl⟩
 obtain ⟨b, hb⟩ : ∃ b, b = ((m - r) * rd u y) % m := ⟨_, rfl⟩
 have b0 : 0 ≤ b := by rw [hb]; exact Int.emod_nonneg _ (by omega)
 have b1 : b < m := by rw [hb]; exact Int.emod_lt_of_pos _ (by omega)
 have hd : m ∣ p % m + rd u (p / m) * b := by
  obtain ⟨k1, h1⟩ := dvd_mod m ((m - r) * rd u y)
  obtain ⟨k2, h2⟩ := dvd_mod m (rd u (p / m) * rd u y)
  rw [← hb] at h1
  rw [← hx] at h2
  rw [← hr']
  have e1 : b = (m - r) * rd u y - m * k1 := by omega
  refine ⟨rd u (p / m) * rd u y - r * k2 - rd u (p / m) * k1, ?_⟩
  have e2 : rd u (p / m) * rd u y = 1 + m * k2 := by omega
  have e3 : rd u (p / m) * b = (m - r) * (rd u (p / m) * rd u y) - m * (rd u (p / m) * k1) := by
   rw [e1, Int.mul_sub]
   simp only [Int.mul_left_comm, Int.mul_comm, Int.mul_assoc]
  rw [e3, e2, Int.mul_add, Int.mul_one, Int.sub_mul m r (m * k2), Int.mul_left_comm r m k2, Int.mul_sub, Int.mul_sub, Int.mul_add, Int.mul_one]
  generalize m * (m * k2) = A
  generalize m * (r * k2) = C
  generalize m * (rd u (p / m) * k1) = D
  omega
 obtain ⟨f1, f2⟩ := PP_inv hg hm hp y0 y1 hy b0 b1 hd
 have q1 : wrapI (p.tdiv m) = p / m := by
  have := Int.ediv_le_self m hp.1
  rw [tdiv_nn hp.1]; exact w64 (by omega) (by omega)
 have hs1 := mul_lt_small (a := m - r) (b := rd u y) (m := 1000) (by omega) (by omega) (by omega) (by omega) (by omega)
 have e1 : 0 ≤ m * y := Int.mul_nonneg (by omega) y0
 have e2 : m * y ≤ 12 * 8 := Int.mul_le_mul m12 (by omega) y0 (by omega)
 have hs2 := mul_lt_small (a := rd u y) (b := r) (m := 1000) (by omega) (by omega) (by omega) (by omega) (by omega)
 have hneg : wrapI (wrapI (0 - rd u y) * r) = -(rd u y * r) := by rw [w64 (x := 0 - rd u y) (by omega) (by omega), Int.zero_sub, Int.neg_mul, w64 (by omega) (by omega)]
 have hmod := Mod_ (a := -(rd u y * r)) (m := m) (by omega) (by omega) (by omega) (by omega)
 have hb2 : -(rd u y * r) % m = b := by
  rw [hb]
  refine emod_same ⟨-rd u y, ?_⟩
  rw [Int.sub_mul, Int.mul_neg, Int.mul_comm r]
  omega
 rw [hb2] at hmod
 refine ⟨m * y + b, ?_, ?_, f1, f2⟩
 ·
  rw [impl_PairInverse.f_eq, q1, tmod_nn hp.1, ← hr']
  (with_reducible repeat (first | refine go_pos (by first | assumption | omega | rfl | exact B_pos (by omega)) ?_ | refine go_neg (by first | assumption | omega | decide | exact B_not (by omega)) ?_ | refine go_bind (by first | assumption) ?_ | dsimp only))
  rw [w64 (x := m - r) (by omega) (by omega), w64 (x := (m - r) * rd u y) (by omega) (by omega), tmod_nn hs1.1, ← hb, w64 (x := m * y) (by omega) (by omega), w64 (x := m * y + b) (by omega) (by omega)]
 ·
  rw [spec_PairInverse.f_eq, q1, tmod_nn hp.1, ← hr']
  (with_reducible repeat (first | refine go_pos (by first | assumption | omega | rfl | exact B_pos (by omega)) ?_ | refine go_neg (by first | assumption | omega | decide | exact B_not (by omega)) ?_ | refine go_bind (by first | assumption) ?_ | dsimp only))
  rw [hneg, hmod, Int.mul_comm y m]
  dsimp only [Option.bind_some]
  rw [w64 (x := m * y) (by omega) (by omega), w64 (x := m * y + b) (by omega) (by omega)]
theorem same_PairInverse (g : List (List Int)) (m : Int) (u : List Int) (p : Int) (hl : g.length ≤ maxLen) (hr : ∀ r ∈ g, r.length ≤ maxLen) (hu : u.length ≤ maxLen) :
  ∃ v e : Int, impl_PairInverse.f g m u p = some (v, e) ∧ spec_PairInverse.f g m u p = some (v, e) := by
 rcases pairs_codes g hl hr m u hu [p] (le_maxLen (by simp)) with ⟨hg, hm, ha, cI, cS⟩ | ⟨e, e0, cI, cS⟩
 ·
  have hp : Pr g m p := ha.mem (by simp)
  obtain ⟨v, a, b, _⟩ := inverse_ok hg hm hp
  exact ⟨v, 0, a, b⟩
 ·
  refine ⟨0, e, ?_, ?_⟩
  ·
   rw [impl_PairInverse.f_eq]; ((with_reducible repeat (first | refine go_pos (by first | assumption | omega | rfl | exact B_pos (by omega)) ?_ | refine go_neg (by first | assumption | omega | decide | exact B_not (by omega)) ?_ | refine go_bind (by first | assumption) ?_ | dsimp only)); first | done | (with_reducible rfl) | simp (disch := omega) only [w64] | (show False; done))
  ·
   rw [spec_PairInverse.f_eq]; ((with_reducible repeat (first | refine go_pos (by first | assumption | omega | rfl | exact B_pos (by omega)) ?_ | refine go_neg (by first | assumption | omega | decide | exact B_not (by omega)) ?_ | refine go_bind (by first | assumption) ?_ | dsimp only)); first | done | (with_reducible rfl) | simp (disch := omega) only [w64] | (show False; done))
theorem order_ok {g : List (List Int)} {m : Int} {u : List Int} (hg : Grp g) (hm : Mdl g m u) {p : Int} (hp : Pr g m p) : ∃ k : Nat, 0 < k ∧ k ≤ 96 ∧ (k : Int) ∣ g.length * m ∧ impl_PairOrder.f g m u p = some ((k : Int), 0) ∧ spec_PairOrder.f g m u p = some ((k : Int), 0) := by
 obtain ⟨hl, hr⟩ := small_len hg
 have n8 := hg.n8; have hlu := hm.len; have m2 := hm.m2; have m12 := hm.m12
 obtain ⟨cI, cS⟩ := pairs_ok g hl hr m u (le_maxLen (by omega)) [p] (le_maxLen (by simp)) hg hm (pair1 hp)
 obtain ⟨d, d0, d96, h0, hmin, hdv⟩ := PP_order hg hm hp
 have z := Pr.zero hg hm
 obtain ⟨S, hS⟩ : ∃ S : Nat → Int, ∀ k, S k = itf (fun q => PP g m u q p) k 0 := ⟨_, fun _ => rfl⟩
 have pr : ∀ k, Pr g m (S k) := fun k => by rw [hS]; exact (PP_itf hg hm hp z k).2.1
 have st : ∀ k, PP g m u (S k) p = S (k + 1) := fun k => by
  rw [hS, hS]
  have := itf_add (fun q => PP g m u q p) 0 k 1
  rw [Nat.add_comm k 1, this]
  rfl
 have s1 : S 1 = p := by rw [← st, hS]; exact (PP_zero hg hm hp).2
 have hd : S d = 0 := by rw [hS]; exact h0
 have hne : ∀ k, 0 < k → k < d → S k ≠ 0 := fun k a b => by rw [hS]; exact hmin k a b
 obtain ⟨d, rfl⟩ : ∃ d', d = d' + 1 := ⟨d - 1, by omega⟩
 have up1 := up d (fun k => impl_PairOrder.l0 p (((k + 1 : Nat) : Int)) (S (k + 1)) g m u) (fun k hk => by
  have ne := hne (k + 1) (by omega) (by omega)
  have q := pr (k + 1)
  obtain ⟨_, _, f3, _⟩ := PP_facts hg hm q.1 q.2 hp.1 hp.2
  rw [st] at f3
  rw [impl_PairOrder.l0_eq, if_neg (by simpa using ne), wn (j := k + 1) (by omega)]
  ((with_reducible repeat (first | refine go_pos (by first | assumption | omega | rfl | exact B_pos (by omega)) ?_ | refine go_neg (by first | assumption | omega | decide | exact B_not (by omega)) ?_ | refine go_bind (by first | assumption) ?_ | dsimp only)); first | done | (with_reducible rfl) | simp (disch := omega) only [w64] | (show False; done)))
 have up2 := up d (fun k => spec_PairOrder.l0 p (((k + 1 : Nat) : Int)) (S (k + 1)) g m u) (fun k hk => by
  have ne := hne (k + 1) (by omega) (by omega)
  have q := pr (k + 1)
  obtain ⟨_, _, _, f4⟩ := PP_facts hg hm q.1 q.2 hp.1 hp.2
  rw [st] at f4
  rw [spec_PairOrder.l0_eq, if_neg (by simpa using ne), wn (j := k + 1) (by omega)]
  ((with_reducible repeat (first | refine go_pos (by first | assumption | omega | rfl | exact B_pos (by omega)) ?_ | refine go_neg (by first | assumption | omega | decide | exact B_not (by omega)) ?_ | refine go_bind (by first | assumption) ?_ | dsimp only)); first | done | (with_reducible rfl) | simp (disch := omega) only [w64] | (show False; done)))
 simp only [Nat.zero_add, s1, hd] at up1 up2
 refine ⟨d + 1, d0, d96, hdv, ?_, ?_⟩
 ·
  rw [impl_PairOrder.f_eq]
  (with_reducible repeat (first | refine go_pos (by first | assumption | omega | rfl | exact B_pos (by omega)) ?_ | refine go_neg (by first | assumption | omega | decide | exact B_not (by omega)) ?_ | refine go_bind (by first | assumption) ?_ | dsimp only))
  refine Eq.trans up1 ?_
  rw [impl_PairOrder.l0_eq]
  ((with_reducible repeat (first | refine go_pos (by first | assumption | omega | rfl | exact B_pos (by omega)) ?_ | refine go_neg (by first | assumption | omega | decide | exact B_not (by omega)) ?_ | refine go_bind (by first | assumption) ?_ | dsimp only)); first | done | (with_reducible rfl) | simp (disch := omega) only [w64] | (show False; done))
 ·
  rw [spec_PairOrder.f_eq]
  (with_reducible repeat (first | refine go_pos (by first | assumption | omega | rfl | exact B_pos (by omega)) ?_ | refine go_neg (by first | assumption | omega | decide | exact B_not (by omega)) ?_ | refine go_bind (by first | assumption) ?_ | dsimp only))
  refine Eq.trans up2 ?_
  rw [spec_PairOrder.l0_eq]
  ((with_reducible repeat (first | refine go_pos (by first | assumption | omega | rfl | exact B_pos (by omega)) ?_ | refine go_neg (by first | assumption | omega | decide | exact B_not (by omega)) ?_ | refine go_bind (by first | assumption) ?_ | dsimp only)); first | done | (with_reducible rfl) | simp (disch := omega) only [w64] | (show False; done))
theorem same_PairOrder (g : List (List Int)) (m : Int) (u : List Int) (p : Int) (hl : g.length ≤ maxLen) (hr : ∀ r ∈ g, r.length ≤ maxLen) (hu : u.length ≤ maxLen) :
  ∃ v e : Int, impl_PairOrder.f g m u p = some (v, e) ∧ spec_PairOrder.f g m u p = some (v, e) := by
 rcases pairs_codes g hl hr m u hu [p] (le_maxLen (by simp)) with ⟨hg, hm, ha, cI, cS⟩ | ⟨e, e0, cI, cS⟩
 ·
  have hp : Pr g m p := ha.mem (by simp)
  obtain ⟨v, _, _, _, a, b⟩ := order_ok hg hm hp
  exact ⟨v, 0, a, b⟩
 ·
  refine ⟨0, e, ?_, ?_⟩
  ·
   rw [impl_PairOrder.f_eq]; ((with_reducible repeat (first | refine go_pos (by first | assumption | omega | rfl | exact B_pos (by omega)) ?_ | refine go_neg (by first | assumption | omega | decide | exact B_not (by omega)) ?_ | refine go_bind (by first | assumption) ?_ | dsimp only)); first | done | (with_reducible rfl) | simp (disch := omega) only [w64] | (show False; done))
  ·
   rw [spec_PairOrder.f_eq]; ((with_reducible repeat (first | refine go_pos (by first | assumption | omega | rfl | exact B_pos (by omega)) ?_ | refine go_neg (by first | assumption | omega | decide | exact B_not (by omega)) ?_ | refine go_bind (by first | assumption) ?_ | dsimp only)); first | done | (with_reducible rfl) | simp (disch := omega) only [w64] | (show False; done))
def cpl (m : Int) (l : List Int) : List Int := (List.range l.length).map fun i : Nat => m * (i : Int) + rd l (i : Int)
theorem cpl_len (m : Int) (l : List Int) : (cpl m l).length = l.length := by simp [cpl]
theorem cpl_rd {m : Int} {l : List Int} {i : Nat} (h : i < l.length) : rd (cpl m l) (i : Int) = m * (i : Int) + rd l (i : Int) := by
 rw [rd_get (by rw [cpl_len]; exact h)]
 simp [cpl]
theorem cpl_facts {g : List (List Int)} {m : Int} {u l : List Int} (hg : Grp g) (hm : Mdl g m u) (hn : Nums g m l) (hc : Crs g m u l) : AllIn (g.length * m) (cpl m l) ∧ Comp g m u (cpl m l) ∧ (cpl m l).map (· % m) = l ∧ (cpl m l).length ≤ 8 := by
 have n8 := hg.n8; have m2 := hm.m2; have hl := hn.1
 have hmap : (cpl m l).map (· % m) = l := by
  refine ext_rd (by rw [List.length_map, cpl_len]) fun i i0 i1 => ?_
  rw [List.length_map, cpl_len] at i1
  obtain ⟨k, rfl⟩ := Int.eq_ofNat_of_zero_le i0
  have hk : k < l.length := by omega
  obtain ⟨a0, a1⟩ := hn.2 (k : Int) i0 i1
  rw [rd_get (by rw [List.length_map, cpl_len]; exact hk), List.getElem_map, ← rd_get, cpl_rd hk, Int.mul_add_emod_self_left, Int.emod_eq_of_lt a0 a1]
 have hat : ∀ i : Int, 0 ≤ i → i < l.length → rd (cpl m l) i = m * i + rd l i ∧ (0 ≤ rd l i ∧ rd l i < m) := fun i i0 i1 => by
  obtain ⟨k, rfl⟩ := Int.eq_ofNat_of_zero_le i0
  exact ⟨cpl_rd (by omega), hn.2 _ i0 i1⟩
 refine ⟨fun i i0 i1 => ?_, ⟨by rw [cpl_len]; omega, fun i i0 i1 => ?_, by rw [hmap]; exact hc⟩, hmap, by rw [cpl_len]; omega⟩
 ·
  rw [cpl_len] at i1
  obtain ⟨e, a0, a1⟩ := hat i i0 i1
  have e1 : 0 ≤ m * i := Int.mul_nonneg (by omega) i0
  have e2 : m * i ≤ m * (g.length - 1) := Int.mul_le_mul_of_nonneg_left (by omega) (by omega)
  have e3 : m * ((g.length : Int) - 1) = g.length * m - m := by rw [Int.mul_sub, Int.mul_comm]; omega
  omega
 ·
  rw [cpl_len] at i1
  obtain ⟨e, a0, a1⟩ := hat i i0 i1
  rw [e, Int.mul_add_ediv_left _ _ (by omega), Int.ediv_eq_zero_of_lt a0 a1, Int.add_zero]
theorem same_IsComplement (g : List (List Int)) (m : Int) (u ps : List Int) (hl : g.length ≤ maxLen) (hr : ∀ r ∈ g, r.length ≤ maxLen) (hu : u.length ≤ maxLen) (hpl : ps.length ≤ 1048576) :
  ∃ (b : Bool) (e : Int), impl_IsComplement.f g m u ps = some (b, e) ∧ spec_IsComplement.f g m u ps = some (b, e) := by
 rcases pairs_codes g hl hr m u hu ps (le_maxLen (by omega)) with ⟨hg, hm, ha, cI, cS⟩ | ⟨e, e0, cI, cS⟩
 ·
  have c1 := isComplement hg hm ha hpl
  have c2 := Complement_ hg hm ha
  generalize B (Comp g m u ps) = b at c1 c2
  refine ⟨decide (b = true), 0, ?_, ?_⟩
  ·
   rw [impl_IsComplement.f_eq]
   ((with_reducible repeat (first | refine go_pos (by first | assumption | omega | rfl | exact B_pos (by omega)) ?_ | refine go_neg (by first | assumption | omega | decide | exact B_not (by omega)) ?_ | refine go_bind (by first | assumption) ?_ | dsimp only)); first | done | (with_reducible rfl) | simp (disch := omega) only [w64] | (show False; done))
  ·
   rw [spec_IsComplement.f_eq]
   ((with_reducible repeat (first | refine go_pos (by first | assumption | omega | rfl | exact B_pos (by omega)) ?_ | refine go_neg (by first | assumption | omega | decide | exact B_not (by omega)) ?_ | refine go_bind (by first | assumption) ?_ | dsimp only)); first | done | (with_reducible rfl) | simp (disch := omega) only [w64] | (show False; done))
 ·
  refine ⟨false, e, ?_, ?_⟩
  ·
   rw [impl_IsComplement.f_eq]; ((with_reducible repeat (first | refine go_pos (by first | assumption | omega | rfl | exact B_pos (by omega)) ?_ | refine go_neg (by first | assumption | omega | decide | exact B_not (by omega)) ?_ | refine go_bind (by first | assumption) ?_ | dsimp only)); first | done | (with_reducible rfl) | simp (disch := omega) only [w64] | (show False; done))
  ·
   rw [spec_IsComplement.f_eq]; ((with_reducible repeat (first | refine go_pos (by first | assumption | omega | rfl | exact B_pos (by omega)) ?_ | refine go_neg (by first | assumption | omega | decide | exact B_not (by omega)) ?_ | refine go_bind (by first | assumption) ?_ | dsimp only)); first | done | (with_reducible rfl) | simp (disch := omega) only [w64] | (show False; done))
theorem isComplement_ok {g : List (List Int)} {m : Int} {u ps : List Int} (hg : Grp g) (hm : Mdl g m u) (ha : AllIn (g.length * m) ps) (hpl : ps.length ≤ 8) (hc : Comp g m u ps) : impl_IsComplement.f g m u ps = some (true, 0) := by
 obtain ⟨hl, hr⟩ := small_len hg
 have n8 := hg.n8; have hlu := hm.len
 obtain ⟨cI, _⟩ := pairs_ok g hl hr m u (le_maxLen (by omega)) ps (le_maxLen (by omega)) hg hm ha
 have := isComplement hg hm ha (by omega)
 rw [B_pos hc] at this
 rw [impl_IsComplement.f_eq]
 (with_reducible repeat (first | refine go_pos (by first | assumption | omega | rfl | exact B_pos (by omega)) ?_ | refine go_neg (by first | assumption | omega | decide | exact B_not (by omega)) ?_ | refine go_bind (by first | assumption) ?_ | dsimp only))
 rfl
theorem same_ComplementOf (g : List (List Int)) (m : Int) (u l : List Int) (hl : g.length ≤ maxLen) (hr : ∀ r ∈ g, r.length ≤ maxLen) (hu : u.length ≤ maxLen) (hx : l.length ≤ maxLen) :
  ∃ (R : List Int) (e : Int), impl_ComplementOf.f g m u l = some (R, e) ∧ spec_ComplementOf.f g m u l = some (R, e) ∧ R.length ≤ 8 ∧ ((e = 0 ∧ Grp g ∧ Mdl g m u ∧ Nums g m l ∧ Crs g m u l ∧ R = cpl m l) ∨ ¬ e = 0) := by
 rcases crossed_codes g hl hr m u hu l hx with ⟨hg, hm, hn, hc, cI, cS⟩ | ⟨e, e0, cI, cS⟩
 rotate_left
 ·
  refine ⟨[], e, ?_, ?_, by simp, .inr e0⟩
  ·
   rw [impl_ComplementOf.f_eq]; ((with_reducible repeat (first | refine go_pos (by first | assumption | omega | rfl | exact B_pos (by omega)) ?_ | refine go_neg (by first | assumption | omega | decide | exact B_not (by omega)) ?_ | refine go_bind (by first | assumption) ?_ | dsimp only)); first | done | (with_reducible rfl) | simp (disch := omega) only [w64] | (show False; done))
  ·
   rw [spec_ComplementOf.f_eq]; ((with_reducible repeat (first | refine go_pos (by first | assumption | omega | rfl | exact B_pos (by omega)) ?_ | refine go_neg (by first | assumption | omega | decide | exact B_not (by omega)) ?_ | refine go_bind (by first | assumption) ?_ | dsimp only)); first | done | (with_reducible rfl) | simp (disch := omega) only [w64] | (show False; done))
 have n8 := hg.n8; have m2 := hm.m2; have m12 := hm.m12; have hnl := hn.1
 have l1 : ∀ x : Int, ([x] : List Int).length = 1 := fun _ => rfl
 have step : ∀ i : Nat, i < l.length → ((cpl m l).take i).length = i ∧ wrapI (wrapI (m * (i : Int)) + rd l (i : Int)) = rd (cpl m l) (i : Int) := fun i hi => by
  refine ⟨by rw [List.length_take, cpl_len]; omega, ?_⟩
  obtain ⟨a0, a1⟩ := hn.2 (i : Int) (by omega) (by omega)
  have e1 : 0 ≤ m * (i : Int) := Int.mul_nonneg (by omega) (by omega)
  have e2 : m * (i : Int) ≤ 12 * 8 := Int.mul_le_mul m12 (by omega) (by omega) (by omega)
  rw [cpl_rd hi, w64 (x := m * (i : Int)) (by omega) (by omega), w64 (by omega) (by omega)]
 have up1 := up l.length (fun i => impl_ComplementOf.l0 l (l.length : Int) (i : Int) m u ((cpl m l).take i)) (fun i hi => by
  obtain ⟨s1, s2⟩ := step i hi
  rw [take_rd (xs := cpl m l) (by rw [cpl_len]; exact hi), impl_ComplementOf.l0_eq, s2, s1, l1, wn (j := i) (by omega)]
  clear s2
  ((with_reducible repeat (first | refine go_pos (by first | assumption | omega | rfl | exact B_pos (by omega)) ?_ | refine go_neg (by first | assumption | omega | decide | exact B_not (by omega)) ?_ | refine go_bind (by first | assumption) ?_ | dsimp only)); first | done | (with_reducible rfl) | simp (disch := omega) only [w64] | (show False; done)))
 have up2 := up l.length (fun i => spec_ComplementOf.l0 l (i : Int) g m u ((cpl m l).take i)) (fun i hi => by
  obtain ⟨s1, s2⟩ := step i hi
  rw [take_rd (xs := cpl m l) (by rw [cpl_len]; exact hi), spec_ComplementOf.l0_eq, spec_l01N.f_eq, Option.bind_some, s2, s1, l1, wn (j := i) (by omega)]
  clear s2
  ((with_reducible repeat (first | refine go_pos (by first | assumption | omega | rfl | exact B_pos (by omega)) ?_ | refine go_neg (by first | assumption | omega | decide | exact B_not (by omega)) ?_ | refine go_bind (by first | assumption) ?_ | dsimp only)); first | done | (with_reducible rfl) | simp (disch := omega) only [w64] | (show False; done)))
 have hT : (cpl m l).take l.length = cpl m l := List.take_of_length_le (by rw [cpl_len]; omega)
 simp only [Int.natCast_zero, List.take_zero, hT] at up1 up2
 refine ⟨cpl m l, 0, ?_, ?_, by rw [cpl_len]; omega, .inl ⟨rfl, hg, hm, hn, hc, rfl⟩⟩
 ·
  rw [impl_ComplementOf.f_eq]
  (with_reducible repeat (first | refine go_pos (by first | assumption | omega | rfl | exact B_pos (by omega)) ?_ | refine go_neg (by first | assumption | omega | decide | exact B_not (by omega)) ?_ | refine go_bind (by first | assumption) ?_ | dsimp only))
  rw [up1, impl_ComplementOf.l0_eq]
  ((with_reducible repeat (first | refine go_pos (by first | assumption | omega | rfl | exact B_pos (by omega)) ?_ | refine go_neg (by first | assumption | omega | decide | exact B_not (by omega)) ?_ | refine go_bind (by first | assumption) ?_ | dsimp only)); first | done | (with_reducible rfl) | simp (disch := omega) only [w64] | (show False; done))
 ·
  rw [spec_ComplementOf.f_eq]
  (with_reducible repeat (first | refine go_pos (by first | assumption | omega | rfl | exact B_pos (by omega)) ?_ | refine go_neg (by first | assumption | omega | decide | exact B_not (by omega)) ?_ | refine go_bind (by first | assumption) ?_ | dsimp only))
  rw [up2, spec_ComplementOf.l0_eq, spec_l01N.f_eq, Option.bind_some]
  ((with_reducible repeat (first | refine go_pos (by first | assumption | omega | rfl | exact B_pos (by omega)) ?_ | refine go_neg (by first | assumption | omega | decide | exact B_not (by omega)) ?_ | refine go_bind (by first | assumption) ?_ | dsimp only)); first | done | (with_reducible rfl) | simp (disch := omega) only [w64] | (show False; done))
theorem class_ok {g : List (List Int)} {m : Int} {u l : List Int} (hg : Grp g) (hm : Mdl g m u) (hn : Nums g m l) (hc : Crs g m u l) : ∃ r, impl_ClassOfCrossed.f g m u l = some (r, 0) ∧ BestC m u l r ∧ r.length ≤ 8 := by
 obtain ⟨hl, hr⟩ := small_len hg
 have n8 := hg.n8; have hlu := hm.len; have hnl := hn.1
 have cI := crossed_ok g hl hr m u (le_maxLen (by omega)) l (le_maxLen (by omega)) hg hm hn hc
 obtain ⟨Ps, p1, _, p4, p2, p3⟩ := principalMapsD hg hm
 obtain ⟨r, r1, r2⟩ := classOf_ hg hm hn p2 p3 p4
 refine ⟨r, ?_, r2, ?_⟩
 ·
  rw [impl_ClassOfCrossed.f_eq]
  ((with_reducible repeat (first | refine go_pos (by first | assumption | omega | rfl | exact B_pos (by omega)) ?_ | refine go_neg (by first | assumption | omega | decide | exact B_not (by omega)) ?_ | refine go_bind (by first | assumption) ?_ | dsimp only)); first | done | (with_reducible rfl) | simp (disch := omega) only [w64] | (show False; done))
 ·
  obtain ⟨a, _, e⟩ := r2.1
  rw [e, adm_len]; omega
theorem conj_ok {g : List (List Int)} {m : Int} {u ps : List Int} {c : Int} (hg : Grp g) (hm : Mdl g m u) (ha : AllIn (g.length * m) ps) (h : 0 ≤ c ∧ c < m) (h2 : Comp g m u ps) :
  impl_ConjugateComplement.f g m u ps c = some (ps.map fun p => PP g m u (PP g m u c p) ((0 - c) % m), 0) ∧ spec_ConjugateComplement.f g m u ps c = some (ps.map fun p => PP g m u (PP g m u c p) ((0 - c) % m), 0) := by
 obtain ⟨hl, hr⟩ := small_len hg
 have n8 := hg.n8; have m2 := hm.m2; have m12 := hm.m12; have n1 := hg.n1; have hlu := hm.len
 have hpl0 : ps.length ≤ 8 := by have := h2.1; omega
 have hpl : ps.length ≤ 1048576 := by omega
 obtain ⟨cI, cS⟩ := pairs_ok g hl hr m u (le_maxLen (by omega)) ps (le_maxLen (by omega)) hg hm ha
 have hA := areIn m [c] (le_maxLen (by simp))
 have hw : wrapI (m - 1) = m - 1 := w64 (by omega) (by omega)
 rw [B_pos (allIn1.2 h)] at hA
 have hS := Complement_ hg hm ha
 obtain ⟨b0, b1⟩ := nm_bd hg hm
 have hI := isComplement hg hm ha hpl
 rw [B_pos h2] at hS hI
 have hback : (wrapI (m - c)).tmod m = (0 - c) % m := by
  rw [w64 (by omega) (by omega), tmod_nn (by omega), show m - c = m + (0 - c) by omega, Int.add_emod_left]
 obtain ⟨bk, hbk⟩ : ∃ bk, bk = (0 - c) % m := ⟨_, rfl⟩
 have k0 : 0 ≤ bk := by rw [hbk]; exact Int.emod_nonneg _ (by omega)
 have k1 : bk < m := by rw [hbk]; exact Int.emod_lt_of_pos _ (by omega)
 have hmod := Mod_ (a := 0 - c) (m := m) (by omega) (by omega) (by omega) (by omega)
 rw [← hbk] at hback hmod
 have nm : m ≤ g.length * m := by
  have := Int.mul_le_mul_of_nonneg_right (show (1 : Int) ≤ g.length by omega) (show 0 ≤ m by omega)
  omega
 have one : ∀ p, p ∈ ps → (0 ≤ PP g m u c p ∧ PP g m u c p < g.length * m) ∧ impl_pairProduct.f g m u c p = some (PP g m u c p) ∧ spec_l05Times.f g m u c p = some (PP g m u c p) ∧
   PP g m u (PP g m u c p) bk / m = p / m ∧ impl_pairProduct.f g m u (PP g m u c p) bk = some (PP g m u (PP g m u c p) bk) ∧ spec_l05Times.f g m u (PP g m u c p) bk = some (PP g m u (PP g m u c p) bk) := fun p hp => by
  obtain ⟨p0, p1⟩ := ha.mem hp
  obtain ⟨x0, x1, _, _⟩ := pair_parts (show 0 < m by omega) p0 p1
  obtain ⟨f1, f2, f3, f4⟩ := PP_facts hg hm (p := c) (q := p) (by omega) (by omega) p0 p1
  obtain ⟨_, g2, g3, g4⟩ := PP_facts hg hm (p := PP g m u c p) (q := bk) f1.1 f1.2 (by omega) (by omega)
  refine ⟨f1, f3, f4, ?_, g3, g4⟩
  rw [g2, f2, Int.ediv_eq_zero_of_lt h.1 h.2, Int.ediv_eq_zero_of_lt k0 k1, hg.one _ x0 x1, hg.one' _ x0 x1]
 obtain ⟨V, hV⟩ : ∃ V : Int → Int, ∀ p, V p = PP g m u (PP g m u c p) bk := ⟨_, fun _ => rfl⟩
 have hlen : (ps.map V).length = ps.length := List.length_map ..
 have h12 : ps.length ≤ 12 := by have := h2.1; omega
 have hsort : (ps.map V).Pairwise (· < ·) := by
  rw [List.pairwise_iff_getElem]
  intro i j hi hj hij
  rw [hlen] at hi hj
  rw [List.getElem_map, List.getElem_map]
  have e1 := h2.2.1 i (by omega) (by omega)
  have e2 := h2.2.1 j (by omega) (by omega)
  rw [rd_get hi] at e1
  rw [rd_get hj] at e2
  have q1 := (one ps[i] (List.getElem_mem hi)).2.2.2.1
  have q2 := (one ps[j] (List.getElem_mem hj)).2.2.2.1
  rw [← hV, e1] at q1
  rw [← hV, e2] at q2
  by_cases hc : V ps[i] < V ps[j]
  ·
   exact hc
  ·
   have := Int.ediv_le_ediv (show 0 < m by omega) (show V ps[j] ≤ V ps[i] by omega)
   omega
 rw [← hbk, show (fun p => PP g m u (PP g m u c p) bk) = V from funext fun p => (hV p).symm]
 refine ⟨?_, ?_⟩
 rotate_left
 ·
  have l2 : ∀ x : Int, ([x] : List Int).length = 1 := fun _ => rfl
  have loop := up ps.length (fun i => spec_ConjugateComplement.l0 ps c (i : Int) g m u ((ps.take i).map V)) (fun i hi => by
   obtain ⟨_, _, f4, _, _, g4⟩ := one (rd ps i) (rd_mem (by omega) (by omega))
   have l1 : ((ps.take i).map V).length = i := by rw [List.length_map, List.length_take]; omega
   rw [take_rd hi, List.map_append, List.map_singleton, hV, spec_ConjugateComplement.l0_eq, f4, Option.bind_some, w64 (x := 0 - c) (by omega) (by omega), hmod, Option.bind_some, g4, Option.bind_some, l1, l2, wn (j := i) (by omega)]
   clear f4 g4
   ((with_reducible repeat (first | refine go_pos (by first | assumption | omega | rfl | exact B_pos (by omega)) ?_ | refine go_neg (by first | assumption | omega | decide | exact B_not (by omega)) ?_ | refine go_bind (by first | assumption) ?_ | dsimp only)); first | done | (with_reducible rfl) | simp (disch := omega) only [w64] | (show False; done)))
  simp only [Int.natCast_zero, List.take_zero, List.map_nil, List.take_length] at loop
  rw [spec_ConjugateComplement.f_eq, hw]
  (with_reducible repeat (first | refine go_pos (by first | assumption | omega | rfl | exact B_pos (by omega)) ?_ | refine go_neg (by first | assumption | omega | decide | exact B_not (by omega)) ?_ | refine go_bind (by first | assumption | exact In_ _ _ _) ?_ | dsimp only))
  rw [loop, spec_ConjugateComplement.l0_eq]
  ((with_reducible repeat (first | refine go_pos (by first | assumption | omega | rfl | exact B_pos (by omega)) ?_ | refine go_neg (by first | assumption | omega | decide | exact B_not (by omega)) ?_ | refine go_bind (by first | assumption) ?_ | dsimp only)); first | done | (with_reducible rfl) | simp (disch := omega) only [w64] | (show False; done))
 ·
  have hmp := mapped (F := fun z0 => (impl_ConjugateComplement_1.f z0 g m u c bk).map fun z => z) (G := V) ps hpl (fun p hp => by
   obtain ⟨_, f3, _, _, g3, _⟩ := one p hp
   have : impl_ConjugateComplement_1.f p g m u c bk = some (V p) := by rw [impl_ConjugateComplement_1.f_eq, hV]; ((with_reducible repeat (first | refine go_pos (by first | assumption | omega | rfl | exact B_pos (by omega)) ?_ | refine go_neg (by first | assumption | omega | decide | exact B_not (by omega)) ?_ | refine go_bind (by first | assumption) ?_ | dsimp only)); first | done | (with_reducible rfl) | simp (disch := omega) only [w64] | (show False; done))
   show Option.map _ (impl_ConjugateComplement_1.f p g m u c bk) = _
   rw [this]; rfl)
  have hso := sort_sorted (xs := ps.map V) (by omega) hsort
  rw [impl_ConjugateComplement.f_eq, hback]
  ((with_reducible repeat (first | refine go_pos (by first | assumption | omega | rfl | exact B_pos (by omega)) ?_ | refine go_neg (by first | assumption | omega | decide | exact B_not (by omega)) ?_ | refine go_bind (by first | assumption) ?_ | dsimp only)); first | done | (with_reducible rfl) | simp (disch := omega) only [w64] | (show False; done))
theorem same_ConjugateComplement (g : List (List Int)) (m : Int) (u ps : List Int) (c : Int) (hl : g.length ≤ maxLen) (hr : ∀ r ∈ g, r.length ≤ maxLen) (hu : u.length ≤ maxLen) (hpl : ps.length ≤ 1048576) :
  ∃ (R : List Int) (e : Int), impl_ConjugateComplement.f g m u ps c = some (R, e) ∧ spec_ConjugateComplement.f g m u ps c = some (R, e) ∧ R.length ≤ 1048576 := by
 have hp : ps.length ≤ maxLen := le_maxLen (by omega)
 rcases pairs_codes g hl hr m u hu ps hp with ⟨hg, hm, ha, cI, cS⟩ | ⟨e, e0, cI, cS⟩
 rotate_left
 ·
  exact ⟨[], e, by rw [impl_ConjugateComplement.f_eq]; ((with_reducible repeat (first | refine go_pos (by first | assumption | omega | rfl | exact B_pos (by omega)) ?_ | refine go_neg (by first | assumption | omega | decide | exact B_not (by omega)) ?_ | refine go_bind (by first | assumption) ?_ | dsimp only)); first | done | (with_reducible rfl) | simp (disch := omega) only [w64] | (show False; done)), by rw [spec_ConjugateComplement.f_eq]; ((with_reducible repeat (first | refine go_pos (by first | assumption | omega | rfl | exact B_pos (by omega)) ?_ | refine go_neg (by first | assumption | omega | decide | exact B_not (by omega)) ?_ | refine go_bind (by first | assumption) ?_ | dsimp only)); first | done | (with_reducible rfl) | simp (disch := omega) only [w64] | (show False; done)), by simp⟩
 have n8 := hg.n8; have m2 := hm.m2; have m12 := hm.m12; have n1 := hg.n1; have hlu := hm.len
 have hA := areIn m [c] (le_maxLen (by simp))
 have hw : wrapI (m - 1) = m - 1 := w64 (by omega) (by omega)
 by_cases h : 0 ≤ c ∧ c < m
 rotate_left
 ·
  rw [B_neg fun k => h (allIn1.1 k)] at hA
  refine ⟨[], 2, ?_, ?_, by simp⟩
  ·
   rw [impl_ConjugateComplement.f_eq]; ((with_reducible repeat (first | refine go_pos (by first | assumption | omega | rfl | exact B_pos (by omega)) ?_ | refine go_neg (by first | assumption | omega | decide | exact B_not (by omega)) ?_ | refine go_bind (by first | assumption) ?_ | dsimp only)); first | done | (with_reducible rfl) | simp (disch := omega) only [w64] | (show False; done))
  ·
   rw [spec_ConjugateComplement.f_eq, hw]; ((with_reducible repeat (first | refine go_pos (by first | assumption | omega | rfl | exact B_pos (by omega)) ?_ | refine go_neg (by first | assumption | omega | decide | exact B_not (by omega)) ?_ | refine go_bind (by first | assumption | exact In_ _ _ _) ?_ | dsimp only)); first | done | (with_reducible rfl) | simp (disch := omega) only [w64] | (show False; done))
 by_cases h2 : Comp g m u ps
 ·
  obtain ⟨a, b⟩ := conj_ok hg hm ha h h2
  exact ⟨_, 0, a, b, by rw [List.length_map]; exact hpl⟩
 ·
  rw [B_pos (allIn1.2 h)] at hA
  have hS := Complement_ hg hm ha
  have hI := isComplement hg hm ha hpl
  rw [B_neg h2] at hS hI
  refine ⟨[], 5, ?_, ?_, by simp⟩
  ·
   rw [impl_ConjugateComplement.f_eq]
   ((with_reducible repeat (first | refine go_pos (by first | assumption | omega | rfl | exact B_pos (by omega)) ?_ | refine go_neg (by first | assumption | omega | decide | exact B_not (by omega)) ?_ | refine go_bind (by first | assumption) ?_ | dsimp only)); first | done | (with_reducible rfl) | simp (disch := omega) only [w64] | (show False; done))
  ·
   rw [spec_ConjugateComplement.f_eq, hw]; ((with_reducible repeat (first | refine go_pos (by first | assumption | omega | rfl | exact B_pos (by omega)) ?_ | refine go_neg (by first | assumption | omega | decide | exact B_not (by omega)) ?_ | refine go_bind (by first | assumption | exact In_ _ _ _) ?_ | dsimp only)); first | done | (with_reducible rfl) | simp (disch := omega) only [w64] | (show False; done))
theorem conj_facts {g : List (List Int)} {m : Int} {u ps : List Int} {c : Int} (hg : Grp g) (hm : Mdl g m u) (ha : AllIn (g.length * m) ps) (h : 0 ≤ c ∧ c < m) (h2 : Comp g m u ps) :
  AllIn (g.length * m) (ps.map fun p => PP g m u (PP g m u c p) ((0 - c) % m)) ∧ Comp g m u (ps.map fun p => PP g m u (PP g m u c p) ((0 - c) % m)) ∧ Nums g m (ps.map (· % m)) ∧
  (ps.map fun p => PP g m u (PP g m u c p) ((0 - c) % m)).map (· % m) = adm m (ps.map (· % m)) (prm m u ((0 - c) % m)) := by
 have n8 := hg.n8; have m2 := hm.m2; have m12 := hm.m12; have n1 := hg.n1; have hlu := hm.len
 obtain ⟨bk, hbk⟩ : ∃ bk, bk = (0 - c) % m := ⟨_, rfl⟩
 have k0 : 0 ≤ bk := by rw [hbk]; exact Int.emod_nonneg _ (by omega)
 have k1 : bk < m := by rw [hbk]; exact Int.emod_lt_of_pos _ (by omega)
 obtain ⟨kk, hkk⟩ := dvd_mod m (0 - c)
 rw [← hbk] at hkk
 rw [← hbk]
 have nm : m ≤ g.length * m := by
  have := Int.mul_le_mul_of_nonneg_right (show (1 : Int) ≤ g.length by omega) (show 0 ≤ m by omega)
  omega
 obtain ⟨V, hV⟩ : ∃ V : Int → Int, V = fun p => PP g m u (PP g m u c p) bk := ⟨_, rfl⟩
 rw [← hV]
 have one : ∀ p, p ∈ ps → Pr g m (V p) ∧ V p / m = p / m ∧ V p % m = (p % m + (rd u (p / m) * bk - bk) % m) % m := fun p hp => by
  have hp' : Pr g m p := ha.mem hp
  have hc' : Pr g m c := ⟨by omega, by omega⟩
  have hb' : Pr g m bk := ⟨by omega, by omega⟩
  obtain ⟨⟨x0, x1⟩, r0, r1⟩ := hp'.parts (show 0 < m by omega)
  obtain ⟨a1, a2, a3⟩ := PP_parts hg hm hc' hp'
  obtain ⟨b1, b2, b3⟩ := PP_parts hg hm a1 hb'
  rw [Int.ediv_eq_zero_of_lt h.1 h.2, hg.one _ x0 x1] at a2
  rw [Int.ediv_eq_zero_of_lt h.1 h.2, hm.one hg, Int.emod_eq_of_lt h.1 h.2, Int.one_mul] at a3
  rw [a2, Int.ediv_eq_zero_of_lt k0 k1, hg.one' _ x0 x1] at b2
  rw [a2, a3, Int.emod_eq_of_lt k0 k1] at b3
  have hVp : V p = PP g m u (PP g m u c p) bk := by rw [hV]
  rw [← hVp] at b1 b2 b3
  refine ⟨b1, b2, ?_⟩
  rw [b3]
  obtain ⟨k2, h2⟩ := dvd_mod m (c + p % m)
  obtain ⟨k3, h3⟩ := dvd_mod m (rd u (p / m) * bk - bk)
  refine emod_same ⟨-k2 + k3 - kk, ?_⟩
  rw [Int.mul_sub, Int.mul_add, Int.mul_neg]
  omega
 have hlen : (ps.map V).length = ps.length := List.length_map ..
 have hpl := h2.1
 have hat : ∀ i : Nat, i < ps.length → rd (ps.map V) (i : Int) = V (rd ps (i : Int)) ∧ rd ps (i : Int) ∈ ps := fun i hi => by
  rw [rd_get (by rw [hlen]; exact hi), List.getElem_map, rd_get hi]
  exact ⟨rfl, List.getElem_mem hi⟩
 have hnu : Nums g m (ps.map (· % m)) := nums_map (by omega) hpl
 have heq : (ps.map V).map (· % m) = adm m (ps.map (· % m)) (prm m u bk) := by
  refine ext_rd (by rw [List.length_map, hlen, adm_len, List.length_map]) fun i i0 i1 => ?_
  rw [List.length_map, hlen] at i1
  obtain ⟨k, rfl⟩ := Int.eq_ofNat_of_zero_le i0
  have hk : k < ps.length := by omega
  obtain ⟨e1, e2⟩ := hat k hk
  have e3 := (one _ e2).2.2
  have e4 := h2.2.1 (k : Int) i0 i1
  rw [e4] at e3
  rw [adm_rd (by rw [List.length_map]; exact hk), prm_rd (by omega), rd_get (by rw [List.length_map, hlen]; exact hk), List.getElem_map, ← rd_get, e1, e3, rd_get (xs := ps.map (· % m)) (by rw [List.length_map]; exact hk), List.getElem_map, ← rd_get]
 refine ⟨allIn_of fun x hx => ?_, ⟨by rw [hlen]; exact hpl, fun i i0 i1 => ?_, ?_⟩, hnu, heq⟩
 ·
  obtain ⟨p, hp, rfl⟩ := List.mem_map.1 hx
  exact (one p hp).1
 ·
  rw [hlen] at i1
  obtain ⟨k, rfl⟩ := Int.eq_ofNat_of_zero_le i0
  obtain ⟨e1, e2⟩ := hat k (by omega)
  rw [e1, (one _ e2).2.1]
  exact h2.2.1 _ i0 i1
 ·
  rw [heq]
  exact (Crs.adm hg hm hnu h2.2.2 bk).1
end Go.Proofs.YthmcpmnhdbeahaaGreat.V
namespace Go.Proofs.YthmcpmnhdbeahaaGreat.Pure
open Go.RowKit Go.Proofs.YthmcpmnhdbeahaaGreat.D Go.Proofs.YthmcpmnhdbeahaaGreat.P Go.Proofs.YthmcpmnhdbeahaaGreat.V
theorem likeInts_ (xs : List Int) (hl : xs.length ≤ 1048576) : laws_likeInts.f xs xs = some true := by
 have main := up xs.length (fun k => laws_likeInts.l0 xs xs (k : Int)) (fun k hk => by
  rw [laws_likeInts.l0_eq, if_pos (by omega), if_pos (by omega), if_pos (by omega), if_pos (by omega), if_pos (by omega), if_pos rfl, wn (j := k) (by omega)])
 simp only [Int.natCast_zero] at main
 rw [laws_likeInts.f_eq, if_pos rfl, main, laws_likeInts.l0_eq, if_neg (by omega)]
theorem pairs_j2 {c : List Int} (h : CodeL c) : laws_FnPairs.j2 c = some true := by
 obtain ⟨g1, m1, u1, l1, e1, s1, su1, sl1⟩ := DrawIsComplement_ h
 obtain ⟨g2, m2, u2, l2, x2, e2, s2, su2, sl2⟩ := DrawConjugateComplement_ h
 obtain ⟨g3, m3, u3, p3, e3, s3, su3⟩ := DrawPairInverse_ h
 obtain ⟨b, eb, i1, i2⟩ := same_IsComplement g1 m1 u1 l1 s1.max.1 s1.max.2 (le_maxLen (by omega)) (by omega)
 obtain ⟨R, ec, k1, k2, k3⟩ := same_ConjugateComplement g2 m2 u2 l2 x2 s2.max.1 s2.max.2 (le_maxLen (by omega)) (by omega)
 obtain ⟨v, ev, n1, n2⟩ := same_PairInverse g3 m3 u3 p3 s3.max.1 s3.max.2 (le_maxLen (by omega))
 obtain ⟨o, eo, o1, o2⟩ := same_PairOrder g3 m3 u3 p3 s3.max.1 s3.max.2 (le_maxLen (by omega))
 have like := likeInts_ R k3
 rw [laws_FnPairs.j2_eq, e1]
 dsimp only [Option.bind_some]
 rw [i1]
 dsimp only [Option.bind_some]
 rw [i2]
 dsimp only [Option.bind_some]
 rw [e2]
 dsimp only [Option.bind_some]
 rw [k1]
 dsimp only [Option.bind_some]
 rw [k2]
 dsimp only [Option.bind_some]
 rw [e3]
 dsimp only [Option.bind_some]
 rw [n1]
 dsimp only [Option.bind_some]
 rw [n2]
 dsimp only [Option.bind_some]
 rw [o1]
 dsimp only [Option.bind_some]
 rw [o2]
 dsimp only [Option.bind_some]
 rw [if_pos rfl, if_pos rfl, if_pos rfl, like]
 dsimp only [Option.bind_some]
 rw [if_pos rfl, if_pos rfl, if_pos rfl, if_pos rfl]
 simp
theorem pairs_l1 {c : List Int} (h : CodeL c) {g : List (List Int)} {m : Int} {u l R : List Int} (hg : Grp g) (hm : Mdl g m u) (hn : Nums g m l) (hc : Crs g m u l) (hR : AllIn (g.length * m) R) (hRl : R.length ≤ 8) {a : Int} (a0 : 0 ≤ a) (hown : R.map (· % m) = adm m l (prm m u a)) : laws_FnPairs.l1 c 0 true 0 0 g m u l R [] = some true := by
 have m2 := hm.m2
 have l1 : ∀ x : Int, ([x] : List Int).length = 1 := fun _ => rfl
 have main := up R.length (fun k => laws_FnPairs.l1 c 0 true 0 (k : Int) g m u l R ((R.map (· % m)).take k)) (fun k hk => by
  have hk' : k < (R.map (· % m)).length := by rw [List.length_map]; exact hk
  have e1 : ((R.map (· % m)).take k).length = k := by rw [List.length_take, List.length_map]; omega
  have e2 : rd (R.map (· % m)) (k : Int) = rd R (k : Int) % m := by rw [V.rd_get hk', List.getElem_map, ← V.rd_get]
  obtain ⟨b0, _⟩ := hR (k : Int) (by omega) (by omega)
  rw [take_rd hk', e2, laws_FnPairs.l1_eq, if_pos (by omega), if_pos (by omega), if_pos (by omega), if_pos (by omega), if_pos (by omega), if_neg (by omega), tmod_nn b0, e1, l1, if_pos (by omega), wn (j := k) (by omega)])
 have hT : (R.map (· % m)).take R.length = R.map (· % m) := List.take_of_length_le (by rw [List.length_map]; omega)
 simp only [Int.natCast_zero, List.take_zero, hT] at main
 obtain ⟨hc', hn'⟩ := Crs.adm hg hm hn hc a
 obtain ⟨r, r1, r2, r3⟩ := class_ok hg hm hn hc
 obtain ⟨s, s1, s2, s3⟩ := class_ok hg hm hn' hc'
 obtain rfl : s = r := (((best_shift hm hn a0 s).1 s2)).uniq r2
 rw [main, hown, laws_FnPairs.l1_eq, if_neg (by omega), r1]
 dsimp only [Option.bind_some]
 rw [s1]
 dsimp only [Option.bind_some]
 rw [if_pos rfl, if_pos rfl, if_pos rfl, if_pos rfl, if_pos rfl, likeInts_ s (by omega)]
 dsimp only [Option.bind_some]
 rw [if_pos rfl, pairs_j2 h]
theorem pairs_j0 {c : List Int} (h : CodeL c) : laws_FnPairs.j0 c = some true := by
 obtain ⟨g, m, u, l, e1, s1, su, sl⟩ := DrawComplementOf_ h
 obtain ⟨R, e, c1, c2, c3, c4⟩ := same_ComplementOf g m u l s1.max.1 s1.max.2 (le_maxLen (by omega)) (le_maxLen (by omega))
 rw [laws_FnPairs.j0_eq, e1]
 dsimp only [Option.bind_some]
 rw [c1]
 dsimp only [Option.bind_some]
 rw [c2]
 dsimp only [Option.bind_some]
 rw [if_pos rfl, likeInts_ R (by omega)]
 dsimp only [Option.bind_some]
 rw [if_pos rfl]
 rcases c4 with ⟨rfl, hg, hm, hn, hc, rfl⟩ | e0
 rotate_left
 ·
  rw [if_neg e0, pairs_j2 h]
 obtain ⟨f1, f2, f3, f4⟩ := cpl_facts hg hm hn hc
 have m2 := hm.m2
 have hone : 0 ≤ (1 : Int) ∧ (1 : Int) < m := ⟨by omega, by omega⟩
 have h1 := isComplement_ok hg hm f1 f4 f2
 obtain ⟨h2, _⟩ := conj_ok hg hm f1 hone f2
 obtain ⟨k1, k2, k3, k4⟩ := conj_facts hg hm f1 hone f2
 rw [f3] at k4
 have h3 := isComplement_ok hg hm k1 (by rw [List.length_map]; exact f4) k2
 rw [if_pos rfl, h1]
 dsimp only [Option.bind_some]
 rw [if_pos rfl, if_pos rfl, h2]
 dsimp only [Option.bind_some]
 rw [h3]
 dsimp only [Option.bind_some]
 exact pairs_l1 h hg hm hn hc k1 (by rw [List.length_map]; exact f4) (Int.emod_nonneg _ (by omega)) k4
theorem FnPairs_pure : ∀ (c : List Int), c.length ≤ maxLen → (∀ x ∈ c, (Lit.int .u8 x).wf = true) → laws_FnPairs.f c = some true := by
 intro c hl hx
 rw [laws_FnPairs.f_eq, laws_big.f_eq]
 dsimp only [Option.bind_some]
 by_cases hb : (c.length : Int) > 4096
 ·
  rw [decide_eq_true hb, if_pos rfl]
 rw [decide_eq_false hb, if_neg (by decide)]
 have h : CodeL c := ⟨fun x hx' => by have := hx x hx'; simp [Lit.wf, IntKind.bits, IntKind.signed, IntKind.min, IntKind.max] at this; omega, by omega⟩
 obtain ⟨g, m, u, p, q, e1, s1, su⟩ := DrawPairProduct_ h
 obtain ⟨v, e, c1, c2, c3⟩ := same_PairProduct g m u p q s1.max.1 s1.max.2 (le_maxLen (by omega))
 rw [e1]
 dsimp only [Option.bind_some]
 rw [c1]
 dsimp only [Option.bind_some]
 rw [c2]
 dsimp only [Option.bind_some]
 rw [if_pos rfl, if_pos rfl]
 rcases c3 with ⟨rfl, hg, hm, hp, hq, rfl⟩ | e0
 rotate_left
 ·
  rw [if_neg e0, pairs_j0 h]
 obtain ⟨x1, _, _⟩ := PP_parts hg hm hp hq
 obtain ⟨x2, _, _⟩ := PP_parts hg hm hq hp
 obtain ⟨w, w1, _, w3, w4⟩ := inverse_ok hg hm hp
 obtain ⟨k, k0, k96, kd, k1, _⟩ := order_ok hg hm hp
 obtain ⟨b0, b1⟩ := nm_bd hg hm
 have hw : (wrapI (m * (g.length : Int))).tmod (k : Int) = 0 := by
  rw [Int.mul_comm, w64 (x := (g.length : Int) * m) (by omega) (by omega), tmod_nn b0]
  exact Int.emod_eq_zero_of_dvd kd
 rw [if_pos rfl, product_ok hg hm x1 hp]
 dsimp only [Option.bind_some]
 rw [product_ok hg hm hq hp]
 dsimp only [Option.bind_some]
 rw [product_ok hg hm hp x2]
 dsimp only [Option.bind_some]
 rw [w1]
 dsimp only [Option.bind_some]
 rw [product_ok hg hm hp w3]
 dsimp only [Option.bind_some]
 rw [k1]
 dsimp only [Option.bind_some]
 rw [if_pos rfl, if_pos rfl, if_pos rfl, if_pos rfl, if_pos rfl, if_pos rfl, if_pos (PP_assoc hg hm hp hq hp), if_pos w4, if_neg (by omega), if_neg (by omega), hw, if_pos rfl, pairs_j0 h]
end Go.Proofs.YthmcpmnhdbeahaaGreat.Pure
namespace Go.Proofs.YthmcpmnhdbeahaaGreat.shut
theorem mayEnter : Tryz.pinned.checked.prog.mayEnter = true := by kernel_rfl
theorem lifted : (Rows.fnPairsRow.lifted == Tryz.pinned.checked.prog.liftsFinal) = true := by kernel_rfl
theorem make : (Tryz.pinned.checked.prog.make == some Rows.fnPairsRow.make) = true := by kernel_rfl
end Go.Proofs.YthmcpmnhdbeahaaGreat.shut
