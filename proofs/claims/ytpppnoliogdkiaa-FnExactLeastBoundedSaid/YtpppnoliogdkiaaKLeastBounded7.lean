/- What the proof of the law LeastBounded stands on, part 7: words, each Go function's Lean function, and that the Go code comes to its answers; no condition. (Packed by wip/myprint/pack.py out of what the kit's printer wrote, its words among it, partly by our patches of it, and out of texts of this session.) -/
import Derived.Test.YtpppnoliogdkiaaRows
import Derived.WalkKit
import Derived.ProofKit
import Derived.KernelRfl
import Derived.Test.YtpppnoliogdkiaaKLeastBounded4
import Derived.Test.YtpppnoliogdkiaaKLeastBounded5
import Derived.Test.YtpppnoliogdkiaaKLeastBounded6
set_option linter.unusedVariables false
set_option linter.unusedSimpArgs false
set_option maxHeartbeats 4000000
set_option maxRecDepth 20000
namespace Go.Proofs.Ytpppnoliogdkiaa.V
open Go.RowKit Go.Proofs.Ytpppnoliogdkiaa.D Go.Proofs.Ytpppnoliogdkiaa.P
theorem ins_row {m : Int} (m2 : 2 ≤ m) (m12 : m ≤ 12) {W : Nat} (hW : W ≤ 100000) {M : Vc → Prop} : ∀ (n j : Nat) (v : List Int) (p st : List (List Int)), j + n = W → Zb j v → Pst m W p (st ++ [v]) M → (st.length : Int) + dsum m p W ≤ 1000000000 →
    ∃ p' ws, spec_l04Insert.l1 m v j p st = spec_l04Insert.l0 m p' (st ++ ws) ∧ Pst m W p' (st ++ ws) M ∧ (p' = p ∧ ws = [] ∨ dsum m p' W < dsum m p W) ∧ (ws.length : Int) + dsum m p' W ≤ dsum m p W := by
  intro n
  induction n with
  | zero =>
    intro j v p st hj hz h hst
    obtain ⟨hvl, hva⟩ := h.inv.sts v (List.mem_append_right _ (List.mem_singleton.2 rfl))
    refine ⟨p, [], ?_, ?_, .inl ⟨rfl, rfl⟩, by simp⟩
    · rw [spec_l04Insert.l1_eq, List.append_nil]
      ((with_reducible repeat (first | refine go_pos (by first | assumption | omega | rfl | exact B_pos (by omega)) ?_ | refine go_neg (by first | assumption | omega | decide | exact B_not (by omega)) ?_ | refine go_bind (by first | assumption) ?_ | dsimp only)); first | done | (with_reducible rfl) | simp (disch := omega) only [w64] | (show False; done))
    · rw [List.append_nil]
      obtain rfl : j = W := by omega
      exact h.drop hz
  | succ n ih =>
    intro j v p st hj hz h hst
    obtain ⟨hvl, hva⟩ := h.inv.sts v (List.mem_append_right _ (List.mem_singleton.2 rfl))
    have hpl := h.inv.tab.len
    have hjW : j < W := by omega
    obtain ⟨v0, v1⟩ := hva j (by omega) (by omega)
    obtain ⟨s0, s1⟩ := dsum_bd (show 0 < m by omega) h.inv.tab W (Nat.le_refl _)
    by_cases hne : rd v (j : Int) = 0
    · obtain ⟨p', ws, k1, k2, k3, k4⟩ := ih (j + 1) v p st (by omega) (fun i hi => by
        by_cases e : i = j
        · rw [e]; exact hne
        · exact hz i (by omega)) h hst
      refine ⟨p', ws, ?_, k2, k3, k4⟩
      rw [← k1, spec_l04Insert.l1_eq, wn (j := j) (by omega)]
      ((with_reducible repeat (first | refine go_pos (by first | assumption | omega | rfl | exact B_pos (by omega)) ?_ | refine go_neg (by first | assumption | omega | decide | exact B_not (by omega)) ?_ | refine go_bind (by first | assumption) ?_ | dsimp only)); first | done | (with_reducible rfl) | simp (disch := omega) only [w64] | (show False; done))
    have l1 : ∀ a : List Int, ([a] : List (List Int)).length = 1 := fun _ => rfl
    by_cases hr : row p (j : Int) = []
    ·
      have e' : ((row p (j : Int)).length : Int) = 0 := by rw [hr]; rfl
      obtain ⟨u, hu, hug, hud, hU⟩ := Unit_ m2 m12 hva (by omega) (by omega) hne
      obtain ⟨ui, hui⟩ := unit_inv m2 m12 (by omega) hu.2 hug
      have dm : ((Int.gcd (rd v (j : Int)) m : Nat) : Int) ∣ m := Int.gcd_dvd_right ..
      have dV : ((Int.gcd (rd v (j : Int)) m : Nat) : Int) ∣ rd v (j : Int) := Int.gcd_dvd_left ..
      have d0 : 0 < ((Int.gcd (rd v (j : Int)) m : Nat) : Int) := by
        have : 0 < Int.gcd (rd v (j : Int)) m := Int.gcd_pos_of_ne_zero_left _ hne
        omega
      generalize ((Int.gcd (rd v (j : Int)) m : Nat) : Int) = d at hud dm dV d0
      have dv1 : d ≤ rd v (j : Int) := Int.le_of_dvd (by omega) dV
      obtain ⟨md, hmd⟩ := dm
      obtain ⟨md0, md1⟩ := quot_bd d0 hmd (by omega) m12
      have hmde : m / d = md := by rw [hmd]; exact Int.mul_ediv_cancel_left _ (by omega)
      obtain ⟨nx, hnx⟩ : ∃ nx, nx = mix m u v 0 v := ⟨_, rfl⟩
      have nl : nx.length = W := by rw [hnx, mix_length, hvl]
      have na : AllIn m nx := by rw [hnx]; exact mix_in (by omega)
      have nz : Zb j nx := fun k hk => by
        rw [hnx, mix_rd (by omega), hz k hk]; simp
      have nd : rd nx (j : Int) = d := by
        rw [hnx, mix_rd (by omega)]
        have : (u * rd v (j : Int) + 0 * rd v (j : Int)) % m = d % m := by
          obtain ⟨q, hq⟩ := hud
          rw [show u * rd v (j : Int) + 0 * rd v (j : Int) = d + m * q by omega, Int.add_mul_emod_self_left]
        rw [this, Int.emod_eq_of_lt (by omega) (by omega)]
      have nP : PRow m W j nx := ⟨nl, na, nz, by omega, by omega, by rw [nd]; exact ⟨md, hmd⟩⟩
      rw [← hnx] at hU
      have hsame : row (p.set j nx) (j : Int) = nx := row_set_same (by omega)
      have hT : T (p.set j nx) (j : Int) (j : Int) = d := by show rd (row (p.set j nx) (j : Int)) (j : Int) = d; rw [hsame]; exact nd
      have hset : (p.set j nx).length = W := by rw [List.length_set]; exact hpl
      have f3 : wrapI (Int.tdiv m d) = md := by rw [hmd, Int.mul_tdiv_cancel_left _ (by omega)]; exact w64 (by omega) (by omega)
      have c4 := Mix_ m2 m12 (x := md) (y := 0) na hva (by omega) (by omega) (by omega) (by omega) (by omega) (by omega)
      have g0 : ∀ k : Nat, k < W → m ∣ u * rd v (k : Int) + 0 * rd v (k : Int) - rd nx (k : Int) := fun k hk => by rw [hnx]; exact mix_dvd (by omega)
      have g2 : ∀ k : Nat, k < W → m ∣ md * rd nx (k : Int) + 0 * rd v (k : Int) - rd (mix m md nx 0 v) (k : Int) := fun k hk => mix_dvd (by omega)
      have wz : Zb (j + 1) (mix m md nx 0 v) := fun k hk => by
        rw [mix_rd (by omega)]
        by_cases e : k = j
        · subst e
          rw [nd, show md * d + 0 * rd v (k : Int) = m by rw [hmd, Int.mul_comm md d]; omega]
          exact Int.emod_self
        · rw [nz k (by omega)]; simp
      have hdm : dsum m (p.set j nx) W + 1 ≤ dsum m p W := by
        rw [dsum_set hpl hjW, if_pos hjW, dv_set_same hpl hjW nP.ne, nd]
        unfold dv
        rw [if_pos hr]; omega
      refine ⟨p.set j nx, [mix m md nx 0 v], ?_, ?_, .inr (by omega), by rw [l1]; omega⟩
      · rw [spec_l04Insert.l1_eq, Int.toNat_natCast]
        (with_reducible repeat (first | refine go_pos (by first | assumption | omega | rfl | exact B_pos (by omega)) ?_ | refine go_neg (by first | assumption | omega | decide | exact B_not (by omega)) ?_ | refine go_bind (by first | assumption) ?_ | dsimp only))
        rw [hT]
        (with_reducible repeat (first | refine go_pos (by first | assumption | omega | rfl | exact B_pos (by omega)) ?_ | refine go_neg (by first | assumption | omega | decide | exact B_not (by omega)) ?_ | refine go_bind (by first | assumption) ?_ | dsimp only))
        rw [hsame, f3]
        (with_reducible repeat (first | refine go_pos (by first | assumption | omega | rfl | exact B_pos (by omega)) ?_ | refine go_neg (by first | assumption | omega | decide | exact B_not (by omega)) ?_ | refine go_bind (by first | assumption) ?_ | dsimp only))
        rw [l1]
        ((with_reducible repeat (first | refine go_pos (by first | assumption | omega | rfl | exact B_pos (by omega)) ?_ | refine go_neg (by first | assumption | omega | decide | exact B_not (by omega)) ?_ | refine go_bind (by first | assumption) ?_ | dsimp only)); first | done | (with_reducible rfl) | simp (disch := omega) only [w64] | (show False; done))
      · refine h.swap hjW hne nP (fun w hw => ?_) (fun q => absurd hr q) ?_ ?_ ?_
        · rw [List.mem_singleton] at hw
          subst hw
          exact ⟨⟨by rw [mix_length]; exact nl, mix_in (by omega)⟩, wz⟩
        · refine Sp.two (a := ui) (b := 0) (x := V nx) (y := V nx) (.gen (.inl rfl)) (.gen (.inl rfl)) fun k hk => ?_
          obtain ⟨q, hq⟩ := g0 k hk
          obtain ⟨t, ht⟩ := hui
          refine ⟨t * rd v (k : Int) - ui * q, ?_⟩
          show ui * rd nx (k : Int) + 0 * rd nx (k : Int) - rd v (k : Int) = _
          have e1 : rd nx (k : Int) = u * rd v (k : Int) - m * q := by omega
          have e2 : ui * (u * rd v (k : Int)) = m * (t * rd v (k : Int)) + rd v (k : Int) := by
            rw [← Int.mul_assoc, Int.mul_comm ui u, show u * ui = m * t + 1 by omega, Int.add_mul, Int.mul_assoc]; omega
          have e3 : ui * (m * q) = m * (ui * q) := by rw [← Int.mul_assoc, Int.mul_comm ui m, Int.mul_assoc]
          rw [e1, Int.zero_mul, Int.mul_sub, Int.mul_sub, e2, e3]
          omega
        · refine .alike (.gen ⟨_, List.mem_singleton.2 rfl, rfl⟩) fun k hk => ?_
          obtain ⟨q, hq⟩ := g2 k hk
          refine ⟨-q, ?_⟩
          rw [nd, hmde, Int.mul_neg, ← hq]
          show rd (mix m md nx 0 v) (k : Int) - md * rd nx (k : Int) = _
          omega
        · have hn2 : Sp m W (fun g => g = V v ∨ (row p (j : Int) ≠ [] ∧ g = V (row p (j : Int)))) (V nx) := Sp.two (a := u) (b := 0) (x := V v) (y := V v) (.gen (.inl rfl)) (.gen (.inl rfl)) fun k hk => g0 k hk
          intro g hg
          rcases hg with rfl | ⟨w, hw, rfl⟩
          · exact hn2
          rw [List.mem_singleton] at hw
          subst hw
          exact Sp.two (a := md) (b := 0) (x := V nx) (y := V v) hn2 (.gen (.inl rfl)) fun k hk => g2 k hk
    have e' : ¬ ((row p (j : Int)).length : Int) = 0 := by have := List.length_pos_iff.2 hr; omega
    have hP := h.inv.tab.prow hjW hr
    have pl := hP.len
    have p0 := hP.pos
    have p1 := hP.lt
    have hT : T p (j : Int) (j : Int) = rd (row p (j : Int)) (j : Int) := rfl
    have hpne : ¬ rd (row p (j : Int)) (j : Int) = 0 := by omega
    by_cases hd : Int.tmod (rd v (j : Int)) (rd (row p (j : Int)) (j : Int)) = 0
    · obtain ⟨e, he⟩ := tmod_zero.1 hd
      obtain ⟨ee0, ee1⟩ := quot_bd p0 he v0 (by omega)
      have c1 := Mix_ m2 m12 (x := 1) (y := -e) hva hP.ent (by omega) (by omega) (by omega) (by omega) (by omega) (by omega)
      have f1 : wrapI (0 - wrapI ((rd v (j : Int)).tdiv (rd (row p (j : Int)) (j : Int)))) = -e := by
        rw [he, Int.mul_tdiv_cancel_left _ (by omega), w64 (x := e) (by omega) (by omega), w64 (by omega) (by omega)]; omega
      have wl : (mix m 1 v (-e) (row p (j : Int))).length = W := by rw [mix_length]; exact hvl
      have wz : Zb (j + 1) (mix m 1 v (-e) (row p (j : Int))) := fun k hk => by
        rw [mix_rd (by omega)]
        by_cases q : k = j
        · subst q
          rw [he, show 1 * (rd (row p (k : Int)) (k : Int) * e) + -e * rd (row p (k : Int)) (k : Int) = 0 by rw [Int.neg_mul, Int.mul_comm e]; omega]
          exact Int.zero_emod m
        · rw [hz k (by omega), hP.zero k (by omega)]; simp
      have h' := h.less (c := e) hjW hr hne ⟨wl, mix_in (by omega)⟩ (fun k hk => wz k (by omega)) fun k hk => mix_dvd (by omega)
      obtain ⟨p', ws, k1, k2, k3, k4⟩ := ih (j + 1) _ p st (by omega) wz h' hst
      refine ⟨p', ws, ?_, k2, k3, k4⟩
      rw [← k1, spec_l04Insert.l1_eq, wn (j := j) (by omega), hT, f1]
      ((with_reducible repeat (first | refine go_pos (by first | assumption | omega | rfl | exact B_pos (by omega)) ?_ | refine go_neg (by first | assumption | omega | decide | exact B_not (by omega)) ?_ | refine go_bind (by first | assumption) ?_ | dsimp only)); first | done | (with_reducible rfl) | simp (disch := omega) only [w64] | (show False; done))
    obtain ⟨o, ho⟩ : ∃ o, o = row p (j : Int) := ⟨_, rfl⟩
    obtain ⟨s, t, hbz, hst', hs, ht⟩ := Bezout_ (a := rd o (j : Int)) (b := rd v (j : Int)) (by rw [ho]; omega) (by rw [ho]; omega) v0 (by omega)
    have dO : ((Int.gcd (rd o (j : Int)) (rd v (j : Int)) : Nat) : Int) ∣ rd o (j : Int) := Int.gcd_dvd_left ..
    have dV : ((Int.gcd (rd o (j : Int)) (rd v (j : Int)) : Nat) : Int) ∣ rd v (j : Int) := Int.gcd_dvd_right ..
    have d0 : 0 < ((Int.gcd (rd o (j : Int)) (rd v (j : Int)) : Nat) : Int) := by
      have : 0 < Int.gcd (rd o (j : Int)) (rd v (j : Int)) := Int.gcd_pos_of_ne_zero_right _ hne
      omega
    generalize ((Int.gcd (rd o (j : Int)) (rd v (j : Int)) : Nat) : Int) = d at hbz hst' dO dV d0
    rw [← ho] at hP pl p0 p1 hT hpne hd
    have dv1 : d ≤ rd v (j : Int) := Int.le_of_dvd (by omega) dV
    have dm : d ∣ m := Int.dvd_trans dO hP.dvd
    obtain ⟨eo, heo⟩ := dO
    obtain ⟨ev, hev⟩ := dV
    obtain ⟨eo0, eo1⟩ := quot_bd d0 heo (by omega) (by omega)
    obtain ⟨ev0, ev1⟩ := quot_bd d0 hev v0 (by omega)
    obtain ⟨md, hmd⟩ := dm
    obtain ⟨md0, md1⟩ := quot_bd d0 hmd (by omega) m12
    have hmde : m / d = md := by rw [hmd]; exact Int.mul_ediv_cancel_left _ (by omega)
    have hunit : s * eo + t * ev = 1 := by
      have h1 : d * (s * eo + t * ev) = d * 1 := by
        rw [Int.mul_add, Int.mul_one, ← Int.mul_assoc, ← Int.mul_assoc, Int.mul_comm d s, Int.mul_comm d t, Int.mul_assoc, Int.mul_assoc, ← heo, ← hev]; exact hst'
      exact Int.eq_of_mul_eq_mul_left (by omega) h1
    obtain ⟨nx, hnx⟩ : ∃ nx, nx = mix m s o t v := ⟨_, rfl⟩
    obtain ⟨ny, hny⟩ : ∃ ny, ny = mix m ev o (-eo) v := ⟨_, rfl⟩
    have oz : Zb j o := hP.zero
    have c1 := Mix_ m2 m12 (x := ev) (y := -eo) hP.ent hva (by omega) (by omega) (by omega) (by omega) (by omega) (by omega)
    have c2 := Mix_ m2 m12 (x := s) (y := t) hP.ent hva (by omega) (by omega) hs.1 hs.2 ht.1 ht.2
    rw [← hny] at c1
    rw [← hnx] at c2
    have nl : nx.length = W := by rw [hnx, mix_length, pl]
    have yl : ny.length = W := by rw [hny, mix_length, pl]
    have na : AllIn m nx := by rw [hnx]; exact mix_in (by omega)
    have ya : AllIn m ny := by rw [hny]; exact mix_in (by omega)
    have nz : Zb j nx := fun k hk => by
      rw [hnx, mix_rd (by omega), oz k hk, hz k hk]; simp
    have nd : rd nx (j : Int) = d := by
      rw [hnx, mix_rd (by omega), hst', Int.emod_eq_of_lt (by omega) (by omega)]
    have yz : Zb (j + 1) ny := fun k hk => by
      rw [hny, mix_rd (by omega)]
      by_cases q : k = j
      · subst q
        rw [heo, hev, show ev * (d * eo) + -eo * (d * ev) = 0 by rw [Int.neg_mul, ← Int.mul_assoc, ← Int.mul_assoc, Int.mul_comm ev d, Int.mul_comm eo d, Int.mul_assoc, Int.mul_assoc, Int.mul_comm ev eo]; omega]
        exact Int.zero_emod m
      · rw [hz k (by omega), oz k (by omega)]; simp
    have nP : PRow m W j nx := ⟨nl, na, nz, by omega, by omega, by rw [nd]; exact ⟨md, hmd⟩⟩
    have hsame : row (p.set j nx) (j : Int) = nx := row_set_same (by omega)
    have hset : (p.set j nx).length = W := by rw [List.length_set]; exact hpl
    have c4 := Mix_ m2 m12 (x := md) (y := 0) na hva (by omega) (by omega) (by omega) (by omega) (by omega) (by omega)
    have f1 : wrapI ((rd v (j : Int)).tdiv d) = ev := by rw [hev, Int.mul_tdiv_cancel_left _ (by omega)]; exact w64 (by omega) (by omega)
    have f2 : wrapI (0 - wrapI ((rd o (j : Int)).tdiv d)) = -eo := by rw [heo, Int.mul_tdiv_cancel_left _ (by omega), w64 (x := eo) (by omega) (by omega), w64 (by omega) (by omega)]; omega
    have f3 : wrapI (Int.tdiv m d) = md := by rw [hmd, Int.mul_tdiv_cancel_left _ (by omega)]; exact w64 (by omega) (by omega)
    obtain ⟨nw, hnw⟩ : ∃ nw, nw = mix m md nx 0 v := ⟨_, rfl⟩
    have wl : nw.length = W := by rw [hnw, mix_length, nl]
    have wa : AllIn m nw := by rw [hnw]; exact mix_in (by omega)
    have wz : Zb (j + 1) nw := fun k hk => by
      rw [hnw, mix_rd (by omega)]
      by_cases e : k = j
      · subst e
        rw [nd, show md * d + 0 * rd v (k : Int) = m by rw [hmd, Int.mul_comm md d]; omega]
        exact Int.emod_self
      · rw [nz k (by omega)]; simp
    rw [← hnw] at c4
    have g0 : ∀ k : Nat, k < W → m ∣ s * rd o (k : Int) + t * rd v (k : Int) - rd nx (k : Int) := fun k hk => by rw [hnx]; exact mix_dvd (by omega)
    have g1 : ∀ k : Nat, k < W → m ∣ ev * rd o (k : Int) + (-eo) * rd v (k : Int) - rd ny (k : Int) := fun k hk => by rw [hny]; exact mix_dvd (by omega)
    have g2 : ∀ k : Nat, k < W → m ∣ md * rd nx (k : Int) + 0 * rd v (k : Int) - rd nw (k : Int) := fun k hk => by rw [hnw]; exact mix_dvd (by omega)
    have hdm : dsum m (p.set j nx) W + 1 ≤ dsum m p W := by
      rw [dsum_set hpl hjW, if_pos hjW, dv_set_same hpl hjW nP.ne, nd]
      unfold dv
      rw [if_neg hr, ← ho]
      have : d ≤ rd o (j : Int) := Int.le_of_dvd p0 ⟨eo, heo⟩
      by_cases q : d = rd o (j : Int)
      · exact absurd (tmod_zero.2 ⟨ev, by rw [← q]; exact hev⟩) hd
      · omega
    have hsw : Pst m W (p.set j nx) (st ++ [nw, ny]) M := by
      refine h.swap hjW hne nP (fun w hw => ?_) (fun q => ?_) ?_ ?_ ?_
      · simp only [List.mem_cons, List.not_mem_nil, or_false] at hw
        rcases hw with rfl | rfl
        · exact ⟨⟨wl, wa⟩, wz⟩
        · exact ⟨⟨yl, ya⟩, yz⟩
      · rw [← ho]
        refine Sp.two (a := eo) (b := t) (x := V nx) (y := V ny) (.gen (.inl rfl)) (.gen (.inr ⟨_, List.mem_cons_of_mem _ (List.mem_cons_self ..), rfl⟩)) fun k hk => ?_
        obtain ⟨q0, h0⟩ := g0 k hk
        obtain ⟨q1, h1⟩ := g1 k hk
        refine ⟨-(eo * q0) - t * q1, ?_⟩
        show eo * rd nx (k : Int) + t * rd ny (k : Int) - rd o (k : Int) = _
        have e0 : rd nx (k : Int) = s * rd o (k : Int) + t * rd v (k : Int) - m * q0 := by omega
        have e1 : rd ny (k : Int) = ev * rd o (k : Int) + (-eo) * rd v (k : Int) - m * q1 := by omega
        rw [e0, e1]
        have e2 : rd o (k : Int) = (s * eo + t * ev) * rd o (k : Int) := by rw [hunit]; omega
        generalize rd o (k : Int) = A at e2 ⊢
        generalize rd v (k : Int) = C
        have e3 : eo * (s * A + t * C - m * q0) + t * (ev * A + -eo * C - m * q1) - A = (s * eo + t * ev) * A - A + m * (-(eo * q0) - t * q1) := by
          simp only [Int.mul_sub, Int.mul_add, Int.add_mul, Int.neg_mul, Int.mul_neg, ← Int.mul_assoc]
          rw [Int.mul_comm eo s, Int.mul_comm eo t, Int.mul_comm eo m, Int.mul_comm t m]
          omega
        rw [e3, ← e2]; omega
      · refine Sp.two (a := ev) (b := -s) (x := V nx) (y := V ny) (.gen (.inl rfl)) (.gen (.inr ⟨_, List.mem_cons_of_mem _ (List.mem_cons_self ..), rfl⟩)) fun k hk => ?_
        obtain ⟨q0, h0⟩ := g0 k hk
        obtain ⟨q1, h1⟩ := g1 k hk
        refine ⟨-(ev * q0) + s * q1, ?_⟩
        show ev * rd nx (k : Int) + -s * rd ny (k : Int) - rd v (k : Int) = _
        have e0 : rd nx (k : Int) = s * rd o (k : Int) + t * rd v (k : Int) - m * q0 := by omega
        have e1 : rd ny (k : Int) = ev * rd o (k : Int) + (-eo) * rd v (k : Int) - m * q1 := by omega
        rw [e0, e1]
        have e2 : rd v (k : Int) = (s * eo + t * ev) * rd v (k : Int) := by rw [hunit]; omega
        generalize rd v (k : Int) = C at e2 ⊢
        generalize rd o (k : Int) = A
        have e3 : ev * (s * A + t * C - m * q0) + -s * (ev * A + -eo * C - m * q1) - C = (s * eo + t * ev) * C - C + m * (-(ev * q0) + s * q1) := by
          simp only [Int.mul_sub, Int.mul_add, Int.add_mul, Int.neg_mul, Int.mul_neg, ← Int.mul_assoc]
          rw [Int.mul_comm ev s, Int.mul_comm ev t, Int.mul_comm ev m, Int.mul_comm s m]
          omega
        rw [e3, ← e2]; omega
      · refine .alike (.gen ⟨_, List.mem_cons_self .., rfl⟩) fun k hk => ?_
        obtain ⟨q, hq⟩ := g2 k hk
        refine ⟨-q, ?_⟩
        rw [nd, hmde, Int.mul_neg, ← hq]
        show rd nw (k : Int) - md * rd nx (k : Int) = _
        omega
      · rw [← ho]
        have hO : Sp m W (fun g => g = V v ∨ (o ≠ [] ∧ g = V o)) (V o) := .gen (.inr ⟨hP.ne, rfl⟩)
        have hn2 : Sp m W (fun g => g = V v ∨ (o ≠ [] ∧ g = V o)) (V nx) := Sp.two (a := s) (b := t) (x := V o) (y := V v) hO (.gen (.inl rfl)) fun k hk => g0 k hk
        intro g hg
        rcases hg with rfl | ⟨w, hw, rfl⟩
        · exact hn2
        simp only [List.mem_cons, List.not_mem_nil, or_false] at hw
        rcases hw with rfl | rfl
        · exact Sp.two (a := md) (b := 0) (x := V nx) (y := V v) hn2 (.gen (.inl rfl)) fun k hk => g2 k hk
        · exact Sp.two (a := ev) (b := -eo) (x := V o) (y := V v) hO (.gen (.inl rfl)) fun k hk => g1 k hk
    rw [show st ++ [nw, ny] = (st ++ [nw]) ++ [ny] by simp] at hsw
    have sl : (st ++ [nw]).length = st.length + 1 := by simp
    obtain ⟨p', ws, k1, k2, k3, k4⟩ := ih (j + 1) ny (p.set j nx) (st ++ [nw]) (by omega) yz hsw (by omega)
    refine ⟨p', nw :: ws, ?_, by rw [show st ++ nw :: ws = (st ++ [nw]) ++ ws by simp]; exact k2, .inr ?_, by rw [List.length_cons]; omega⟩
    · rw [show st ++ nw :: ws = (st ++ [nw]) ++ ws by simp, ← k1, spec_l04Insert.l1_eq, wn (j := j) (by omega), hT, Int.toNat_natCast]
      rw [← ho] at e' ⊢
      (with_reducible repeat (first | refine go_pos (by first | assumption | omega | rfl | exact B_pos (by omega)) ?_ | refine go_neg (by first | assumption | omega | decide | exact B_not (by omega)) ?_ | refine go_bind (by first | assumption) ?_ | dsimp only))
      rw [f1, f2]
      (with_reducible repeat (first | refine go_pos (by first | assumption | omega | rfl | exact B_pos (by omega)) ?_ | refine go_neg (by first | assumption | omega | decide | exact B_not (by omega)) ?_ | refine go_bind (by first | assumption) ?_ | dsimp only))
      rw [hsame, f3]
      (with_reducible repeat (first | refine go_pos (by first | assumption | omega | rfl | exact B_pos (by omega)) ?_ | refine go_neg (by first | assumption | omega | decide | exact B_not (by omega)) ?_ | refine go_bind (by first | assumption) ?_ | dsimp only))
      rw [l1]
      ((with_reducible repeat (first | refine go_pos (by first | assumption | omega | rfl | exact B_pos (by omega)) ?_ | refine go_neg (by first | assumption | omega | decide | exact B_not (by omega)) ?_ | refine go_bind (by first | assumption) ?_ | dsimp only)); first | done | (with_reducible rfl) | simp (disch := omega) only [w64] | (show False; done))
    · omega
theorem Insert_ {m : Int} (m2 : 2 ≤ m) (m12 : m ≤ 12) {W : Nat} (hW : W ≤ 100000) {M : Vc → Prop} {p : List (List Int)} {r : List Int} (h : Pst m W p [r] M) : ∃ p', spec_l04Insert.f p r m = some p' ∧ Pst m W p' [] M := by
  rw [spec_l04Insert.f_eq]
  have key : ∀ (D : Nat) (k : Nat) (p st : List (List Int)), st.length = k → dsum m p W ≤ D → (st.length : Int) + dsum m p W ≤ 100000000 → Pst m W p st M → ∃ p', spec_l04Insert.l0 m p st = some p' ∧ Pst m W p' [] M := by
    intro D
    induction D using Nat.strongRecOn with
    | _ D ihD =>
      intro k
      induction k with
      | zero =>
        intro p st hl _ _ h
        obtain rfl := List.length_eq_zero_iff.1 hl
        refine ⟨p, ?_, h⟩
        rw [spec_l04Insert.l0_eq]
        ((with_reducible repeat (first | refine go_pos (by first | assumption | omega | rfl | exact B_pos (by omega)) ?_ | refine go_neg (by first | assumption | omega | decide | exact B_not (by omega)) ?_ | refine go_bind (by first | assumption) ?_ | dsimp only)); first | done | (with_reducible rfl) | simp (disch := omega) only [w64] | (show False; done))
      | succ k ih =>
        intro p st hl hD hK h
        obtain ⟨st', v, rfl⟩ : ∃ st' v, st = st' ++ [v] := ⟨st.dropLast, st.getLast (fun e => by rw [e] at hl; simp at hl), (List.dropLast_concat_getLast _).symm⟩
        have e0 : (st' ++ [v]).length = st'.length + 1 := by simp
        have e1 : wrapI (((st' ++ [v]).length : Int) - 1) = (st'.length : Int) := by
          obtain ⟨s0, _⟩ := dsum_bd (show 0 < m by omega) h.inv.tab W (Nat.le_refl _)
          rw [w64 (by omega) (by omega)]; omega
        obtain ⟨s0, _⟩ := dsum_bd (show 0 < m by omega) h.inv.tab W (Nat.le_refl _)
        have st1 : spec_l04Insert.l0 m p (st' ++ [v]) = spec_l04Insert.l1 m v 0 p st' := by
          rw [spec_l04Insert.l0_eq, e1, last_row, Int.toNat_natCast, take_init]
          ((with_reducible repeat (first | refine go_pos (by first | assumption | omega | rfl | exact B_pos (by omega)) ?_ | refine go_neg (by first | assumption | omega | decide | exact B_not (by omega)) ?_ | refine go_bind (by first | assumption) ?_ | dsimp only)); first | done | (with_reducible rfl) | simp (disch := omega) only [w64] | (show False; done))
        obtain ⟨p', ws, k1, k2, k3, k4⟩ := ins_row m2 m12 hW W 0 v p st' (by omega) (fun i hi => by omega) h (by omega)
        rw [st1, show (0 : Int) = ((0 : Nat) : Int) from rfl, k1]
        rcases k3 with ⟨rfl, rfl⟩ | k3
        · rw [List.append_nil] at k2 ⊢
          exact ih p' st' (by omega) hD (by omega) k2
        · obtain ⟨s1, _⟩ := dsum_bd (show 0 < m by omega) k2.inv.tab W (Nat.le_refl _)
          have e2 : (st' ++ ws).length = st'.length + ws.length := List.length_append
          exact ihD (dsum m p' W).toNat (by omega) _ p' (st' ++ ws) rfl (by omega) (by omega) k2
  obtain ⟨s0, s1⟩ := dsum_bd (show 0 < m by omega) h.inv.tab W (Nat.le_refl _)
  have hb : m * (W : Int) ≤ 12 * 100000 := Int.mul_le_mul (by omega) (by omega) (by omega) (by omega)
  exact key (dsum m p W).toNat 1 p [r] rfl (by omega) (by show (1 : Int) + _ ≤ _; omega) h
end Go.Proofs.Ytpppnoliogdkiaa.V
set_option linter.unusedVariables false
set_option linter.unusedSimpArgs false
set_option maxHeartbeats 4000000
set_option maxRecDepth 20000
namespace Go.Proofs.Ytpppnoliogdkiaa.V
open Go.RowKit Go.Proofs.Ytpppnoliogdkiaa.D Go.Proofs.Ytpppnoliogdkiaa.P
section
variable {m : Int} {W : Nat} {p : List (List Int)} {M : Vc → Prop} {G G' : Vc → Prop}
theorem Pst.lead (m0 : 0 < m) (h : Pst m W p [] M) : Lead m W p M := by
  have e : ∀ k g, GT W p [] k g → Sp m W (Rws W p k) g := fun k g hg => by
    rcases hg with hg | ⟨s, hs, _⟩
    · exact .gen hg
    · cases hs
  exact lead_of m0 h.inv.tab (fun j hj hr => (h.inv.how j hj hr).mono (e _)) fun x => by
    rw [← h.spn x]
    exact ⟨fun hx => hx.mono fun g hg => .gen (.inl hg), fun hx => hx.mono (e 0)⟩
theorem Pst.add {r : List Int} (h : Pst m W p [] (Sp m W G)) (hr : r.length = W ∧ AllIn m r) (hG : ∀ g, G' g ↔ G g ∨ g = V r) : Pst m W p [r] (Sp m W G') where
  inv := ⟨h.inv.tab, fun s hs => by rw [List.mem_singleton] at hs; subst hs; exact hr, fun j hj hn => (h.inv.how j hj hn).mono fun g hg => by
    rcases hg with hg | ⟨s, hs, _⟩
    · exact .gen (.inl hg)
    · cases hs⟩
  spn := fun x => by
    constructor
    · intro hx
      refine hx.mono fun g hg => ?_
      rcases hg with hg | ⟨s, hs, _, rfl⟩
      · exact ((h.spn g).1 (.gen (.inl hg))).mono fun g hg => .gen ((hG g).2 (.inl hg))
      · rw [List.mem_singleton] at hs
        subst hs
        exact .gen ((hG _).2 (.inr rfl))
    · intro hx
      refine hx.mono fun g hg => ?_
      rcases (hG g).1 hg with hg | rfl
      · refine ((h.spn g).2 (.gen hg)).mono fun g hg => ?_
        rcases hg with hg | ⟨s, hs, _⟩
        · exact .gen (.inl hg)
        · cases hs
      · exact .gen (.inr ⟨r, List.mem_singleton.2 rfl, fun i hi => by omega, rfl⟩)
theorem row_repl (n : Nat) (i : Int) : row (List.replicate n ([] : List Int)) i = [] := by
  simp only [row, List.getD_eq_getElem?_getD, List.getElem?_replicate]
  split <;> rfl
theorem Pst.none (hG : ∀ g, ¬ G g) : Pst m W (List.replicate W []) [] (Sp m W G) where
  inv := ⟨⟨List.length_replicate, fun j _ => .inl (row_repl _ _)⟩, fun s hs => (by cases hs), fun j _ hn => absurd (row_repl _ _) hn⟩
  spn := fun x => by
    constructor
    · intro hx
      refine hx.mono fun g hg => ?_
      rcases hg with ⟨j, _, _, hn, _⟩ | ⟨s, hs, _⟩
      · exact absurd (row_repl _ _) hn
      · cases hs
    · intro hx
      exact hx.mono fun g hg => absurd hg (hG g)
def Gn (f : Nat → List Int) (k : Nat) : Vc → Prop := fun g => ∃ i : Nat, i < k ∧ g = V (f i)
theorem Gn_succ {f : Nat → List Int} {k : Nat} (g : Vc) : Gn f (k + 1) g ↔ Gn f k g ∨ g = V (f k) := by
  constructor
  · rintro ⟨i, hi, rfl⟩
    by_cases e : i = k
    · exact .inr (by rw [e])
    · exact .inl ⟨i, by omega, rfl⟩
  · rintro (⟨i, hi, rfl⟩ | rfl)
    · exact ⟨i, by omega, rfl⟩
    · exact ⟨k, by omega, rfl⟩
theorem Reduced_ (m2 : 2 ≤ m) (m12 : m ≤ 12) (hW : W ≤ 100000) {X : List (List Int)} (hX : X.length ≤ 1000000) (hr : ∀ i : Nat, i < X.length → (row X (i : Int)).length = W ∧ AllIn m (row X (i : Int))) :
    ∃ p, spec_l04Reduced.f X (W : Int) m = some p ∧ Pst m W p [] (Sp m W (Gn (fun i => row X (i : Int)) X.length)) := by
  rw [spec_l04Reduced.f_eq, Int.toNat_natCast]
  have key : ∀ k, k ≤ X.length → ∃ p, spec_l04Reduced.l0 X m 0 (List.replicate W []) = spec_l04Reduced.l0 X m (k : Int) p ∧ Pst m W p [] (Sp m W (Gn (fun i => row X (i : Int)) k)) := by
    intro k
    induction k with
    | zero => exact fun _ => ⟨_, rfl, Pst.none fun g ⟨i, hi, _⟩ => by omega⟩
    | succ k ih =>
      intro hk
      obtain ⟨p, h1, h2⟩ := ih (by omega)
      obtain ⟨p', h3, h4⟩ := Insert_ m2 m12 hW (h2.add (hr k (by omega)) Gn_succ)
      refine ⟨p', ?_, h4⟩
      rw [h1, spec_l04Reduced.l0_eq, wn (j := k) (by omega)]
      ((with_reducible repeat (first | refine go_pos (by first | assumption | omega | rfl | exact B_pos (by omega)) ?_ | refine go_neg (by first | assumption | omega | decide | exact B_not (by omega)) ?_ | refine go_bind (by first | assumption) ?_ | dsimp only)); first | done | (with_reducible rfl) | simp (disch := omega) only [w64] | (show False; done))
  obtain ⟨p, h1, h2⟩ := key X.length (Nat.le_refl _)
  refine ⟨p, ?_, h2⟩
  (with_reducible repeat (first | refine go_pos (by first | assumption | omega | rfl | exact B_pos (by omega)) ?_ | refine go_neg (by first | assumption | omega | decide | exact B_not (by omega)) ?_ | refine go_bind (by first | assumption) ?_ | dsimp only))
  rw [h1, spec_l04Reduced.l0_eq]
  ((with_reducible repeat (first | refine go_pos (by first | assumption | omega | rfl | exact B_pos (by omega)) ?_ | refine go_neg (by first | assumption | omega | decide | exact B_not (by omega)) ?_ | refine go_bind (by first | assumption) ?_ | dsimp only)); first | done | (with_reducible rfl) | simp (disch := omega) only [w64] | (show False; done))
theorem rd_take {r : List Int} {A i : Nat} (h : i < A) : rd (r.take A) (i : Int) = rd r (i : Int) := by
  simp [rd, List.getD_eq_getElem?_getD, List.getElem?_take, h]
theorem rd_drop {r : List Int} {A i : Nat} : rd (r.drop A) (i : Int) = rd r ((A + i : Nat) : Int) := by
  simp only [rd, Int.toNat_natCast, List.getD_eq_getElem?_getD, List.getElem?_drop]
theorem Lead.first {A B : Nat} {q : List (List Int)} (h : Lead m (A + B) p M) (m0 : 0 < m) (hl : q.length = A) (hr : ∀ j : Nat, j < A → row q (j : Int) = (row p (j : Int)).take A) :
    Lead m A q (fun x => ∃ y, M y ∧ ∀ i, i < A → m ∣ y i - x i) := by
  have hP : ∀ j : Nat, j < A → row p (j : Int) ≠ [] → PRow m A j (row q (j : Int)) := fun j hj hn => by
    have k := h.tab.prow (show j < A + B by omega) hn
    rw [hr j hj]
    refine ⟨by rw [List.length_take, k.len]; omega, k.ent.take _, fun i hi => by rw [rd_take (by omega)]; exact k.zero i hi, ?_, ?_, ?_⟩ <;> rw [rd_take hj]
    · exact k.pos
    · exact k.lt
    · exact k.dvd
  have hE : ∀ j : Nat, j < A → (row q (j : Int) = [] ↔ row p (j : Int) = []) := fun j hj => by
    constructor
    · intro e
      by_cases hn : row p (j : Int) = []
      · exact hn
      · exact absurd e (hP j hj hn).ne
    · intro e; rw [hr j hj, e]; simp
  have hdv : ∀ j : Nat, j < A → dv m q j = dv m p j := fun j hj => by
    unfold dv
    by_cases hn : row p (j : Int) = []
    · rw [if_pos hn, if_pos ((hE j hj).2 hn)]
    · rw [if_neg hn, if_neg fun e => hn ((hE j hj).1 e), hr j hj, rd_take hj]
  exact {
    tab := ⟨hl, fun j hj => by
      by_cases hn : row p (j : Int) = []
      · exact .inl ((hE j hj).2 hn)
      · exact .inr (hP j hj hn)⟩
    sub := ⟨⟨_, h.sub.zero, fun i _ => dvd_same rfl⟩, fun x y ⟨x', hx, ex⟩ ⟨y', hy, ey⟩ c => ⟨_, h.sub.lin _ _ hx hy c, fun i hi => by
      have := Int.dvd_add (ex i hi) (Int.dvd_mul_of_dvd_right (b := c) (ey i hi))
      rw [Int.mul_sub] at this
      rwa [show ∀ a b c d : Int, a + c - (b + d) = a - b + (c - d) from fun a b c d => by omega]⟩,
      fun x y ⟨x', hx, ex⟩ e => ⟨x', hx, fun i hi => by
        have := Int.dvd_add (ex i hi) (e i hi)
        rwa [show ∀ a b c : Int, a - b + (b - c) = a - c from fun a b c => by omega] at this⟩⟩
    own := fun j hj hn => ⟨V (row p (j : Int)), h.own j (by omega) fun e => hn ((hE j hj).2 e), fun i hi => by
      refine dvd_same ?_
      show rd (row p (j : Int)) (i : Int) = rd (row q (j : Int)) (i : Int)
      rw [hr j hj, rd_take hi]⟩
    lead := fun x ⟨y, hy, e⟩ j hj hz => by
      have := h.lead y hy j (by omega) fun i hi => by
        have := Int.dvd_add (e i (by omega)) (hz i hi)
        rwa [show ∀ a b : Int, a - b + b = a from fun a b => by omega] at this
      rw [hdv j hj]
      have hd := (dv_bd m0 h.tab (show j < A + B by omega)).2.2
      have := Int.dvd_sub this (Int.dvd_trans hd (e j hj))
      rwa [show ∀ a b : Int, a - (a - b) = b from fun a b => by omega] at this }
def pad (A : Nat) (x : Vc) : Vc := fun i => if i < A then 0 else x (i - A)
theorem Lead.last {A B : Nat} {q : List (List Int)} (h : Lead m (A + B) p M) (m0 : 0 < m) (hl : q.length = B) (hr : ∀ j : Nat, j < B → row q (j : Int) = (row p ((A + j : Nat) : Int)).drop A) :
    Lead m B q (fun x => M (pad A x)) := by
  have hP : ∀ j : Nat, j < B → row p ((A + j : Nat) : Int) ≠ [] → PRow m B j (row q (j : Int)) := fun j hj hn => by
    have k := h.tab.prow (show A + j < A + B by omega) hn
    rw [hr j hj]
    refine ⟨by rw [List.length_drop, k.len]; omega, k.ent.drop _, fun i hi => by rw [rd_drop]; exact k.zero _ (by omega), ?_, ?_, ?_⟩ <;> rw [rd_drop]
    · exact k.pos
    · exact k.lt
    · exact k.dvd
  have hE : ∀ j : Nat, j < B → (row q (j : Int) = [] ↔ row p ((A + j : Nat) : Int) = []) := fun j hj => by
    constructor
    · intro e
      by_cases hn : row p ((A + j : Nat) : Int) = []
      · exact hn
      · exact absurd e (hP j hj hn).ne
    · intro e; rw [hr j hj, e]; simp
  have hdv : ∀ j : Nat, j < B → dv m q j = dv m p (A + j) := fun j hj => by
    unfold dv
    by_cases hn : row p ((A + j : Nat) : Int) = []
    · rw [if_pos hn, if_pos ((hE j hj).2 hn)]
    · rw [if_neg hn, if_neg fun e => hn ((hE j hj).1 e), hr j hj, rd_drop]
  have hpad : ∀ (x y : Vc) (c : Int), pad A (fun i => x i + c * y i) = fun i => pad A x i + c * pad A y i := fun x y c => by
    funext i
    unfold pad
    by_cases h : i < A
    · simp [h]
    · simp [h]
  exact {
    tab := ⟨hl, fun j hj => by
      by_cases hn : row p ((A + j : Nat) : Int) = []
      · exact .inl ((hE j hj).2 hn)
      · exact .inr (hP j hj hn)⟩
    sub := ⟨h.sub.alike _ _ h.sub.zero fun i _ => dvd_same (by unfold pad; simp), fun x y hx hy c => by rw [hpad]; exact h.sub.lin _ _ hx hy c,
      fun x y hx e => h.sub.alike _ _ hx fun i hi => by
        unfold pad
        by_cases k : i < A
        · simp [k]
        · simp only [k, if_false]
          exact e (i - A) (by omega)⟩
    own := fun j hj hn => by
      have hn' : row p ((A + j : Nat) : Int) ≠ [] := fun e => hn ((hE j hj).2 e)
      refine h.sub.alike _ _ (h.own (A + j) (by omega) hn') fun i hi => dvd_same ?_
      unfold pad
      by_cases k : i < A
      · simp only [k, if_true]
        exact (h.tab.prow (show A + j < A + B by omega) hn').zero i (by omega)
      · simp only [k, if_false]
        show rd (row p ((A + j : Nat) : Int)) (i : Int) = rd (row q (j : Int)) ((i - A : Nat) : Int)
        rw [hr j hj, rd_drop, show A + (i - A) = i by omega]
    lead := fun x hx j hj hz => by
      have := h.lead _ hx (A + j) (by omega) fun i hi => by
        unfold pad
        by_cases k : i < A
        · simp [k]
        · simp only [k, if_false]
          exact hz _ (by omega)
      rw [hdv j hj]
      unfold pad at this
      rw [if_neg (by omega), show A + j - A = j by omega] at this
      exact this }
theorem rd_app_left {a b : List Int} {i : Nat} (h : i < a.length) : rd (a ++ b) (i : Int) = rd a (i : Int) := by
  simp [rd, List.getD_eq_getElem?_getD, List.getElem?_append, h]
theorem rd_app_right {a b : List Int} {i : Nat} (h : a.length ≤ i) : rd (a ++ b) (i : Int) = rd b ((i - a.length : Nat) : Int) := by
  simp only [rd, Int.toNat_natCast, List.getD_eq_getElem?_getD, List.getElem?_append, if_neg (show ¬ i < a.length by omega)]
theorem first_span {A B k : Nat} {f e : Nat → List Int} (hf : ∀ i, i < k → (f i).length = A) (hM : Lead m (A + B) p (Sp m (A + B) (Gn (fun i => f i ++ e i) k))) (hL : Sub m A (fun x => ∃ y, Sp m (A + B) (Gn (fun i => f i ++ e i) k) y ∧ ∀ i, i < A → m ∣ y i - x i)) (x : Vc) :
    (∃ y, Sp m (A + B) (Gn (fun i => f i ++ e i) k) y ∧ ∀ i, i < A → m ∣ y i - x i) ↔ Sp m A (Gn f k) x := by
  constructor
  · rintro ⟨y, hy, h⟩
    refine .alike ?_ h
    have hs : Sub m (A + B) (Sp m A (Gn f k)) := ⟨.nil, fun x y hx hy c => hx.plus (hy.mul c), fun x y hx h => .alike hx fun i hi => h i (by omega)⟩
    refine hs.all (fun g hg => ?_) hy
    obtain ⟨i, hi, rfl⟩ := hg
    refine .alike (.gen ⟨i, hi, rfl⟩) fun j hj => dvd_same ?_
    show rd (f i) (j : Int) = rd (f i ++ e i) (j : Int)
    rw [rd_app_left (by rw [hf i hi]; exact hj)]
  · intro hx
    refine hL.all (fun g hg => ?_) hx
    obtain ⟨i, hi, rfl⟩ := hg
    refine ⟨_, .gen ⟨i, hi, rfl⟩, fun j hj => dvd_same ?_⟩
    show rd (f i ++ e i) (j : Int) = rd (f i) (j : Int)
    rw [rd_app_left (by rw [hf i hi]; exact hj)]
end
end Go.Proofs.Ytpppnoliogdkiaa.V
set_option linter.unusedVariables false
set_option linter.unusedSimpArgs false
set_option maxHeartbeats 4000000
set_option maxRecDepth 20000
namespace Go.Proofs.Ytpppnoliogdkiaa.V
open Go.RowKit Go.Proofs.Ytpppnoliogdkiaa.D Go.Proofs.Ytpppnoliogdkiaa.P
def unitC (c i : Nat) : List Int := (List.replicate c (0 : Int)).set i 1
theorem unitC_length (c i : Nat) : (unitC c i).length = c := by simp [unitC]
theorem unitC_in {m : Int} (m2 : 2 ≤ m) (c i : Nat) : AllIn m (unitC c i) := allIn_of fun x hx => by
  rcases List.mem_or_eq_of_mem_set hx with h | h
  · rw [List.mem_replicate] at h; omega
  · omega
theorem bdL_length (g : List (List Int)) (m : Int) (u v : List Int) (d : Nat) : (bdL g m u v d).length = (cells g ((d + 1 : Nat) : Int)).toNat := by rw [bdL, List.length_map, List.length_range]
theorem bdL_in {m : Int} (m2 : 2 ≤ m) (g : List (List Int)) (u v : List Int) (d : Nat) : AllIn m (bdL g m u v d) := allIn_of fun x hx => by
  obtain ⟨i, _, rfl⟩ := List.mem_map.1 hx
  exact ⟨Int.emod_nonneg _ (by omega), Int.emod_lt_of_pos _ (by omega)⟩
noncomputable def bdU (g : List (List Int)) (m : Int) (u : List Int) (e i : Nat) : List Int := bdL g m u (unitC (cells g (e : Int)).toNat i) e
noncomputable def bdG (g : List (List Int)) (m : Int) (u : List Int) : Nat → Vc → Prop
  | 0 => fun _ => False
  | e + 1 => Gn (bdU g m u e) (cells g (e : Int)).toNat
noncomputable def bdA (g : List (List Int)) (m : Int) (u : List Int) (e i : Nat) : List Int := bdU g m u e i ++ unitC (cells g (e : Int)).toNat i
noncomputable def nB (g : List (List Int)) (e : Nat) : Nat := (cells g (e : Int)).toNat
theorem unitCo {g : List (List Int)} (hg : Grp g) {m : Int} (m2 : 2 ≤ m) {e : Nat} (he : e ≤ 3) (i : Nat) : Co g m e (unitC (cells g (e : Int)).toNat i) := by
  have hb := cells_bd hg (d := (e : Int)) (by omega)
  exact ⟨⟨by omega, by omega⟩, by rw [unitC_length]; omega, unitC_in m2 _ _⟩
theorem newSpan_ (m : Int) {c : Nat} (hc : c ≤ 100000) : impl_newSpan.f m (c : Int) = some (m, List.replicate c []) := by
  rw [impl_newSpan.f_eq, Int.toNat_natCast]
  ((with_reducible repeat (first | refine go_pos (by first | assumption | omega | rfl | exact B_pos (by omega)) ?_ | refine go_neg (by first | assumption | omega | decide | exact B_not (by omega)) ?_ | refine go_bind (by first | assumption) ?_ | dsimp only)); first | done | (with_reducible rfl) | simp (disch := omega) only [w64] | (show False; done))
theorem concat2 {a b : List Int} (ha : a.length ≤ 1000000) (hb : b.length ≤ 1000000) : slices_Concat_int64.f [a, b] = some (a ++ b) := by
  have l2 : ([a, b] : List (List Int)).length = 2 := rfl
  have r0 : row [a, b] 0 = a := rfl
  have r1 : row [a, b] 1 = b := rfl
  have w1 : wrapI (0 + 1) = 1 := w64 (by omega) (by omega)
  have w2 : wrapI (1 + 1) = 2 := w64 (by omega) (by omega)
  have w3 : wrapI (0 + (a.length : Int)) = (a.length : Int) := by rw [w64 (by omega) (by omega)]; omega
  have w4 : wrapI ((a.length : Int) + (b.length : Int)) = ((a.length + b.length : Nat) : Int) := by rw [w64 (by omega) (by omega)]; omega
  have w5 : wrapI (0 - 0) = 0 := w64 (by omega) (by omega)
  have hG : slices_Grow_int64.f ((a.length + b.length : Nat) : Int) = some [] := by
    have w6 : wrapI (((a.length + b.length : Nat) : Int) - 0) = ((a.length + b.length : Nat) : Int) := by rw [w64 (by omega) (by omega)]; omega
    rw [slices_Grow_int64.f_eq, w5, w6, Int.toNat_natCast, List.length_replicate]
    by_cases h : a.length + b.length = 0
    · rw [h]; ((with_reducible repeat (first | refine go_pos (by first | assumption | omega | rfl | exact B_pos (by omega)) ?_ | refine go_neg (by first | assumption | omega | decide | exact B_not (by omega)) ?_ | refine go_bind (by first | assumption) ?_ | dsimp only)); first | done | (with_reducible rfl) | simp (disch := omega) only [w64] | (show False; done))
    · (with_reducible repeat (first | refine go_pos (by first | assumption | omega | rfl | exact B_pos (by omega)) ?_ | refine go_neg (by first | assumption | omega | decide | exact B_not (by omega)) ?_ | refine go_bind (by first | assumption) ?_ | dsimp only))
      rfl
  rw [slices_Concat_int64.f_eq, l2, slices_Concat_int64.l0_eq, r0, w1, w3]
  (with_reducible repeat (first | refine go_pos (by first | assumption | omega | rfl | exact B_pos (by omega)) ?_ | refine go_neg (by first | assumption | omega | decide | exact B_not (by omega)) ?_ | refine go_bind (by first | assumption) ?_ | dsimp only))
  rw [slices_Concat_int64.l0_eq, r1, w2, w4]
  (with_reducible repeat (first | refine go_pos (by first | assumption | omega | rfl | exact B_pos (by omega)) ?_ | refine go_neg (by first | assumption | omega | decide | exact B_not (by omega)) ?_ | refine go_bind (by first | assumption) ?_ | dsimp only))
  rw [slices_Concat_int64.l0_eq]
  (with_reducible repeat (first | refine go_pos (by first | assumption | omega | rfl | exact B_pos (by omega)) ?_ | refine go_neg (by first | assumption | omega | decide | exact B_not (by omega)) ?_ | refine go_bind (by first | assumption) ?_ | dsimp only))
  rw [l2, slices_Concat_int64.l1_eq, r0, w1, show ([] : List Int).length = 0 from rfl]
  (with_reducible repeat (first | refine go_pos (by first | assumption | omega | rfl | exact B_pos (by omega)) ?_ | refine go_neg (by first | assumption | omega | decide | exact B_not (by omega)) ?_ | refine go_bind (by first | assumption) ?_ | dsimp only))
  rw [List.nil_append, slices_Concat_int64.l1_eq, r1, w2]
  (with_reducible repeat (first | refine go_pos (by first | assumption | omega | rfl | exact B_pos (by omega)) ?_ | refine go_neg (by first | assumption | omega | decide | exact B_not (by omega)) ?_ | refine go_bind (by first | assumption) ?_ | dsimp only))
  rw [slices_Concat_int64.l1_eq]
  ((with_reducible repeat (first | refine go_pos (by first | assumption | omega | rfl | exact B_pos (by omega)) ?_ | refine go_neg (by first | assumption | omega | decide | exact B_not (by omega)) ?_ | refine go_bind (by first | assumption) ?_ | dsimp only)); first | done | (with_reducible rfl) | simp (disch := omega) only [w64] | (show False; done))
theorem nA_bd {g : List (List Int)} (hg : Grp g) {e : Nat} (he : e ≤ 4) : nB g e ≤ 16807 ∧ ((nB g e : Nat) : Int) = cells g (e : Int) := by
  have hb := cells_bd hg (d := (e : Int)) (by omega)
  unfold nB
  omega
theorem bounded_ {g : List (List Int)} (hg : Grp g) {m : Int} {u : List Int} (hm : Mdl g m u) {n : Nat} (hn : n ≤ 3) :
    ∃ p, impl_bounded.f g m u (n : Int) = some (m, p, ((nB g (n + 1) : Nat) : Int)) ∧ Pst m (nB g (n + 1) + nB g n) p [] (Sp m (nB g (n + 1) + nB g n) (Gn (bdA g m u n) (nB g n))) := by
  have m2 := hm.m2; have m12 := hm.m12
  obtain ⟨b1, b2⟩ := nA_bd hg (e := n) (by omega)
  obtain ⟨c1, c2⟩ := nA_bd hg (e := n + 1) (by omega)
  have hc := cells_ hg (d := (n : Int)) (by omega) (by omega)
  have hc2 := cells_ hg (d := ((n + 1 : Nat) : Int)) (by omega) (by omega)
  have hz := zero_ hg (n := n) (by omega)
  rw [← show nB g n = (cells g (n : Int)).toNat from rfl] at hz
  have hN := newSpan_ m (c := nB g (n + 1) + nB g n) (by omega)
  have w : wrapI ((nB g (n + 1) : Int) + (nB g n : Int)) = ((nB g (n + 1) + nB g n : Nat) : Int) := by rw [w64 (by omega) (by omega)]; omega
  rw [impl_bounded.f_eq, wn (j := n) (by omega), hc2, Option.bind_some, hc, Option.bind_some, ← b2, ← c2, w, hN, Option.bind_some]
  have key : ∀ k, k ≤ nB g n → ∃ p, impl_bounded.l0 (n : Int) ((nB g (n + 1) : Nat) : Int) ((nB g n : Nat) : Int) 0 g m u m (List.replicate (nB g (n + 1) + nB g n) []) = impl_bounded.l0 (n : Int) ((nB g (n + 1) : Nat) : Int) ((nB g n : Nat) : Int) (k : Int) g m u m p ∧ Pst m (nB g (n + 1) + nB g n) p [] (Sp m (nB g (n + 1) + nB g n) (Gn (bdA g m u n) k)) := by
    intro k
    induction k with
    | zero => exact fun _ => ⟨_, rfl, Pst.none fun g ⟨i, hi, _⟩ => by omega⟩
    | succ k ih =>
      intro hk
      obtain ⟨p, h1, h2⟩ := ih (by omega)
      have hl : (List.replicate (nB g n) (0 : Int)).length = nB g n := List.length_replicate
      have hB := boundary_ hg hm (unitCo hg m2 (e := n) (by omega) k)
      have hB : impl_boundary.f g m u (n : Int) ((List.replicate (nB g n) (0 : Int)).set k 1) = some (((n + 1 : Nat) : Int), bdU g m u n k) := hB
      have bl : (bdU g m u n k).length = nB g (n + 1) := bdL_length ..
      have ul : (unitC (nB g n) k).length = nB g n := unitC_length ..
      have hC : slices_Concat_int64.f [bdU g m u n k, (List.replicate (nB g n) (0 : Int)).set k 1] = some (bdA g m u n k) := concat2 (a := bdU g m u n k) (b := unitC (nB g n) k) (by omega) (by omega)
      have al : (bdA g m u n k).length = nB g (n + 1) + nB g n := by
        show (bdU g m u n k ++ unitC (nB g n) k).length = _
        rw [List.length_append, bl, ul]
      obtain ⟨p', h3, h4⟩ := put_ m2 m12 (show nB g (n + 1) + nB g n ≤ 100000 by omega) (h2.add (r := bdA g m u n k) ⟨al, (bdL_in m2 _ _ _ _).append (unitC_in m2 _ _)⟩ Gn_succ)
      refine ⟨p', ?_, h4⟩
      rw [h1, impl_bounded.l0_eq, wn (j := k) (by omega), Int.toNat_natCast]
      ((with_reducible repeat (first | refine go_pos (by first | assumption | omega | rfl | exact B_pos (by omega)) ?_ | refine go_neg (by first | assumption | omega | decide | exact B_not (by omega)) ?_ | refine go_bind (by first | assumption) ?_ | dsimp only)); first | done | (with_reducible rfl) | simp (disch := omega) only [w64] | (show False; done))
  obtain ⟨p, h1, h2⟩ := key _ (Nat.le_refl _)
  refine ⟨p, ?_, h2⟩
  rw [h1, impl_bounded.l0_eq]
  ((with_reducible repeat (first | refine go_pos (by first | assumption | omega | rfl | exact B_pos (by omega)) ?_ | refine go_neg (by first | assumption | omega | decide | exact B_not (by omega)) ?_ | refine go_bind (by first | assumption) ?_ | dsimp only)); first | done | (with_reducible rfl) | simp (disch := omega) only [w64] | (show False; done))
def rowsFrom (p : List (List Int)) (A B : Nat) : List (List Int) := (List.range B).map fun j : Nat => (row p ((A + j : Nat) : Int)).drop A
def rowsTo (p : List (List Int)) (A : Nat) : List (List Int) := (List.range A).map fun j : Nat => (row p (j : Int)).take A
theorem rowsFrom_row {p : List (List Int)} {A B j : Nat} (h : j < B) : row (rowsFrom p A B) (j : Int) = (row p ((A + j : Nat) : Int)).drop A := by
  rw [row_get (by simpa [rowsFrom] using h)]
  simp [rowsFrom]
theorem rowsTo_row {p : List (List Int)} {A j : Nat} (h : j < A) : row (rowsTo p A) (j : Int) = (row p (j : Int)).take A := by
  rw [row_get (by simpa [rowsTo] using h)]
  simp [rowsTo]
theorem rows_step (F : Nat → List Int) (B k : Nat) (h : k < B) : ((List.range k).map F ++ List.replicate (B - k) []).set k (F k) = (List.range (k + 1)).map F ++ List.replicate (B - (k + 1)) [] := by
  rw [List.set_append, if_neg (by simp), List.length_map, List.length_range, Nat.sub_self, show B - k = (B - (k + 1)) + 1 by omega, List.replicate_succ, List.set_cons_zero, List.range_succ, List.map_append]
  simp
theorem rows_stay (F : Nat → List Int) (B k : Nat) (h : k < B) (e : F k = []) : (List.range k).map F ++ List.replicate (B - k) [] = (List.range (k + 1)).map F ++ List.replicate (B - (k + 1)) [] := by
  rw [show B - k = (B - (k + 1)) + 1 by omega, List.replicate_succ, List.range_succ, List.map_append, List.map_singleton, e]
  simp
theorem rowz_len (F : Nat → List Int) (B k : Nat) (h : k ≤ B) : ((List.range k).map F ++ List.replicate (B - k) []).length = B := by simp; omega
theorem part_ {m : Int} {p : List (List Int)} {A B : Nat} (hA : A ≤ 100000) (hB : B ≤ 100000) (ht : PTab m (A + B) p) : impl_span_part.f m p (A : Int) = some (m, rowsFrom p A B, m, p) := by
  have hl := ht.len
  have w : wrapI ((p.length : Int) - (A : Int)) = (B : Int) := by rw [w64 (by omega) (by omega)]; omega
  rw [impl_span_part.f_eq, w, newSpan_ m hB, Option.bind_some]
  obtain ⟨F, hF⟩ : ∃ F : Nat → List Int, F = fun j : Nat => (row p ((A + j : Nat) : Int)).drop A := ⟨_, rfl⟩
  have loop := up B (fun k => impl_span_part.l0 (A : Int) ((A + k : Nat) : Int) m p m ((List.range k).map F ++ List.replicate (B - k) [])) (fun k hk => by
    have hw : wrapI (((A + k : Nat) : Int) - (A : Int)) = (k : Int) := by rw [w64 (by omega) (by omega)]; omega
    have rl := rowz_len F B k (by omega)
    have hFk : F k = (row p ((A + k : Nat) : Int)).drop A := by rw [hF]
    rw [show A + (k + 1) = A + k + 1 from rfl, impl_span_part.l0_eq, wn (j := A + k) (by omega), hw]
    simp only [Int.toNat_natCast]
    rw [← hFk]
    by_cases hr : row p ((A + k : Nat) : Int) = []
    · have e0 : (row p ((A + k : Nat) : Int)).length = 0 := by rw [hr]; rfl
      rw [← rows_stay F B k hk (by rw [hFk, hr]; simp)]
      ((with_reducible repeat (first | refine go_pos (by first | assumption | omega | rfl | exact B_pos (by omega)) ?_ | refine go_neg (by first | assumption | omega | decide | exact B_not (by omega)) ?_ | refine go_bind (by first | assumption) ?_ | dsimp only)); first | done | (with_reducible rfl) | simp (disch := omega) only [w64] | (show False; done))
    · have hP := ht.prow (show A + k < A + B by omega) hr
      have e1 := hP.len
      have e2 : (F k).length = B := by rw [hFk, List.length_drop, e1]; omega
      rw [← rows_step F B k hk]
      ((with_reducible repeat (first | refine go_pos (by first | assumption | omega | rfl | exact B_pos (by omega)) ?_ | refine go_neg (by first | assumption | omega | decide | exact B_not (by omega)) ?_ | refine go_bind (by first | assumption) ?_ | dsimp only)); first | done | (with_reducible rfl) | simp (disch := omega) only [w64] | (show False; done)))
  rw [List.range_zero, List.map_nil, List.nil_append, Nat.sub_zero, Nat.add_zero, Nat.sub_self, List.replicate_zero, List.append_nil] at loop
  rw [show rowsFrom p A B = (List.range B).map F by rw [hF]; rfl]
  refine loop.trans ?_
  rw [impl_span_part.l0_eq]
  ((with_reducible repeat (first | refine go_pos (by first | assumption | omega | rfl | exact B_pos (by omega)) ?_ | refine go_neg (by first | assumption | omega | decide | exact B_not (by omega)) ?_ | refine go_bind (by first | assumption) ?_ | dsimp only)); first | done | (with_reducible rfl) | simp (disch := omega) only [w64] | (show False; done))
noncomputable def coM (g : List (List Int)) (m : Int) (u : List Int) (n : Nat) : Vc → Prop := fun x => Sp m (nB g (n + 1) + nB g n) (Gn (bdA g m u n) (nB g n)) (pad (nB g (n + 1)) x)
theorem rowsFrom_lead {m : Int} {p : List (List Int)} {A B : Nat} {M : Vc → Prop} (m0 : 0 < m) (h : Lead m (A + B) p M) : Lead m B (rowsFrom p A B) (fun x => M (pad A x)) :=
  h.last m0 (by simp [rowsFrom]) fun j hj => rowsFrom_row hj
theorem cocycles_ {g : List (List Int)} (hg : Grp g) {m : Int} {u : List Int} (hm : Mdl g m u) {n : Nat} (hn : n ≤ 3) :
    ∃ q, impl_cocycles.f g m u (n : Int) = some (m, q) ∧ Lead m (nB g n) q (coM g m u n) := by
  have m2 := hm.m2
  obtain ⟨b1, b2⟩ := nA_bd hg (e := n) (by omega)
  obtain ⟨c1, c2⟩ := nA_bd hg (e := n + 1) (by omega)
  obtain ⟨p, h1, h2⟩ := bounded_ hg hm hn
  have h3 := h2.lead (by omega)
  have h4 := part_ (m := m) (A := nB g (n + 1)) (B := nB g n) (by omega) (by omega) h3.tab
  refine ⟨_, ?_, rowsFrom_lead (by omega) h3⟩
  rw [impl_cocycles.f_eq]
  ((with_reducible repeat (first | refine go_pos (by first | assumption | omega | rfl | exact B_pos (by omega)) ?_ | refine go_neg (by first | assumption | omega | decide | exact B_not (by omega)) ?_ | refine go_bind (by first | assumption) ?_ | dsimp only)); first | done | (with_reducible rfl) | simp (disch := omega) only [w64] | (show False; done))
theorem Sides_ {g : List (List Int)} (hg : Grp g) {m : Int} {u : List Int} (hm : Mdl g m u) {n : Nat} (hn : n ≤ 3) : spec_l04Sides.f g m u (n : Int) = some ((List.range (nB g n)).map (bdA g m u n)) := by
  have m2 := hm.m2
  obtain ⟨b1, b2⟩ := nA_bd hg (e := n) (by omega)
  obtain ⟨c1, c2⟩ := nA_bd hg (e := n + 1) (by omega)
  have hc := Cells_ hg (d := (n : Int)) (by omega) (by omega)
  have hc2 := Cells_ hg (d := ((n + 1 : Nat) : Int)) (by omega) (by omega)
  rw [← b2] at hc
  rw [← c2] at hc2
  have hz : spec_l03Zero.f g (n : Int) = some ((n : Int), List.replicate (nB g n) 0) := by
    rw [spec_l03Zero.f_eq, hc, Option.bind_some, Int.toNat_natCast]
    ((with_reducible repeat (first | refine go_pos (by first | assumption | omega | rfl | exact B_pos (by omega)) ?_ | refine go_neg (by first | assumption | omega | decide | exact B_not (by omega)) ?_ | refine go_bind (by first | assumption) ?_ | dsimp only)); first | done | (with_reducible rfl) | simp (disch := omega) only [w64] | (show False; done))
  have l3 : ∀ x : List Int, ([x] : List (List Int)).length = 1 := fun _ => rfl
  have l2 : ∀ x : Int, ([x] : List Int).length = 1 := fun _ => rfl
  rw [spec_l04Sides.f_eq, hc, Option.bind_some]
  have loop := up (nB g n) (fun k => spec_l04Sides.l0 (n : Int) ((nB g n : Nat) : Int) (k : Int) g m u ((List.range k).map (bdA g m u n))) (fun k hk => by
    have hl : (List.replicate (nB g n) (0 : Int)).length = nB g n := List.length_replicate
    have bl : (bdU g m u n k).length = nB g (n + 1) := bdL_length ..
    have ul : ((List.replicate (nB g n) (0 : Int)).set k 1).length = nB g n := by simp
    have hCo := unitCo hg m2 (e := n) (by omega) k
    have inner := up (nB g (n + 1)) (fun j => spec_l04Sides.l1 (n : Int) ((nB g n : Nat) : Int) (k : Int) (j : Int) g m u ((List.range k).map (bdA g m u n)) (n : Int) ((bdU g m u n k).take j) ((List.replicate (nB g n) (0 : Int)).set k 1)) (fun j hj => by
      have hL := (cell_list hg (n := n + 1) (i := j) (by omega) (by omega)).2
      have hll := lst_length ((g.length : Int) - 1) (n + 1) j
      obtain ⟨hx, _⟩ := lst_grp hg (n := n + 1) (i := j) (by omega)
      have hS := Side_ hg hm hCo hx hll
      have hS : spec_l03Side.f g m u (n : Int) ((List.replicate (nB g n) (0 : Int)).set k 1) (lst ((g.length : Int) - 1) (n + 1) j) = some (rd (bdU g m u n k) (j : Int)) := by
        rw [rd_get (by omega)]
        simp only [bdU, bdL, List.getElem_map, List.getElem_range]
        exact hS
      have tl : ((bdU g m u n k).take j).length = j := by rw [List.length_take]; omega
      rw [take_rd (by omega), spec_l04Sides.l1_eq, wn (j := n) (by omega), wn (j := j) (by omega)]
      (with_reducible repeat (first | refine go_pos (by first | assumption | omega | rfl | exact B_pos (by omega)) ?_ | refine go_neg (by first | assumption | omega | decide | exact B_not (by omega)) ?_ | refine go_bind (by first | assumption) ?_ | dsimp only))
      rw [l2]
      ((with_reducible repeat (first | refine go_pos (by first | assumption | omega | rfl | exact B_pos (by omega)) ?_ | refine go_neg (by first | assumption | omega | decide | exact B_not (by omega)) ?_ | refine go_bind (by first | assumption) ?_ | dsimp only)); first | done | (with_reducible rfl) | simp (disch := omega) only [w64] | (show False; done)))
    simp only [Int.natCast_zero, List.take_zero] at inner
    rw [List.take_of_length_le (by omega)] at inner
    have ml : ((List.range k).map (bdA g m u n)).length = k := by simp
    rw [spec_l04Sides.l0_eq, Int.toNat_natCast]
    (with_reducible repeat (first | refine go_pos (by first | assumption | omega | rfl | exact B_pos (by omega)) ?_ | refine go_neg (by first | assumption | omega | decide | exact B_not (by omega)) ?_ | refine go_bind (by first | assumption) ?_ | dsimp only))
    rw [inner, spec_l04Sides.l1_eq, wn (j := n) (by omega), wn (j := k) (by omega), l3]
    (with_reducible repeat (first | refine go_pos (by first | assumption | omega | rfl | exact B_pos (by omega)) ?_ | refine go_neg (by first | assumption | omega | decide | exact B_not (by omega)) ?_ | refine go_bind (by first | assumption) ?_ | dsimp only))
    rw [List.range_succ, List.map_append, List.map_singleton]
    rfl)
  simp only [Int.natCast_zero, List.range_zero, List.map_nil] at loop
  rw [loop, spec_l04Sides.l0_eq]
  ((with_reducible repeat (first | refine go_pos (by first | assumption | omega | rfl | exact B_pos (by omega)) ?_ | refine go_neg (by first | assumption | omega | decide | exact B_not (by omega)) ?_ | refine go_bind (by first | assumption) ?_ | dsimp only)); first | done | (with_reducible rfl) | simp (disch := omega) only [w64] | (show False; done))
theorem bdA_len {g : List (List Int)} {m : Int} {u : List Int} {n k : Nat} : (bdA g m u n k).length = nB g (n + 1) + nB g n := by
  show (bdU g m u n k ++ unitC (nB g n) k).length = _
  rw [List.length_append, unitC_length]
  show (bdL _ _ _ _ _).length + _ = _
  rw [bdL_length]
  rfl
theorem Split_ {g : List (List Int)} (hg : Grp g) {m : Int} {u : List Int} (hm : Mdl g m u) {n : Nat} (hn : n ≤ 3) :
    ∃ p, spec_l04Split.f g m u (n : Int) = some (rowsTo p (nB g (n + 1)), rowsFrom p (nB g (n + 1)) (nB g n), p) ∧ Lead m (nB g (n + 1) + nB g n) p (Sp m (nB g (n + 1) + nB g n) (Gn (bdA g m u n) (nB g n))) := by
  have m2 := hm.m2; have m12 := hm.m12
  obtain ⟨b1, b2⟩ := nA_bd hg (e := n) (by omega)
  obtain ⟨c1, c2⟩ := nA_bd hg (e := n + 1) (by omega)
  have hc := Cells_ hg (d := (n : Int)) (by omega) (by omega)
  have hc2 := Cells_ hg (d := ((n + 1 : Nat) : Int)) (by omega) (by omega)
  rw [← b2] at hc
  rw [← c2] at hc2
  obtain ⟨A, hA⟩ : ∃ A, A = nB g (n + 1) := ⟨_, rfl⟩
  obtain ⟨B, hB⟩ : ∃ B, B = nB g n := ⟨_, rfl⟩
  have hX : ((List.range (nB g n)).map (bdA g m u n)).length = nB g n := by simp
  have hXr : ∀ i : Nat, i < nB g n → row ((List.range (nB g n)).map (bdA g m u n)) (i : Int) = bdA g m u n i := fun i hi => by
    rw [row_get (by omega)]; simp
  obtain ⟨p, h1, h2⟩ := Reduced_ m2 m12 (W := nB g (n + 1) + nB g n) (by omega) (X := (List.range (nB g n)).map (bdA g m u n)) (by omega) (fun i hi => by
    rw [hXr i (by omega)]
    exact ⟨bdA_len, (bdL_in m2 _ _ _ _).append (unitC_in m2 _ _)⟩)
  have hM : Sp m (nB g (n + 1) + nB g n) (Gn (fun i => row ((List.range (nB g n)).map (bdA g m u n)) (i : Int)) ((List.range (nB g n)).map (bdA g m u n)).length) = Sp m (nB g (n + 1) + nB g n) (Gn (bdA g m u n) (nB g n)) := by
    congr 1
    funext x
    apply propext
    rw [hX]
    constructor
    · rintro ⟨i, hi, rfl⟩; exact ⟨i, hi, congrArg V (hXr i hi)⟩
    · rintro ⟨i, hi, rfl⟩; exact ⟨i, hi, (congrArg V (hXr i hi)).symm⟩
  rw [hM] at h2
  have h3 := h2.lead (by omega)
  refine ⟨p, ?_, h3⟩
  have ht := h3.tab
  have hl := ht.len
  have w : wrapI ((nB g (n + 1) : Int) + (nB g n : Int)) = ((nB g (n + 1) + nB g n : Nat) : Int) := by rw [w64 (by omega) (by omega)]; omega
  have hSd := Sides_ hg hm hn
  rw [spec_l04Split.f_eq, wn (j := n) (by omega), hc2, Option.bind_some, hc, Option.bind_some, hSd, Option.bind_some, w, h1, Option.bind_some, Int.toNat_natCast, Int.toNat_natCast]
  (with_reducible repeat (first | refine go_pos (by first | assumption | omega | rfl | exact B_pos (by omega)) ?_ | refine go_neg (by first | assumption | omega | decide | exact B_not (by omega)) ?_ | refine go_bind (by first | assumption) ?_ | dsimp only))
  rw [← hA, ← hB] at hl ht w ⊢
  obtain ⟨F, hF⟩ : ∃ F : Nat → List Int, F = fun j : Nat => (row p (j : Int)).take A := ⟨_, rfl⟩
  obtain ⟨H, hH⟩ : ∃ H : Nat → List Int, H = fun j : Nat => (row p ((A + j : Nat) : Int)).drop A := ⟨_, rfl⟩
  have loop1 := up A (fun k => spec_l04Split.l0 (A : Int) (B : Int) (k : Int) p ((List.range k).map F ++ List.replicate (A - k) []) (List.replicate B [])) (fun k hk => by
    have rl := rowz_len F A k (by omega)
    have hFk : F k = (row p (k : Int)).take A := by rw [hF]
    rw [spec_l04Split.l0_eq, wn (j := k) (by omega), w]
    simp only [Int.toNat_natCast]
    rw [← hFk]
    by_cases hr : row p (k : Int) = []
    · have e0 : ((row p (k : Int)).length : Int) = 0 := by rw [hr]; rfl
      rw [← rows_stay F A k hk (by rw [hFk, hr]; simp)]
      ((with_reducible repeat (first | refine go_pos (by first | assumption | omega | rfl | exact B_pos (by omega)) ?_ | refine go_neg (by first | assumption | omega | decide | exact B_not (by omega)) ?_ | refine go_bind (by first | assumption) ?_ | dsimp only)); first | done | (with_reducible rfl) | simp (disch := omega) only [w64] | (show False; done))
    · have hP := ht.prow (show k < A + B by omega) hr
      have e1 := hP.len
      rw [← rows_step F A k hk]
      ((with_reducible repeat (first | refine go_pos (by first | assumption | omega | rfl | exact B_pos (by omega)) ?_ | refine go_neg (by first | assumption | omega | decide | exact B_not (by omega)) ?_ | refine go_bind (by first | assumption) ?_ | dsimp only)); first | done | (with_reducible rfl) | simp (disch := omega) only [w64] | (show False; done)))
  have loop2 := up B (fun k => spec_l04Split.l0 (A : Int) (B : Int) ((A + k : Nat) : Int) p ((List.range A).map F) ((List.range k).map H ++ List.replicate (B - k) [])) (fun k hk => by
    have rl := rowz_len H B k (by omega)
    have hw : wrapI (((A + k : Nat) : Int) - (A : Int)) = (k : Int) := by rw [w64 (by omega) (by omega)]; omega
    have hHk : H k = (row p ((A + k : Nat) : Int)).drop A := by rw [hH]
    rw [show A + (k + 1) = A + k + 1 from rfl, spec_l04Split.l0_eq, wn (j := A + k) (by omega), w, hw]
    simp only [Int.toNat_natCast]
    rw [← hHk]
    by_cases hr : row p ((A + k : Nat) : Int) = []
    · have e0 : ((row p ((A + k : Nat) : Int)).length : Int) = 0 := by rw [hr]; rfl
      rw [← rows_stay H B k hk (by rw [hHk, hr]; simp)]
      ((with_reducible repeat (first | refine go_pos (by first | assumption | omega | rfl | exact B_pos (by omega)) ?_ | refine go_neg (by first | assumption | omega | decide | exact B_not (by omega)) ?_ | refine go_bind (by first | assumption) ?_ | dsimp only)); first | done | (with_reducible rfl) | simp (disch := omega) only [w64] | (show False; done))
    · have hP := ht.prow (show A + k < A + B by omega) hr
      have e1 := hP.len
      rw [← rows_step H B k hk]
      ((with_reducible repeat (first | refine go_pos (by first | assumption | omega | rfl | exact B_pos (by omega)) ?_ | refine go_neg (by first | assumption | omega | decide | exact B_not (by omega)) ?_ | refine go_bind (by first | assumption) ?_ | dsimp only)); first | done | (with_reducible rfl) | simp (disch := omega) only [w64] | (show False; done)))
  rw [List.range_zero, List.map_nil, List.nil_append, Nat.sub_zero, Nat.sub_self, List.replicate_zero, List.append_nil] at loop1
  rw [List.range_zero, List.map_nil, List.nil_append, Nat.sub_zero, Nat.add_zero, Nat.sub_self, List.replicate_zero, List.append_nil] at loop2
  rw [show rowsFrom p A B = (List.range B).map H by rw [hH]; rfl, show rowsTo p A = (List.range A).map F by rw [hF]; rfl]
  refine (loop1.trans loop2).trans ?_
  rw [spec_l04Split.l0_eq, w]
  ((with_reducible repeat (first | refine go_pos (by first | assumption | omega | rfl | exact B_pos (by omega)) ?_ | refine go_neg (by first | assumption | omega | decide | exact B_not (by omega)) ?_ | refine go_bind (by first | assumption) ?_ | dsimp only)); first | done | (with_reducible rfl) | simp (disch := omega) only [w64] | (show False; done))
end Go.Proofs.Ytpppnoliogdkiaa.V
set_option linter.unusedVariables false
set_option linter.unusedSimpArgs false
set_option maxHeartbeats 4000000
set_option maxRecDepth 20000
namespace Go.Proofs.Ytpppnoliogdkiaa.V
open Go.RowKit Go.Proofs.Ytpppnoliogdkiaa.D Go.Proofs.Ytpppnoliogdkiaa.P
def lc (p : List (List Int)) (t : List Int) : Nat → Vc
  | 0 => fun _ => 0
  | k + 1 => fun i => lc p t k i + rd t (k : Int) * rd (row p (k : Int)) (i : Int)
theorem lc_succ (p : List (List Int)) (t : List Int) (k i : Nat) : lc p t (k + 1) i = lc p t k i + rd t (k : Int) * rd (row p (k : Int)) (i : Int) := rfl
structure Least0 (m : Int) (W k : Nat) (p : List (List Int)) (M : Vc → Prop) (x y t : List Int) : Prop where
  len : y.length = W
  ent : AllIn m y
  dif : M fun i => rd x (i : Int) - rd y (i : Int)
  lt : ∀ j : Nat, j < k → rd y (j : Int) < dv m p j
  tlen : t.length = W
  tbd : ∀ j : Nat, j < W → 0 ≤ rd t (j : Int) ∧ rd t (j : Int) ≤ 12
  tnil : ∀ j : Nat, row p (j : Int) = [] → rd t (j : Int) = 0
  tak : ∀ i : Nat, i < W → m ∣ rd x (i : Int) - rd y (i : Int) - lc p t k i
theorem lc_congr {p : List (List Int)} {t t' : List Int} : ∀ k, (∀ j : Nat, j < k → rd t (j : Int) = rd t' (j : Int)) → lc p t k = lc p t' k := by
  intro k
  induction k with
  | zero => intro _; rfl
  | succ k ih =>
    intro h
    funext i
    rw [lc, lc, ih fun j hj => h j (by omega), h k (by omega)]
theorem rd_set_same {t : List Int} {j : Nat} {x : Int} (h : j < t.length) : rd (t.set j x) (j : Int) = x := by
  rw [rd_get (by rw [List.length_set]; exact h)]; simp
theorem rd_set_ne {t : List Int} {i j : Nat} {x : Int} (h : i ≠ j) : rd (t.set j x) (i : Int) = rd t (i : Int) := by
  simp only [rd, Int.toNat_natCast, List.getD_eq_getElem?_getD, List.getElem?_set, if_neg (show ¬ j = i from fun e => h e.symm)]
theorem Least0.begin {m : Int} {W : Nat} {p : List (List Int)} {M : Vc → Prop} (hM : Lead m W p M) {x : List Int} (hx : x.length = W) (ha : AllIn m x) : Least0 m W 0 p M x x (List.replicate W 0) where
  len := hx
  ent := ha
  dif := hM.sub.alike _ _ hM.sub.zero fun i _ => dvd_same (by simp)
  lt := fun j hj => by omega
  tlen := List.length_replicate
  tbd := fun j _ => by rw [rd_zeros]; omega
  tnil := fun j _ => rd_zeros _ _
  tak := fun i _ => dvd_same (by simp [lc])
theorem Least0.skip {m : Int} {W k : Nat} {p : List (List Int)} {M : Vc → Prop} {x y t : List Int} (h : Least0 m W k p M x y t) (hk : k < W) (hr : row p (k : Int) = []) : Least0 m W (k + 1) p M x y t :=
  { h with
    lt := fun j hj => by
      by_cases e : j = k
      · subst e
        rw [show dv m p j = m from if_pos hr]
        exact (h.ent j (by omega) (by rw [h.len]; omega)).2
      · exact h.lt j (by omega)
    tak := fun i hi => by
      rw [lc_succ, h.tnil k hr, Int.zero_mul, Int.add_zero]
      exact h.tak i hi }
theorem Least0.take {m : Int} {W k : Nat} {p : List (List Int)} {M : Vc → Prop} {x y t : List Int} (m2 : 2 ≤ m) (m12 : m ≤ 12) (hM : Lead m W p M) (h : Least0 m W k p M x y t) (hk : k < W) (hr : row p (k : Int) ≠ []) :
    Least0 m W (k + 1) p M x (mix m 1 y (-(rd y (k : Int) / rd (row p (k : Int)) (k : Int))) (row p (k : Int))) (t.set k (rd y (k : Int) / rd (row p (k : Int)) (k : Int))) := by
  have hP := hM.tab.prow hk hr
  have p0 := hP.pos
  have p1 := hP.lt
  have yl := h.len
  have tl := h.tlen
  obtain ⟨y0, y1⟩ := h.ent k (by omega) (by omega)
  obtain ⟨q, hq⟩ : ∃ q, q = rd y (k : Int) / rd (row p (k : Int)) (k : Int) := ⟨_, rfl⟩
  rw [← hq]
  have hmod := Int.mul_ediv_add_emod (rd y (k : Int)) (rd (row p (k : Int)) (k : Int))
  rw [← hq] at hmod
  have r0 := Int.emod_nonneg (rd y (k : Int)) (show rd (row p (k : Int)) (k : Int) ≠ 0 by omega)
  have r1 := Int.emod_lt_of_pos (rd y (k : Int)) p0
  have q0 : 0 ≤ q := by rw [hq]; exact Int.ediv_nonneg y0 (by omega)
  have q1 : q ≤ rd y (k : Int) := by rw [hq]; exact Int.ediv_le_self _ y0
  have hy : ∀ i : Nat, i < W → m ∣ 1 * rd y (i : Int) + (-q) * rd (row p (k : Int)) (i : Int) - rd (mix m 1 y (-q) (row p (k : Int))) (i : Int) := fun i hi => mix_dvd (by omega)
  refine ⟨by rw [mix_length]; exact yl, mix_in (by omega), ?_, fun j hj => ?_, by rw [List.length_set]; exact tl, fun j hj => ?_, fun j hn => ?_, fun i hi => ?_⟩
  · refine hM.sub.alike _ _ (hM.sub.lin _ _ h.dif (hM.own k hk hr) q) fun i hi => ?_
    obtain ⟨z, hz⟩ := hy i hi
    refine ⟨-z, ?_⟩
    rw [Int.mul_neg, ← hz, Int.neg_mul]
    show rd x (i : Int) - rd y (i : Int) + q * rd (row p (k : Int)) (i : Int) - (rd x (i : Int) - rd (mix m 1 y (-q) (row p (k : Int))) (i : Int)) = _
    omega
  · by_cases e : j = k
    · subst e
      rw [mix_rd (by omega), show dv m p j = rd (row p (j : Int)) (j : Int) from if_neg hr, show 1 * rd y (j : Int) + -q * rd (row p (j : Int)) (j : Int) = rd y (j : Int) % rd (row p (j : Int)) (j : Int) by rw [Int.neg_mul, Int.mul_comm q]; omega, Int.emod_eq_of_lt r0 (by omega)]
      exact r1
    · obtain ⟨a0, a1⟩ := h.ent j (by omega) (by omega)
      rw [mix_rd (by omega), hP.zero j (by omega), Int.mul_zero, Int.add_zero, Int.one_mul, Int.emod_eq_of_lt a0 a1]
      exact h.lt j (by omega)
  · by_cases e : j = k
    · subst e; rw [rd_set_same (by omega)]; omega
    · rw [rd_set_ne e]; exact h.tbd j hj
  · have e : j ≠ k := fun e => hr (e ▸ hn)
    rw [rd_set_ne e]; exact h.tnil j hn
  · rw [lc_succ, rd_set_same (by omega), lc_congr k fun j hj => rd_set_ne (show j ≠ k by omega)]
    obtain ⟨z, hz⟩ := hy i hi
    obtain ⟨z', hz'⟩ := h.tak i hi
    refine ⟨z' + z, ?_⟩
    rw [Int.mul_add, ← hz, ← hz', Int.neg_mul]
    omega
theorem Least0.fin {m : Int} {W : Nat} {p : List (List Int)} {M : Vc → Prop} {x y t : List Int} (h : Least0 m W W p M x y t) : Least m W p M x y := ⟨h.len, h.ent, h.dif, h.lt⟩
theorem rest_ {m : Int} (m2 : 2 ≤ m) (m12 : m ≤ 12) {W : Nat} (hW : W ≤ 100000) {p : List (List Int)} {M : Vc → Prop} (hM : Lead m W p M) {x : List Int} (hx : x.length = W) (ha : AllIn m x) :
    ∃ y t, impl_span_rest.f m p x = some (y, t, m, p) ∧ Least0 m W W p M x y t := by
  have hl := hM.tab.len
  rw [impl_span_rest.f_eq, hl, Int.toNat_natCast]
  have key : ∀ k, k ≤ W → ∃ y t, impl_span_rest.l0 (W : Int) 0 m p x (List.replicate W 0) = impl_span_rest.l0 (W : Int) (k : Int) m p y t ∧ Least0 m W k p M x y t := by
    intro k
    induction k with
    | zero => exact fun _ => ⟨_, _, rfl, Least0.begin hM hx ha⟩
    | succ k ih =>
      intro hk
      obtain ⟨y, t, h1, h2⟩ := ih (by omega)
      have yl := h2.len
      have tl := h2.tlen
      by_cases hr : row p (k : Int) = []
      · have e0 : (row p (k : Int)).length = 0 := by rw [hr]; rfl
        refine ⟨y, t, ?_, h2.skip (by omega) hr⟩
        rw [h1, impl_span_rest.l0_eq, wn (j := k) (by omega)]
        ((with_reducible repeat (first | refine go_pos (by first | assumption | omega | rfl | exact B_pos (by omega)) ?_ | refine go_neg (by first | assumption | omega | decide | exact B_not (by omega)) ?_ | refine go_bind (by first | assumption) ?_ | dsimp only)); first | done | (with_reducible rfl) | simp (disch := omega) only [w64] | (show False; done))
      · have hP := hM.tab.prow (show k < W by omega) hr
        have pl := hP.len
        have p0 := hP.pos
        obtain ⟨y0, y1⟩ := h2.ent k (by omega) (by omega)
        refine ⟨_, _, ?_, h2.take m2 m12 hM (by omega) hr⟩
        have hT : T p (k : Int) (k : Int) = rd (row p (k : Int)) (k : Int) := rfl
        have d0 : 0 ≤ rd y (k : Int) / rd (row p (k : Int)) (k : Int) := Int.ediv_nonneg y0 (by omega)
        have d1 : rd y (k : Int) / rd (row p (k : Int)) (k : Int) ≤ rd y (k : Int) := Int.ediv_le_self _ y0
        have e1 : wrapI (Int.tdiv (rd y (k : Int)) (rd (row p (k : Int)) (k : Int))) = rd y (k : Int) / rd (row p (k : Int)) (k : Int) := by rw [tdiv_nn y0]; exact w64 (by omega) (by omega)
        have hne : ¬ rd (row p (k : Int)) (k : Int) = 0 := by omega
        have hsl : (t.set k (rd y (k : Int) / rd (row p (k : Int)) (k : Int))).length = W := by rw [List.length_set]; exact tl
        have hc := combined m2 m12 (p := p) (x := 1) (y := -(rd y (k : Int) / rd (row p (k : Int)) (k : Int))) h2.ent hP.ent (by omega) (by omega) (by omega) (by omega) (by omega) (by omega)
        have e2 : wrapI (0 - rd y (k : Int) / rd (row p (k : Int)) (k : Int)) = -(rd y (k : Int) / rd (row p (k : Int)) (k : Int)) := by rw [w64 (by omega) (by omega)]; omega
        rw [h1, impl_span_rest.l0_eq, wn (j := k) (by omega), hT, e1, Int.toNat_natCast, rd_set_same (by omega), e2]
        ((with_reducible repeat (first | refine go_pos (by first | assumption | omega | rfl | exact B_pos (by omega)) ?_ | refine go_neg (by first | assumption | omega | decide | exact B_not (by omega)) ?_ | refine go_bind (by first | assumption) ?_ | dsimp only)); first | done | (with_reducible rfl) | simp (disch := omega) only [w64] | (show False; done))
  obtain ⟨y, t, h1, h2⟩ := key W (Nat.le_refl _)
  refine ⟨y, t, ?_, h2⟩
  (with_reducible repeat (first | refine go_pos (by first | assumption | omega | rfl | exact B_pos (by omega)) ?_ | refine go_neg (by first | assumption | omega | decide | exact B_not (by omega)) ?_ | refine go_bind (by first | assumption) ?_ | dsimp only))
  rw [h1, impl_span_rest.l0_eq]
  ((with_reducible repeat (first | refine go_pos (by first | assumption | omega | rfl | exact B_pos (by omega)) ?_ | refine go_neg (by first | assumption | omega | decide | exact B_not (by omega)) ?_ | refine go_bind (by first | assumption) ?_ | dsimp only)); first | done | (with_reducible rfl) | simp (disch := omega) only [w64] | (show False; done))
theorem mix_zero {m : Int} {y r : List Int} (ha : AllIn m y) : mix m 1 y (-0) r = y := by
  refine ext_rd (mix_length ..) fun i i0 i1 => ?_
  rw [mix_length] at i1
  obtain ⟨n, rfl⟩ := Int.eq_ofNat_of_zero_le i0
  obtain ⟨a0, a1⟩ := ha n (by omega) i1
  rw [mix_rd (by omega), show (1 : Int) * rd y (n : Int) + -0 * rd r (n : Int) = rd y (n : Int) by simp]
  exact Int.emod_eq_of_lt a0 a1
theorem Less_ {m : Int} (m2 : 2 ≤ m) (m12 : m ≤ 12) {W : Nat} (hW : W ≤ 100000) {p : List (List Int)} {M : Vc → Prop} (hM : Lead m W p M) {x : List Int} (hx : x.length = W) (ha : AllIn m x) :
    ∃ y, spec_l04Less.f x p m = some y ∧ Least m W p M x y := by
  have hl := hM.tab.len
  rw [spec_l04Less.f_eq, Own_ x (by omega), Option.bind_some]
  have key : ∀ k, k ≤ W → ∃ y t, spec_l04Less.l0 p m 0 x = spec_l04Less.l0 p m (k : Int) y ∧ Least0 m W k p M x y t := by
    intro k
    induction k with
    | zero => exact fun _ => ⟨_, _, rfl, Least0.begin hM hx ha⟩
    | succ k ih =>
      intro hk
      obtain ⟨y, t, h1, h2⟩ := ih (by omega)
      have yl := h2.len
      by_cases hr : row p (k : Int) = []
      · have e0 : ¬ ((row p (k : Int)).length : Int) > 0 := by rw [hr]; simp
        refine ⟨y, t, ?_, h2.skip (by omega) hr⟩
        rw [h1, spec_l04Less.l0_eq, wn (j := k) (by omega)]
        ((with_reducible repeat (first | refine go_pos (by first | assumption | omega | rfl | exact B_pos (by omega)) ?_ | refine go_neg (by first | assumption | omega | decide | exact B_not (by omega)) ?_ | refine go_bind (by first | assumption) ?_ | dsimp only)); first | done | (with_reducible rfl) | simp (disch := omega) only [w64] | (show False; done))
      · have e0 : ((row p (k : Int)).length : Int) > 0 := by have := List.length_pos_iff.2 hr; omega
        have hP := hM.tab.prow (show k < W by omega) hr
        have pl := hP.len
        have p0 := hP.pos
        obtain ⟨y0, y1⟩ := h2.ent k (by omega) (by omega)
        have hT : T p (k : Int) (k : Int) = rd (row p (k : Int)) (k : Int) := rfl
        have d0 : 0 ≤ rd y (k : Int) / rd (row p (k : Int)) (k : Int) := Int.ediv_nonneg y0 (by omega)
        have d1 : rd y (k : Int) / rd (row p (k : Int)) (k : Int) ≤ rd y (k : Int) := Int.ediv_le_self _ y0
        have e1 : wrapI (Int.tdiv (rd y (k : Int)) (rd (row p (k : Int)) (k : Int))) = rd y (k : Int) / rd (row p (k : Int)) (k : Int) := by rw [tdiv_nn y0]; exact w64 (by omega) (by omega)
        have hne : ¬ rd (row p (k : Int)) (k : Int) = 0 := by omega
        refine ⟨_, _, ?_, h2.take m2 m12 hM (by omega) hr⟩
        have hc := Mix_ m2 m12 (x := 1) (y := -(rd y (k : Int) / rd (row p (k : Int)) (k : Int))) h2.ent hP.ent (by omega) (by omega) (by omega) (by omega) (by omega) (by omega)
        have e2 : wrapI (0 - rd y (k : Int) / rd (row p (k : Int)) (k : Int)) = -(rd y (k : Int) / rd (row p (k : Int)) (k : Int)) := by rw [w64 (by omega) (by omega)]; omega
        rw [h1, spec_l04Less.l0_eq, wn (j := k) (by omega), hT, e1, e2]
        by_cases hge : rd y (k : Int) ≥ rd (row p (k : Int)) (k : Int)
        · ((with_reducible repeat (first | refine go_pos (by first | assumption | omega | rfl | exact B_pos (by omega)) ?_ | refine go_neg (by first | assumption | omega | decide | exact B_not (by omega)) ?_ | refine go_bind (by first | assumption) ?_ | dsimp only)); first | done | (with_reducible rfl) | simp (disch := omega) only [w64] | (show False; done))
        · have hz : rd y (k : Int) / rd (row p (k : Int)) (k : Int) = 0 := Int.ediv_eq_zero_of_lt y0 (by omega)
          rw [hz, mix_zero h2.ent]
          ((with_reducible repeat (first | refine go_pos (by first | assumption | omega | rfl | exact B_pos (by omega)) ?_ | refine go_neg (by first | assumption | omega | decide | exact B_not (by omega)) ?_ | refine go_bind (by first | assumption) ?_ | dsimp only)); first | done | (with_reducible rfl) | simp (disch := omega) only [w64] | (show False; done))
  obtain ⟨y, t, h1, h2⟩ := key W (Nat.le_refl _)
  refine ⟨y, ?_, h2.fin⟩
  rw [h1, spec_l04Less.l0_eq]
  ((with_reducible repeat (first | refine go_pos (by first | assumption | omega | rfl | exact B_pos (by omega)) ?_ | refine go_neg (by first | assumption | omega | decide | exact B_not (by omega)) ?_ | refine go_bind (by first | assumption) ?_ | dsimp only)); first | done | (with_reducible rfl) | simp (disch := omega) only [w64] | (show False; done))
theorem clone_ (x : List Int) (h : x.length ≤ 1000000) : slices_Clone_int64.f x = some x := by
  rw [slices_Clone_int64.f_eq, List.nil_append, show ([] : List Int).length = 0 from rfl]
  by_cases h0 : x.length = 0
  · have := List.eq_nil_of_length_eq_zero h0
    subst this
    ((with_reducible repeat (first | refine go_pos (by first | assumption | omega | rfl | exact B_pos (by omega)) ?_ | refine go_neg (by first | assumption | omega | decide | exact B_not (by omega)) ?_ | refine go_bind (by first | assumption) ?_ | dsimp only)); first | done | (with_reducible rfl) | simp (disch := omega) only [w64] | (show False; done))
  · ((with_reducible repeat (first | refine go_pos (by first | assumption | omega | rfl | exact B_pos (by omega)) ?_ | refine go_neg (by first | assumption | omega | decide | exact B_not (by omega)) ?_ | refine go_bind (by first | assumption) ?_ | dsimp only)); first | done | (with_reducible rfl) | simp (disch := omega) only [w64] | (show False; done))
theorem least_ {m : Int} (m2 : 2 ≤ m) (m12 : m ≤ 12) {W : Nat} (hW : W ≤ 100000) {p : List (List Int)} {M : Vc → Prop} (hM : Lead m W p M) (d : Int) {x : List Int} (hx : x.length = W) (ha : AllIn m x) :
    ∃ y, impl_span_least.f m p d x = some (d, y, m, p) ∧ Least m W p M x y := by
  obtain ⟨y, t, h1, h2⟩ := rest_ m2 m12 hW hM hx ha
  have hc := clone_ x (by omega)
  refine ⟨y, ?_, h2.fin⟩
  rw [impl_span_least.f_eq]
  ((with_reducible repeat (first | refine go_pos (by first | assumption | omega | rfl | exact B_pos (by omega)) ?_ | refine go_neg (by first | assumption | omega | decide | exact B_not (by omega)) ?_ | refine go_bind (by first | assumption) ?_ | dsimp only)); first | done | (with_reducible rfl) | simp (disch := omega) only [w64] | (show False; done))
def Zr (x : List Int) : Prop := ∀ i : Int, 0 ≤ i → i < x.length → rd x i = 0
theorem isZero_ (x : List Int) (hl : x.length ≤ 1000000) : impl_isZero.f x = some (B (Zr x)) := by
  have hf : (fun z0 => (impl_isZero_1.f z0).map fun z => z) = (fun z0 : Int => some (!decide (z0 = 0))) := by
    funext z; rw [impl_isZero_1.f_eq]; rfl
  have hp : (fun z0 => (impl_span_put_1.f z0).map fun z => z) = (fun z0 : Int => some (!decide (z0 = 0))) := by
    funext z; rw [impl_span_put_1.f_eq]; rfl
  have hI := indexFunc x hl
  rw [hp] at hI
  have hC : (fun z0 => ((fun z0 : Int => some (!decide (z0 = 0))) z0).map fun z => z) = (fun z0 : Int => some (!decide (z0 = 0))) := rfl
  rw [impl_isZero.f_eq, hf, slices_ContainsFunc_int64.f_eq, hC]
  rcases hI with ⟨hz, h⟩ | ⟨j, hj, _, hne, h⟩
  · rw [h, B_pos (show Zr x from fun i i0 i1 => by
      obtain ⟨n, rfl⟩ := Int.eq_ofNat_of_zero_le i0
      exact hz n (by omega))]
    rfl
  · rw [h, B_neg (show ¬ Zr x from fun k => hne (k j (by omega) (by omega)))]
    simp
theorem Least.zero_iff {m : Int} (m0 : 0 < m) {W : Nat} {p : List (List Int)} {M : Vc → Prop} (hM : Lead m W p M) {x y : List Int} (h : Least m W p M x y) : Zr y ↔ M (V x) := by
  have yl := h.len
  constructor
  · intro hz
    refine hM.sub.alike _ _ h.dif fun i hi => ?_
    rw [hz i (by omega) (by omega)]
    exact dvd_same (by simp [V])
  · intro hx
    have hz : Least m W p M x (List.replicate W 0) := ⟨List.length_replicate, zeros_in m0 W, hM.sub.alike _ _ hx fun i hi => dvd_same (by rw [rd_zeros]; simp [V]), fun j hj => by rw [rd_zeros]; exact (dv_bd m0 hM.tab hj).1⟩
    rw [h.same m0 hM hM hz]
    exact fun i _ _ => rd_zeros _ _
end Go.Proofs.Ytpppnoliogdkiaa.V
set_option linter.unusedVariables false
set_option linter.unusedSimpArgs false
set_option maxHeartbeats 4000000
set_option maxRecDepth 20000
namespace Go.Proofs.Ytpppnoliogdkiaa.V
open Go.RowKit Go.Proofs.Ytpppnoliogdkiaa.D Go.Proofs.Ytpppnoliogdkiaa.P
theorem isRanked_ {g : List (List Int)} (hg : Grp g) {k : Nat} (hk : k ≤ 4) : impl_isRanked.f g (k : Int) = some (B (nB g k ≤ 49)) := by
  obtain ⟨b1, b2⟩ := nA_bd hg hk
  have hc := cells_ hg (d := (k : Int)) (by omega) (by omega)
  rw [impl_isRanked.f_eq, hc, Option.bind_some, ← b2, B_decide, B_congr (show ((nB g k : Nat) : Int) ≤ 49 ↔ nB g k ≤ 49 by omega)]
theorem Code04 {g : List (List Int)} (hg : Grp g) {m : Int} {u : List Int} (hm : Mdl g m u) (hu : u.length ≤ maxLen) {k : Nat} (hk : k ≤ 3) : spec_l04Code.f g m u (k : Int) = some (ite_ (nB g k ≤ 49) 0 3) := by
  have hS := Is_ g
  have hM := Is02 hg m u hu
  rw [B_pos hg] at hS
  rw [B_pos hm] at hM
  have hI := In_ (k : Int) 0 3
  rw [B_pos (show (0 : Int) ≤ (k : Int) ∧ (k : Int) ≤ 3 by omega)] at hI
  obtain ⟨b1, b2⟩ := nA_bd hg (e := k) (by omega)
  have hC := Cells_ hg (d := (k : Int)) (by omega) (by omega)
  rw [spec_l04Code.f_eq]
  by_cases h3 : nB g k ≤ 49
  · rw [ite_pos h3]; ((with_reducible repeat (first | refine go_pos (by first | assumption | omega | rfl | exact B_pos (by omega)) ?_ | refine go_neg (by first | assumption | omega | decide | exact B_not (by omega)) ?_ | refine go_bind (by first | assumption) ?_ | dsimp only)); first | done | (with_reducible rfl) | simp (disch := omega) only [w64] | (show False; done))
  · rw [ite_neg h3]; ((with_reducible repeat (first | refine go_pos (by first | assumption | omega | rfl | exact B_pos (by omega)) ?_ | refine go_neg (by first | assumption | omega | decide | exact B_not (by omega)) ?_ | refine go_bind (by first | assumption) ?_ | dsimp only)); first | done | (with_reducible rfl) | simp (disch := omega) only [w64] | (show False; done))
theorem bounding1 {g : List (List Int)} (hl : g.length ≤ maxLen) (hr : ∀ r ∈ g, r.length ≤ maxLen) (m : Int) (u : List Int) (hu : u.length ≤ maxLen) (d : Int) (v : List Int) (hv : v.length ≤ maxLen) :
    (∃ k : Nat, d = (k : Int) ∧ k ≤ 3 ∧ Grp g ∧ Mdl g m u ∧ Co g m k v ∧ nB g k ≤ 49 ∧ impl_boundingCode.f g m u d v = some 0 ∧ spec_l04Given.f g m u false [(d, v)] = some 0) ∨
    ∃ c : Int, ¬ c = 0 ∧ impl_boundingCode.f g m u d v = some c ∧ spec_l04Given.f g m u false [(d, v)] = some c := by
  have r0 : (Ty.rd (.pr (.int .i64) (.sl 2 (.int .i64))) [(d, v)] 0) = (d, v) := rfl
  have l1 : ([(d, v)] : List (Int × List Int)).length = 1 := rfl
  rcases co_codes g hl hr m u hu d v hv with ⟨hg, hm, hc, cI, cS⟩ | ⟨_, cI, cS⟩
  rotate_left
  · exact .inr ⟨1, by omega, by rw [impl_boundingCode.f_eq]; ((with_reducible repeat (first | refine go_pos (by first | assumption | omega | rfl | exact B_pos (by omega)) ?_ | refine go_neg (by first | assumption | omega | decide | exact B_not (by omega)) ?_ | refine go_bind (by first | assumption) ?_ | dsimp only)); first | done | (with_reducible rfl) | simp (disch := omega) only [w64] | (show False; done)), by rw [spec_l04Given.f_eq]; ((with_reducible repeat (first | refine go_pos (by first | assumption | omega | rfl | exact B_pos (by omega)) ?_ | refine go_neg (by first | assumption | omega | decide | exact B_not (by omega)) ?_ | refine go_bind (by first | assumption) ?_ | dsimp only)); first | done | (with_reducible rfl) | simp (disch := omega) only [w64] | (show False; done))⟩
  obtain ⟨k, rfl⟩ := Int.eq_ofNat_of_zero_le hc.1.1
  have hk : k ≤ 3 := by have := hc.1.2; omega
  have h1 := isRanked_ hg (k := k) (by omega)
  have h2 := Code04 hg hm hu hk
  by_cases h3 : nB g k ≤ 49
  · rw [B_pos h3] at h1
    rw [ite_pos h3] at h2
    refine .inl ⟨k, rfl, hk, hg, hm, hc, h3, by rw [impl_boundingCode.f_eq]; ((with_reducible repeat (first | refine go_pos (by first | assumption | omega | rfl | exact B_pos (by omega)) ?_ | refine go_neg (by first | assumption | omega | decide | exact B_not (by omega)) ?_ | refine go_bind (by first | assumption) ?_ | dsimp only)); first | done | (with_reducible rfl) | simp (disch := omega) only [w64] | (show False; done)), ?_⟩
    rw [spec_l04Given.f_eq]
    (with_reducible repeat (first | refine go_pos (by first | assumption | omega | rfl | exact B_pos (by omega)) ?_ | refine go_neg (by first | assumption | omega | decide | exact B_not (by omega)) ?_ | refine go_bind (by first | assumption) ?_ | dsimp only))
    rw [spec_l04Given.l0_eq, l1, r0]
    (with_reducible repeat (first | refine go_pos (by first | assumption | omega | rfl | exact B_pos (by omega)) ?_ | refine go_neg (by first | assumption | omega | decide | exact B_not (by omega)) ?_ | refine go_bind (by first | assumption) ?_ | dsimp only))
    rw [spec_l04Given.l1_eq, l1]
    ((with_reducible repeat (first | refine go_pos (by first | assumption | omega | rfl | exact B_pos (by omega)) ?_ | refine go_neg (by first | assumption | omega | decide | exact B_not (by omega)) ?_ | refine go_bind (by first | assumption) ?_ | dsimp only)); first | done | (with_reducible rfl) | simp (disch := omega) only [w64] | (show False; done))
  · rw [B_neg h3] at h1
    rw [ite_neg h3] at h2
    refine .inr ⟨3, by omega, by rw [impl_boundingCode.f_eq]; ((with_reducible repeat (first | refine go_pos (by first | assumption | omega | rfl | exact B_pos (by omega)) ?_ | refine go_neg (by first | assumption | omega | decide | exact B_not (by omega)) ?_ | refine go_bind (by first | assumption) ?_ | dsimp only)); first | done | (with_reducible rfl) | simp (disch := omega) only [w64] | (show False; done)), ?_⟩
    rw [spec_l04Given.f_eq]
    (with_reducible repeat (first | refine go_pos (by first | assumption | omega | rfl | exact B_pos (by omega)) ?_ | refine go_neg (by first | assumption | omega | decide | exact B_not (by omega)) ?_ | refine go_bind (by first | assumption) ?_ | dsimp only))
    rw [spec_l04Given.l0_eq, l1, r0]
    ((with_reducible repeat (first | refine go_pos (by first | assumption | omega | rfl | exact B_pos (by omega)) ?_ | refine go_neg (by first | assumption | omega | decide | exact B_not (by omega)) ?_ | refine go_bind (by first | assumption) ?_ | dsimp only)); first | done | (with_reducible rfl) | simp (disch := omega) only [w64] | (show False; done))
theorem Co.nB {g : List (List Int)} (hg : Grp g) {m : Int} {k : Nat} {v : List Int} (h : Co g m k v) : v.length = nB g k := by
  have := h.2.1
  have hk := h.1.2
  obtain ⟨b1, b2⟩ := nA_bd hg (e := k) (by omega)
  omega
end Go.Proofs.Ytpppnoliogdkiaa.V
set_option linter.unusedVariables false
set_option linter.unusedSimpArgs false
set_option maxHeartbeats 4000000
set_option maxRecDepth 20000
namespace Go.Proofs.Ytpppnoliogdkiaa.V
open Go.RowKit Go.Proofs.Ytpppnoliogdkiaa.D Go.Proofs.Ytpppnoliogdkiaa.P
noncomputable def allM (g : List (List Int)) (m : Int) (u : List Int) (e : Nat) : Vc → Prop := Sp m (nB g (e + 1) + nB g e) (Gn (bdA g m u e) (nB g e))
structure LB (g : List (List Int)) (m : Int) (u : List Int) (e : Nat) (v y : List Int) : Prop where
  len : y.length = nB g e
  ent : AllIn m y
  mem : allM g m u e (V (v ++ y))
  lt : ∀ q, Lead m (nB g e) q (coM g m u e) → ∀ j : Nat, j < nB g e → rd y (j : Int) < dv m q j
theorem LB.same {g : List (List Int)} {m : Int} {u : List Int} {e : Nat} {v y y' : List Int} (m0 : 0 < m) (hv : v.length = nB g (e + 1)) {q : List (List Int)} (hq : Lead m (nB g e) q (coM g m u e)) (h : LB g m u e v y) (h' : LB g m u e v y') : y = y' := by
  have hd : coM g m u e fun i => rd y (i : Int) - rd y' (i : Int) := by
    refine .alike ((show Sp m _ _ _ from h.mem).plus ((show Sp m _ _ _ from h'.mem).mul (-1))) fun i hi => dvd_same ?_
    show rd (v ++ y) (i : Int) + -1 * rd (v ++ y') (i : Int) = pad (nB g (e + 1)) (fun i => rd y (i : Int) - rd y' (i : Int)) i
    unfold pad
    by_cases k : i < nB g (e + 1)
    · rw [if_pos k, rd_app_left (by omega), rd_app_left (by omega)]; omega
    · rw [if_neg k, rd_app_right (by omega), rd_app_right (by omega), hv]; dsimp only; omega
  exact Least.same m0 hq hq (x := y) ⟨h.len, h.ent, hq.sub.alike _ _ hq.sub.zero fun i _ => dvd_same (by simp), h.lt q hq⟩ ⟨h'.len, h'.ent, hd, h'.lt q hq⟩
theorem dv_rowsTo {m : Int} {W A B : Nat} {p : List (List Int)} (ht : PTab m (A + B) p) {j : Nat} (hj : j < A) : dv m (rowsTo p A) j = dv m p j := by
  unfold dv
  rw [rowsTo_row hj]
  by_cases hn : row p (j : Int) = []
  · rw [hn]; simp
  · have hP := ht.prow (show j < A + B by omega) hn
    have hl := hP.len
    have : (row p (j : Int)).take A ≠ [] := fun e => by
      have := congrArg List.length e
      rw [List.length_take, List.length_nil] at this
      omega
    rw [if_neg hn, if_neg this, rd_take hj]
theorem bound_iff {g : List (List Int)} {m : Int} (m0 : 0 < m) {u : List Int} {e : Nat} {p : List (List Int)} (hM : Lead m (nB g (e + 1) + nB g e) p (allM g m u e)) (x : Vc) :
    (∃ z, allM g m u e z ∧ ∀ i, i < nB g (e + 1) → m ∣ z i - x i) ↔ Sp m (nB g (e + 1)) (bdG g m u (e + 1)) x :=
  first_span (fun i hi => bdL_length ..) hM (hM.first m0 (q := rowsTo p (nB g (e + 1))) (by simp [rowsTo]) fun j hj => rowsTo_row hj).sub x
theorem nz_not {m : Int} (m0 : 0 < m) {A B j : Nat} {p : List (List Int)} {M : Vc → Prop} (hM : Lead m (A + B) p M) {v x y : List Int} (hx : ∀ i : Nat, i < A → rd x (i : Int) = rd v (i : Int)) (hd : M fun i => rd x (i : Int) - rd y (i : Int)) (hj : j < A) (hz : ∀ i : Nat, i < j → rd y (i : Int) = 0) (h0 : 0 < rd y (j : Int)) (h1 : rd y (j : Int) < dv m p j) :
    ¬ ∃ z, M z ∧ ∀ i, i < A → m ∣ z i - V v i := by
  rintro ⟨z, hz1, hz2⟩
  have k := hM.sub.lin _ _ hz1 hd (-1)
  have hl := hM.lead _ k j (by omega) fun i hi => by
    have := hz2 i (by omega)
    rw [hx i (by omega), hz i hi]
    rwa [show z i + -1 * (rd v (i : Int) - 0) = z i - V v i by simp [V]; omega]
  have hdm := (dv_bd m0 hM.tab (show j < A + B by omega)).2.2
  have h2 := Int.dvd_sub hl (Int.dvd_trans hdm (hz2 j hj))
  rw [hx j hj] at h2
  have h3 : dv m p j ∣ rd y (j : Int) := by
    rwa [show z j + -1 * (rd v (j : Int) - rd y (j : Int)) - (z j - V v j) = rd y (j : Int) by simp only [V]; omega] at h2
  have := Int.le_of_dvd h0 h3
  omega
def negL (m : Int) (r : List Int) : List Int := (List.range r.length).map fun i : Nat => (0 - rd r (i : Int)) % m
theorem negL_length (m : Int) (r : List Int) : (negL m r).length = r.length := by simp [negL]
theorem negL_rd {m : Int} {r : List Int} {i : Nat} (h : i < r.length) : rd (negL m r) (i : Int) = (0 - rd r (i : Int)) % m := by
  rw [rd_get (by rw [negL_length]; exact h)]; simp [negL]
theorem negL_in {m : Int} (m0 : 0 < m) (r : List Int) : AllIn m (negL m r) := allIn_of fun x hx => by
  obtain ⟨i, _, rfl⟩ := List.mem_map.1 hx
  exact ⟨Int.emod_nonneg _ (by omega), Int.emod_lt_of_pos _ m0⟩
theorem lb_of {g : List (List Int)} {m : Int} (m0 : 0 < m) {u : List Int} {e : Nat} {p : List (List Int)} (hM : Lead m (nB g (e + 1) + nB g e) p (allM g m u e)) {v y0 yf : List Int} (hv : v.length = nB g (e + 1)) (hy : y0.length = nB g (e + 1) + nB g e)
    (hd : allM g m u e fun i => rd (v ++ List.replicate (nB g e) 0) (i : Int) - rd y0 (i : Int)) (hz : ∀ i : Nat, i < nB g (e + 1) → rd y0 (i : Int) = 0)
    (hL : Least m (nB g e) (rowsFrom p (nB g (e + 1)) (nB g e)) (coM g m u e) (negL m (y0.drop (nB g (e + 1)))) yf) : LB g m u e v yf := by
  have hq := rowsFrom_lead m0 hM
  have dl : (y0.drop (nB g (e + 1))).length = nB g e := by rw [List.length_drop]; omega
  refine ⟨hL.len, hL.ent, ?_, fun q' hq' j hj => ?_⟩
  · have h2 : allM g m u e (pad (nB g (e + 1)) fun i => rd (negL m (y0.drop (nB g (e + 1)))) (i : Int) - rd yf (i : Int)) := hL.dif
    refine hM.sub.alike _ _ (hM.sub.lin _ _ hd h2 (-1)) fun i hi => ?_
    show m ∣ rd (v ++ List.replicate (nB g e) 0) (i : Int) - rd y0 (i : Int) + -1 * pad (nB g (e + 1)) (fun i => rd (negL m (y0.drop (nB g (e + 1)))) (i : Int) - rd yf (i : Int)) i - rd (v ++ yf) (i : Int)
    unfold pad
    by_cases k : i < nB g (e + 1)
    · rw [if_pos k, rd_app_left (by omega), rd_app_left (by omega), hz i k]
      exact ⟨0, by omega⟩
    · rw [if_neg k, rd_app_right (by omega), rd_app_right (by omega), hv, rd_zeros]
      dsimp only
      rw [negL_rd (by omega), rd_drop, show nB g (e + 1) + (i - nB g (e + 1)) = i by omega]
      have := Int.mul_ediv_add_emod (0 - rd y0 (i : Int)) m
      exact ⟨(0 - rd y0 (i : Int)) / m, by omega⟩
  · rw [← dv_same m0 hq hq' hj]
    exact hL.lt j hj
theorem leastBounded0 (g : List (List Int)) (m : Int) (u v : List Int) : impl_leastBounded.f g m u 0 v = some (0, [], false) := by
  rw [impl_leastBounded.f_eq]; ((with_reducible repeat (first | refine go_pos (by first | assumption | omega | rfl | exact B_pos (by omega)) ?_ | refine go_neg (by first | assumption | omega | decide | exact B_not (by omega)) ?_ | refine go_bind (by first | assumption) ?_ | dsimp only)); first | done | (with_reducible rfl) | simp (disch := omega) only [w64] | (show False; done))
theorem leastBounded_ {g : List (List Int)} (hg : Grp g) {m : Int} {u : List Int} (hm : Mdl g m u) {e : Nat} {v : List Int} (hc : Co g m ((e + 1 : Nat) : Int) v) :
    (Sp m (nB g (e + 1)) (bdG g m u (e + 1)) (V v) ∧ ∃ y, impl_leastBounded.f g m u ((e + 1 : Nat) : Int) v = some ((e : Int), y, true) ∧ LB g m u e v y) ∨
    (¬ Sp m (nB g (e + 1)) (bdG g m u (e + 1)) (V v) ∧ impl_leastBounded.f g m u ((e + 1 : Nat) : Int) v = some (0, [], false)) := by
  have m2 := hm.m2; have m12 := hm.m12
  have he := hc.1.2
  have vl := hc.nB hg
  obtain ⟨b1, b2⟩ := nA_bd hg (e := e) (by omega)
  obtain ⟨c1, c2⟩ := nA_bd hg (e := e + 1) (by omega)
  obtain ⟨p, h1, h2⟩ := bounded_ hg hm (n := e) (by omega)
  have hM := h2.lead (by omega)
  have hM : Lead m (nB g (e + 1) + nB g e) p (allM g m u e) := hM
  have hcl := cells_ hg (d := (e : Int)) (by omega) (by omega)
  rw [← b2] at hcl
  have zl : (List.replicate (nB g e) (0 : Int)).length = nB g e := List.length_replicate
  have hcat := concat2 (a := v) (b := List.replicate (nB g e) (0 : Int)) (by omega) (by omega)
  have rl : (v ++ List.replicate (nB g e) (0 : Int)).length = nB g (e + 1) + nB g e := by rw [List.length_append, zl, vl]
  have ra : AllIn m (v ++ List.replicate (nB g e) (0 : Int)) := hc.2.2.append (zeros_in (by omega) _)
  obtain ⟨y0, t, h3, h4⟩ := rest_ m2 m12 (by omega) hM rl ra
  have yl := h4.len
  have tl : (y0.take (nB g (e + 1))).length = nB g (e + 1) := by rw [List.length_take]; omega
  have h5 := isZero_ (y0.take (nB g (e + 1))) (by omega)
  have w : wrapI (((e + 1 : Nat) : Int) - 1) = (e : Int) := by rw [w64 (by omega) (by omega)]; omega
  have hLf : Least m (nB g (e + 1)) (rowsTo p (nB g (e + 1))) (fun x => ∃ z, allM g m u e z ∧ ∀ i, i < nB g (e + 1) → m ∣ z i - x i) v (y0.take (nB g (e + 1))) :=
    ⟨tl, h4.ent.take _, ⟨_, h4.dif, fun i hi => dvd_same (by dsimp only; rw [rd_app_left (by omega), rd_take hi])⟩, fun j hj => by rw [dv_rowsTo (W := 0) hM.tab hj, rd_take hj]; exact h4.lt j (by omega)⟩
  have hF := hM.first (by omega) (q := rowsTo p (nB g (e + 1))) (by simp [rowsTo]) fun j hj => rowsTo_row hj
  have hzi := hLf.zero_iff (by omega) hF
  have hzi : Zr (y0.take (nB g (e + 1))) ↔ Sp m (nB g (e + 1)) (bdG g m u (e + 1)) (V v) := hzi.trans (bound_iff (by omega) hM (V v))
  rw [B_congr hzi] at h5
  have start : impl_leastBounded.f g m u ((e + 1 : Nat) : Int) v = (impl_isZero.f (y0.take (nB g (e + 1)))).bind fun t46 => if t46 = true then (impl_leastBounded.l0 ((nB g (e + 1) : Nat) : Int) (y0.drop (nB g (e + 1))) ((y0.drop (nB g (e + 1))).length : Int) 0 m u 0 m (e : Int) [] p []) else (some (0, [], false)) := by
    clear h5
    rw [impl_leastBounded.f_eq, w, if_neg (by omega), h1, Option.bind_some, hcl, Option.bind_some, Int.toNat_natCast]
    (with_reducible repeat (first | refine go_pos (by first | assumption | omega | rfl | exact B_pos (by omega)) ?_ | refine go_neg (by first | assumption | omega | decide | exact B_not (by omega)) ?_ | refine go_bind (by first | assumption) ?_ | dsimp only))
    rw [Int.toNat_natCast, show (if 0 ≤ ((nB g (e + 1) : Nat) : Int) then if ((nB g (e + 1) : Nat) : Int) ≤ (y0.length : Int) then impl_leastBounded.l0 ((nB g (e + 1) : Nat) : Int) (y0.drop (nB g (e + 1))) ((y0.drop (nB g (e + 1))).length : Int) 0 m u 0 m (e : Int) [] p [] else none else none) = impl_leastBounded.l0 ((nB g (e + 1) : Nat) : Int) (y0.drop (nB g (e + 1))) ((y0.drop (nB g (e + 1))).length : Int) 0 m u 0 m (e : Int) [] p [] by rw [if_pos (by omega), if_pos (by omega)]]
  rw [start]
  by_cases hb : Sp m (nB g (e + 1)) (bdG g m u (e + 1)) (V v)
  rotate_left
  · rw [B_neg hb] at h5
    exact .inr ⟨hb, by ((with_reducible repeat (first | refine go_pos (by first | assumption | omega | rfl | exact B_pos (by omega)) ?_ | refine go_neg (by first | assumption | omega | decide | exact B_not (by omega)) ?_ | refine go_bind (by first | assumption) ?_ | dsimp only)); first | done | (with_reducible rfl) | simp (disch := omega) only [w64] | (show False; done))⟩
  rw [B_pos hb] at h5
  refine .inl ⟨hb, ?_⟩
  obtain ⟨r, hr⟩ : ∃ r, r = y0.drop (nB g (e + 1)) := ⟨_, rfl⟩
  have rdl : r.length = nB g e := by rw [hr, List.length_drop]; omega
  have rin : AllIn m r := by rw [hr]; exact h4.ent.drop _
  have nl := negL_length m r
  have hq := rowsFrom_lead (show 0 < m by omega) hM
  obtain ⟨yf, h6, h7⟩ := least_ m2 m12 (W := nB g e) (by omega) hq (e : Int) (by rw [nl, rdl]) (negL_in (by omega) r)
  have hp := part_ (m := m) (A := nB g (e + 1)) (B := nB g e) (by omega) (by omega) hM.tab
  have l2 : ∀ x : Int, ([x] : List Int).length = 1 := fun _ => rfl
  have loop := up r.length (fun i => impl_leastBounded.l0 ((nB g (e + 1) : Nat) : Int) r (r.length : Int) (i : Int) m u 0 m (e : Int) [] p ((negL m r).take i)) (fun i hi => by
    obtain ⟨a0, a1⟩ := rin i (by omega) (by omega)
    have ek : (wrapI (m - rd r (i : Int))).tmod m = (0 - rd r (i : Int)) % m := by
      rw [w64 (by omega) (by omega), tmod_nn (by omega), show m - rd r (i : Int) = m + (0 - rd r (i : Int)) by omega, Int.add_emod_left]
    have tk : ((negL m r).take i).length = i := by rw [List.length_take]; omega
    rw [take_rd (by omega), negL_rd hi, impl_leastBounded.l0_eq, wn (j := i) (by omega), ek]
    (with_reducible repeat (first | refine go_pos (by first | assumption | omega | rfl | exact B_pos (by omega)) ?_ | refine go_neg (by first | assumption | omega | decide | exact B_not (by omega)) ?_ | refine go_bind (by first | assumption) ?_ | dsimp only))
    rw [l2]
    ((with_reducible repeat (first | refine go_pos (by first | assumption | omega | rfl | exact B_pos (by omega)) ?_ | refine go_neg (by first | assumption | omega | decide | exact B_not (by omega)) ?_ | refine go_bind (by first | assumption) ?_ | dsimp only)); first | done | (with_reducible rfl) | simp (disch := omega) only [w64] | (show False; done)))
  simp only [Int.natCast_zero, List.take_zero] at loop
  rw [List.take_of_length_le (by omega)] at loop
  refine ⟨yf, ?_, lb_of (by omega) hM vl yl h4.dif (fun i hi => ?_) (by rw [← hr]; exact h7)⟩
  · rw [← hr]
    (with_reducible repeat (first | refine go_pos (by first | assumption | omega | rfl | exact B_pos (by omega)) ?_ | refine go_neg (by first | assumption | omega | decide | exact B_not (by omega)) ?_ | refine go_bind (by first | assumption) ?_ | dsimp only))
    rw [loop, impl_leastBounded.l0_eq]
    ((with_reducible repeat (first | refine go_pos (by first | assumption | omega | rfl | exact B_pos (by omega)) ?_ | refine go_neg (by first | assumption | omega | decide | exact B_not (by omega)) ?_ | refine go_bind (by first | assumption) ?_ | dsimp only)); first | done | (with_reducible rfl) | simp (disch := omega) only [w64] | (show False; done))
  · have := hzi.2 hb (i : Int) (by omega) (by omega)
    rwa [rd_take hi] at this
theorem LeastBounded_ {g : List (List Int)} (hg : Grp g) {m : Int} {u : List Int} (hm : Mdl g m u) {e : Nat} {v : List Int} (hc : Co g m ((e + 1 : Nat) : Int) v) (hG : spec_l04Given.f g m u false [(((e + 1 : Nat) : Int), v)] = some 0) :
    (Sp m (nB g (e + 1)) (bdG g m u (e + 1)) (V v) ∧ ∃ y, spec_LeastBounded.f g m u ((e + 1 : Nat) : Int) v = some ((e : Int), y, 0) ∧ LB g m u e v y) ∨
    (¬ Sp m (nB g (e + 1)) (bdG g m u (e + 1)) (V v) ∧ spec_LeastBounded.f g m u ((e + 1 : Nat) : Int) v = some (0, [], 5)) := by
  have m2 := hm.m2; have m12 := hm.m12
  have he := hc.1.2
  have vl := hc.nB hg
  obtain ⟨b1, b2⟩ := nA_bd hg (e := e) (by omega)
  obtain ⟨c1, c2⟩ := nA_bd hg (e := e + 1) (by omega)
  obtain ⟨p, h1, hM⟩ := Split_ hg hm (n := e) (by omega)
  have hM : Lead m (nB g (e + 1) + nB g e) p (allM g m u e) := hM
  have pl := hM.tab.len
  have w : wrapI (((e + 1 : Nat) : Int) - 1) = (e : Int) := by rw [w64 (by omega) (by omega)]; omega
  have fl : (rowsFrom p (nB g (e + 1)) (nB g e)).length = nB g e := by simp [rowsFrom]
  have hOwn := Own_ v (by omega)
  have zl : (List.replicate (nB g e) (0 : Int)).length = nB g e := List.length_replicate
  have rl : (v ++ List.replicate (nB g e) (0 : Int)).length = nB g (e + 1) + nB g e := by rw [List.length_append, zl, vl]
  have ra : AllIn m (v ++ List.replicate (nB g e) (0 : Int)) := hc.2.2.append (zeros_in (by omega) _)
  have start : spec_LeastBounded.f g m u ((e + 1 : Nat) : Int) v = spec_LeastBounded.l0 ((nB g (e + 1) : Nat) : Int) 0 m u ((e + 1 : Nat) : Int) v 0 (rowsFrom p (nB g (e + 1)) (nB g e)) p (v ++ List.replicate (nB g e) 0) := by
    rw [spec_LeastBounded.f_eq, w, hG, Option.bind_some, if_pos rfl, if_neg (by omega), h1, Option.bind_some, hOwn, Option.bind_some, fl, Int.toNat_natCast, vl]
    ((with_reducible repeat (first | refine go_pos (by first | assumption | omega | rfl | exact B_pos (by omega)) ?_ | refine go_neg (by first | assumption | omega | decide | exact B_not (by omega)) ?_ | refine go_bind (by first | assumption) ?_ | dsimp only)); first | done | (with_reducible rfl) | simp (disch := omega) only [w64] | (show False; done))
  rw [start]
  obtain ⟨A, hA⟩ : ∃ A, A = nB g (e + 1) := ⟨_, rfl⟩
  have key : ∀ k, k ≤ nB g (e + 1) → (∃ y t, spec_LeastBounded.l0 ((nB g (e + 1) : Nat) : Int) 0 m u ((e + 1 : Nat) : Int) v 0 (rowsFrom p (nB g (e + 1)) (nB g e)) p (v ++ List.replicate (nB g e) 0) = spec_LeastBounded.l0 ((nB g (e + 1) : Nat) : Int) (k : Int) m u ((e + 1 : Nat) : Int) v 0 (rowsFrom p (nB g (e + 1)) (nB g e)) p y ∧ Least0 m (nB g (e + 1) + nB g e) k p (allM g m u e) (v ++ List.replicate (nB g e) 0) y t ∧ ∀ i : Nat, i < k → rd y (i : Int) = 0) ∨
      (¬ Sp m (nB g (e + 1)) (bdG g m u (e + 1)) (V v) ∧ spec_LeastBounded.l0 ((nB g (e + 1) : Nat) : Int) 0 m u ((e + 1 : Nat) : Int) v 0 (rowsFrom p (nB g (e + 1)) (nB g e)) p (v ++ List.replicate (nB g e) 0) = some (0, [], 5)) := by
    intro k
    induction k with
    | zero => exact fun _ => .inl ⟨_, _, rfl, Least0.begin hM rl ra, fun i hi => by omega⟩
    | succ k ih =>
      intro hk
      rcases ih (by omega) with ⟨y, t, h2, h3, h4⟩ | h
      rotate_left
      · exact .inr h
      have yl := h3.len
      obtain ⟨y0, y1⟩ := h3.ent k (by omega) (by omega)
      have round : ∃ y' t', spec_LeastBounded.l0 ((nB g (e + 1) : Nat) : Int) (k : Int) m u ((e + 1 : Nat) : Int) v 0 (rowsFrom p (nB g (e + 1)) (nB g e)) p y = spec_LeastBounded.j1 ((nB g (e + 1) : Nat) : Int) (k : Int) m u ((e + 1 : Nat) : Int) v 0 (rowsFrom p (nB g (e + 1)) (nB g e)) p y' ∧ Least0 m (nB g (e + 1) + nB g e) (k + 1) p (allM g m u e) (v ++ List.replicate (nB g e) 0) y' t' ∧ ∀ i : Nat, i < k → rd y' (i : Int) = 0 := by
        by_cases hr : row p (k : Int) = []
        · have e0 : ¬ ((row p (k : Int)).length : Int) > 0 := by rw [hr]; simp
          refine ⟨y, t, ?_, h3.skip (by omega) hr, h4⟩
          rw [spec_LeastBounded.l0_eq]
          ((with_reducible repeat (first | refine go_pos (by first | assumption | omega | rfl | exact B_pos (by omega)) ?_ | refine go_neg (by first | assumption | omega | decide | exact B_not (by omega)) ?_ | refine go_bind (by first | assumption) ?_ | dsimp only)); first | done | (with_reducible rfl) | simp (disch := omega) only [w64] | (show False; done))
        · have e0 : ((row p (k : Int)).length : Int) > 0 := by have := List.length_pos_iff.2 hr; omega
          have hP := hM.tab.prow (show k < nB g (e + 1) + nB g e by omega) hr
          have pl' := hP.len
          have p0 := hP.pos
          have hT : T p (k : Int) (k : Int) = rd (row p (k : Int)) (k : Int) := rfl
          have d0 : 0 ≤ rd y (k : Int) / rd (row p (k : Int)) (k : Int) := Int.ediv_nonneg y0 (by omega)
          have d1 : rd y (k : Int) / rd (row p (k : Int)) (k : Int) ≤ rd y (k : Int) := Int.ediv_le_self _ y0
          have e1 : wrapI (Int.tdiv (rd y (k : Int)) (rd (row p (k : Int)) (k : Int))) = rd y (k : Int) / rd (row p (k : Int)) (k : Int) := by rw [tdiv_nn y0]; exact w64 (by omega) (by omega)
          have hne : ¬ rd (row p (k : Int)) (k : Int) = 0 := by omega
          have hcx := Mix_ m2 m12 (x := 1) (y := -(rd y (k : Int) / rd (row p (k : Int)) (k : Int))) h3.ent hP.ent (by omega) (by omega) (by omega) (by omega) (by omega) (by omega)
          have e2 : wrapI (0 - rd y (k : Int) / rd (row p (k : Int)) (k : Int)) = -(rd y (k : Int) / rd (row p (k : Int)) (k : Int)) := by rw [w64 (by omega) (by omega)]; omega
          refine ⟨_, _, ?_, h3.take m2 m12 hM (by omega) hr, fun i hi => ?_⟩
          · rw [spec_LeastBounded.l0_eq, hT, e1, e2]
            ((with_reducible repeat (first | refine go_pos (by first | assumption | omega | rfl | exact B_pos (by omega)) ?_ | refine go_neg (by first | assumption | omega | decide | exact B_not (by omega)) ?_ | refine go_bind (by first | assumption) ?_ | dsimp only)); first | done | (with_reducible rfl) | simp (disch := omega) only [w64] | (show False; done))
          · rw [mix_rd (by omega), h4 i hi, hP.zero i hi]; simp
      obtain ⟨y', t', r1, r2, r3⟩ := round
      have yl' := r2.len
      obtain ⟨z0, z1⟩ := r2.ent k (by omega) (by omega)
      rw [h2, r1]
      by_cases hz : rd y' (k : Int) = 0
      · refine .inl ⟨y', t', ?_, r2, fun i hi => ?_⟩
        · rw [spec_LeastBounded.j1_eq, wn (j := k) (by omega)]
          ((with_reducible repeat (first | refine go_pos (by first | assumption | omega | rfl | exact B_pos (by omega)) ?_ | refine go_neg (by first | assumption | omega | decide | exact B_not (by omega)) ?_ | refine go_bind (by first | assumption) ?_ | dsimp only)); first | done | (with_reducible rfl) | simp (disch := omega) only [w64] | (show False; done))
        · by_cases q : i = k
          · rw [q]; exact hz
          · exact r3 i (by omega)
      · refine .inr ⟨fun hb => ?_, ?_⟩
        · exact nz_not (by omega) hM (v := v) (fun i hi => rd_app_left (by omega)) r2.dif (show k < nB g (e + 1) by omega) r3 (by omega) (r2.lt k (by omega)) ((bound_iff (by omega) hM (V v)).2 hb)
        · rw [spec_LeastBounded.j1_eq]
          ((with_reducible repeat (first | refine go_pos (by first | assumption | omega | rfl | exact B_pos (by omega)) ?_ | refine go_neg (by first | assumption | omega | decide | exact B_not (by omega)) ?_ | refine go_bind (by first | assumption) ?_ | dsimp only)); first | done | (with_reducible rfl) | simp (disch := omega) only [w64] | (show False; done))
  rcases key _ (Nat.le_refl _) with ⟨y0, t, h2, h3, h4⟩ | h
  rotate_left
  · exact .inr h
  have yl := h3.len
  refine .inl ⟨(bound_iff (by omega) hM (V v)).1 ⟨_, h3.dif, fun i hi => dvd_same ?_⟩, ?_⟩
  · rw [h4 i hi, rd_app_left (by omega)]
    show _ = rd v (i : Int)
    omega
  obtain ⟨r, hr⟩ : ∃ r, r = y0.drop (nB g (e + 1)) := ⟨_, rfl⟩
  have rdl : r.length = nB g e := by rw [hr, List.length_drop]; omega
  have rin : AllIn m r := by rw [hr]; exact h3.ent.drop _
  have nl := negL_length m r
  have hq := rowsFrom_lead (show 0 < m by omega) hM
  obtain ⟨yf, h6, h7⟩ := Less_ m2 m12 (W := nB g e) (by omega) hq (by rw [nl, rdl]) (negL_in (by omega) r)
  have l2 : ∀ x : Int, ([x] : List Int).length = 1 := fun _ => rfl
  have loop := up r.length (fun i => spec_LeastBounded.l2 ((nB g (e + 1) + i : Nat) : Int) m u ((e + 1 : Nat) : Int) v 0 (rowsFrom p (nB g (e + 1)) (nB g e)) y0 ((negL m r).take i)) (fun i hi => by
    obtain ⟨a0, a1⟩ := rin i (by omega) (by omega)
    have er : rd y0 ((nB g (e + 1) + i : Nat) : Int) = rd r (i : Int) := by rw [hr, rd_drop]
    have hMd := Mod_ (a := 0 - rd r (i : Int)) (m := m) (by omega) (by omega) (by omega) (by omega)
    have tk : ((negL m r).take i).length = i := by rw [List.length_take]; omega
    rw [take_rd (by omega), negL_rd hi, show nB g (e + 1) + (i + 1) = nB g (e + 1) + i + 1 from rfl, spec_LeastBounded.l2_eq, wn (j := nB g (e + 1) + i) (by omega), er, w64 (x := 0 - rd r (i : Int)) (by omega) (by omega)]
    (with_reducible repeat (first | refine go_pos (by first | assumption | omega | rfl | exact B_pos (by omega)) ?_ | refine go_neg (by first | assumption | omega | decide | exact B_not (by omega)) ?_ | refine go_bind (by first | assumption) ?_ | dsimp only))
    rw [l2]
    ((with_reducible repeat (first | refine go_pos (by first | assumption | omega | rfl | exact B_pos (by omega)) ?_ | refine go_neg (by first | assumption | omega | decide | exact B_not (by omega)) ?_ | refine go_bind (by first | assumption) ?_ | dsimp only)); first | done | (with_reducible rfl) | simp (disch := omega) only [w64] | (show False; done)))
  rw [Nat.add_zero, List.take_zero, List.take_of_length_le (by omega)] at loop
  refine ⟨yf, ?_, lb_of (by omega) hM vl yl h3.dif h4 (by rw [← hr]; exact h7)⟩
  rw [h2, spec_LeastBounded.l0_eq]
  (with_reducible repeat (first | refine go_pos (by first | assumption | omega | rfl | exact B_pos (by omega)) ?_ | refine go_neg (by first | assumption | omega | decide | exact B_not (by omega)) ?_ | refine go_bind (by first | assumption) ?_ | dsimp only))
  rw [loop, spec_LeastBounded.l2_eq, w]
  ((with_reducible repeat (first | refine go_pos (by first | assumption | omega | rfl | exact B_pos (by omega)) ?_ | refine go_neg (by first | assumption | omega | decide | exact B_not (by omega)) ?_ | refine go_bind (by first | assumption) ?_ | dsimp only)); first | done | (with_reducible rfl) | simp (disch := omega) only [w64] | (show False; done))
end Go.Proofs.Ytpppnoliogdkiaa.V
set_option linter.unusedVariables false
set_option linter.unusedSimpArgs false
set_option maxHeartbeats 2000000
set_option maxRecDepth 20000
namespace Go.Proofs.Ytpppnoliogdkiaa.V
open Go.RowKit Go.Proofs.Ytpppnoliogdkiaa.D Go.Proofs.Ytpppnoliogdkiaa.P
theorem same_LeastBounded (g : List (List Int)) (m : Int) (u : List Int) (d : Int) (v : List Int) (hl : g.length ≤ maxLen) (hr : ∀ r ∈ g, r.length ≤ maxLen) (hu : u.length ≤ maxLen) (hv : v.length ≤ maxLen) :
    ∃ (a : Int) (R : List Int) (c : Int), spec_LeastBounded.f g m u d v = some (a, R, c) ∧ impl_LeastBounded.f g m u d v = some (a, R, c) ∧ R.length ≤ 1048576 := by
  rcases bounding1 hl hr m u hu d v hv with ⟨k, rfl, k3, hg, hm, hc, hb, cI, cS⟩ | ⟨c, c0, cI, cS⟩
  rotate_left
  · exact ⟨0, [], c, by rw [spec_LeastBounded.f_eq]; ((with_reducible repeat (first | refine go_pos (by first | assumption | omega | rfl | exact B_pos (by omega)) ?_ | refine go_neg (by first | assumption | omega | decide | exact B_not (by omega)) ?_ | refine go_bind (by first | assumption) ?_ | dsimp only)); first | done | (with_reducible rfl) | simp (disch := omega) only [w64] | (show False; done)), by rw [impl_LeastBounded.f_eq]; ((with_reducible repeat (first | refine go_pos (by first | assumption | omega | rfl | exact B_pos (by omega)) ?_ | refine go_neg (by first | assumption | omega | decide | exact B_not (by omega)) ?_ | refine go_bind (by first | assumption) ?_ | dsimp only)); first | done | (with_reducible rfl) | simp (disch := omega) only [w64] | (show False; done)), by simp⟩
  cases k with
  | zero =>
    have h0 : impl_leastBounded.f g m u ((0 : Nat) : Int) v = some (0, [], false) := leastBounded0 g m u v
    exact ⟨0, [], 5, by rw [spec_LeastBounded.f_eq]; ((with_reducible repeat (first | refine go_pos (by first | assumption | omega | rfl | exact B_pos (by omega)) ?_ | refine go_neg (by first | assumption | omega | decide | exact B_not (by omega)) ?_ | refine go_bind (by first | assumption) ?_ | dsimp only)); first | done | (with_reducible rfl) | simp (disch := omega) only [w64] | (show False; done)), by rw [impl_LeastBounded.f_eq]; ((with_reducible repeat (first | refine go_pos (by first | assumption | omega | rfl | exact B_pos (by omega)) ?_ | refine go_neg (by first | assumption | omega | decide | exact B_not (by omega)) ?_ | refine go_bind (by first | assumption) ?_ | dsimp only)); first | done | (with_reducible rfl) | simp (disch := omega) only [w64] | (show False; done)), by simp⟩
  | succ e =>
    have m2 := hm.m2
    have vl := hc.nB hg
    obtain ⟨b1, b2⟩ := nA_bd hg (e := e) (by omega)
    obtain ⟨q, _, hq⟩ := cocycles_ hg hm (n := e) (by omega)
    rcases leastBounded_ hg hm hc with ⟨hb1, y, i1, i2⟩ | ⟨hb1, i1⟩ <;> rcases LeastBounded_ hg hm hc cS with ⟨hb2, y', s1, s2⟩ | ⟨hb2, s1⟩
    · have e1 := i2.same (by omega) vl hq s2
      subst e1
      have := i2.len
      exact ⟨(e : Int), y, 0, s1, by rw [impl_LeastBounded.f_eq]; ((with_reducible repeat (first | refine go_pos (by first | assumption | omega | rfl | exact B_pos (by omega)) ?_ | refine go_neg (by first | assumption | omega | decide | exact B_not (by omega)) ?_ | refine go_bind (by first | assumption) ?_ | dsimp only)); first | done | (with_reducible rfl) | simp (disch := omega) only [w64] | (show False; done)), by omega⟩
    · exact absurd hb1 hb2
    · exact absurd hb2 hb1
    · exact ⟨0, [], 5, s1, by rw [impl_LeastBounded.f_eq]; ((with_reducible repeat (first | refine go_pos (by first | assumption | omega | rfl | exact B_pos (by omega)) ?_ | refine go_neg (by first | assumption | omega | decide | exact B_not (by omega)) ?_ | refine go_bind (by first | assumption) ?_ | dsimp only)); first | done | (with_reducible rfl) | simp (disch := omega) only [w64] | (show False; done)), by simp⟩
end Go.Proofs.Ytpppnoliogdkiaa.V
set_option linter.unusedVariables false
set_option linter.unusedSimpArgs false
set_option maxHeartbeats 4000000
set_option maxRecDepth 20000
namespace Go.Proofs.Ytpppnoliogdkiaa.Pure
open Go.RowKit Go.Proofs.Ytpppnoliogdkiaa.D Go.Proofs.Ytpppnoliogdkiaa.P Go.Proofs.Ytpppnoliogdkiaa.V
theorem FnExactLeastBounded_pure : ∀ (g0 : List (List Int)) (m1 : Int) (u1 : List Int) (m2 : Int) (u2 : List Int), g0.length ≤ maxLen → (∀ r ∈ g0, r.length ≤ maxLen ∧ ∀ x ∈ r, (Lit.int .i64 x).wf = true) → (Lit.int .i64 m1).wf = true → u1.length ≤ maxLen → (∀ x ∈ u1, (Lit.int .i64 x).wf = true) → (Lit.int .i64 m2).wf = true → u2.length ≤ maxLen → (∀ x ∈ u2, (Lit.int .i64 x).wf = true) → laws_FnExactLeastBounded.f g0 m1 u1 m2 u2 = some true := by
  intro g0 m1 u1 m2 u2 hl0 hq0 hw1 hu1 hx1 hw2 hu2 hx2
  have hr0 : ∀ r ∈ g0, r.length ≤ maxLen := fun r h => (hq0 r h).1
  rw [laws_FnExactLeastBounded.f_eq]
  obtain ⟨t0, e0, z0⟩ := szGroup g0 1048576 hl0 hr0 (by omega) (by omega)
  rcases z0 with z0 | ⟨ta0, tb0, kl0, kr0⟩
  · ((with_reducible repeat (first | refine go_pos (by first | assumption | omega | rfl | exact B_pos (by omega)) ?_ | refine go_neg (by first | assumption | omega | decide | exact B_not (by omega)) ?_ | refine go_bind (by first | assumption) ?_ | dsimp only)); first | done | (with_reducible rfl) | simp (disch := omega) only [w64] | (show False; done))
  obtain ⟨t1, e1, z1⟩ := szModule m1 u1 t0 hu1 (by omega) (by omega)
  rcases z1 with z1 | ⟨ta1, tb1, ku1⟩
  · ((with_reducible repeat (first | refine go_pos (by first | assumption | omega | rfl | exact B_pos (by omega)) ?_ | refine go_neg (by first | assumption | omega | decide | exact B_not (by omega)) ?_ | refine go_bind (by first | assumption) ?_ | dsimp only)); first | done | (with_reducible rfl) | simp (disch := omega) only [w64] | (show False; done))
  obtain ⟨t2, e2, z2⟩ := szCochain m2 u2 t1 hu2 (by omega) (by omega)
  rcases z2 with z2 | ⟨ta2, tb2, ku2⟩
  · ((with_reducible repeat (first | refine go_pos (by first | assumption | omega | rfl | exact B_pos (by omega)) ?_ | refine go_neg (by first | assumption | omega | decide | exact B_not (by omega)) ?_ | refine go_bind (by first | assumption) ?_ | dsimp only)); first | done | (with_reducible rfl) | simp (disch := omega) only [w64] | (show False; done))
  obtain ⟨c0, R0, c1, hS, hI, rb0⟩ := same_LeastBounded g0 m1 u1 m2 u2 hl0 hr0 hu1 hu2
  have eT0 := toGroup g0 kl0 kr0
  have eS0 := same_Group g0 hl0 hr0
  have eN0 := tot_small kl0 kr0
  have eK0 := markGroup g0 (1) (by omega) (by omega) (by omega)
  have eT1 := toModule m1 u1 ku1
  have eS1 := same_Module m1 u1 hu1
  have eK1 := markModule m1 u1 (1 + tot g0) (by omega) (by omega)
  have eT2 := toCochain m2 u2 ku2
  have eS2 := same_Cochain m2 u2 hu2
  have eK2 := markCochain m2 u2 (1 + tot g0 + u1.length) (by omega) (by omega)
  have rS0 := same_Cochain c0 R0 (le_maxLen (by omega))
  have rK0 := markCochain c0 R0 (1) (by omega) (by omega)
  have rH0 := heldCochain c0 (1) R0.length (by omega) (by omega)
  ((with_reducible repeat (first | refine go_pos (by first | assumption | omega | rfl | exact B_pos (by omega)) ?_ | refine go_neg (by first | assumption | omega | decide | exact B_not (by omega)) ?_ | refine go_bind (by first | assumption) ?_ | dsimp only)); first | done | (with_reducible rfl) | simp (disch := omega) only [w64] | (show False; done))
end Go.Proofs.Ytpppnoliogdkiaa.Pure
namespace Go.Proofs.Ytpppnoliogdkiaa.shut
theorem mayEnter : Try.pinned.checked.prog.mayEnter = true := by kernel_rfl
theorem lifted : (Rows.fnExactBoundingStepsRow.lifted == Try.pinned.checked.prog.liftsFinal) = true := by kernel_rfl
theorem make : (Try.pinned.checked.prog.make == some Rows.fnExactBoundingStepsRow.make) = true := by kernel_rfl
end Go.Proofs.Ytpppnoliogdkiaa.shut
