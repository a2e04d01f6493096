/- What the proof of the law Pairs stands on, part 9: words, each Go function's Lean function, and that the Go code comes to its answers; no condition. (Packed by wip/myprint/pack.py out of what the kit's printer wrote, its words among it, partly by our patches of it, and out of texts of this session.) -/
import Derived.Sort.LotA
import Derived.Sort.LotB
import Derived.Sort.LotC
import Derived.Sort.LotD3
import Derived.Lib.ItoaNum
import Derived.Test.YthmcpmnhdbeahaaGreatKPairs3
import Derived.Test.YthmcpmnhdbeahaaGreatKPairs4
import Derived.Test.YthmcpmnhdbeahaaGreatKPairs5
import Derived.Test.YthmcpmnhdbeahaaGreatKPairs7
import Derived.Test.YthmcpmnhdbeahaaGreatKPairs8
set_option linter.unusedVariables false
set_option linter.unusedSimpArgs false
set_option maxHeartbeats 4000000
set_option maxRecDepth 20000
namespace Go.Proofs.YthmcpmnhdbeahaaGreat.V
open Go Go.RowKit Go.Proofs.YthmcpmnhdbeahaaGreat.D Go.Proofs.YthmcpmnhdbeahaaGreat.P
theorem rdR {xs : List Value} (i : Nat) : Ty.rd .raw xs (i : Int) = hd xs i := by
 show xs.getD ((i : Int)).toNat _ = _
 rw [Int.toNat_natCast]
 rfl
noncomputable def cix (E : Nat → Prop) : Nat → List Nat
 | 0 => []
 | n + 1 => ite_ (0 < n ∧ E n) (cix E n) (cix E n ++ [n])
theorem cix_pos {E : Nat → Prop} {n : Nat} (h0 : 0 < n) (h : E n) : cix E (n + 1) = cix E n := by
 conv => lhs; unfold cix
 rw [ite_pos ⟨h0, h⟩]
theorem cix_neg {E : Nat → Prop} {n : Nat} (h : ¬ (0 < n ∧ E n)) : cix E (n + 1) = cix E n ++ [n] := by
 conv => lhs; unfold cix
 rw [ite_neg h]
theorem cix_len (E : Nat → Prop) : ∀ n, (cix E n).length ≤ n ∧ (0 < n → 0 < (cix E n).length) := by
 intro n
 induction n with
 | zero => simp [cix]
 | succ n ih =>
  by_cases h : 0 < n ∧ E n
  ·
   rw [cix_pos h.1 h.2]; exact ⟨by omega, fun _ => ih.2 h.1⟩
  ·
   rw [cix_neg h, List.length_append, List.length_singleton]; exact ⟨by omega, fun _ => by omega⟩
theorem cix_lt (E : Nat → Prop) : ∀ n, ∀ i ∈ cix E n, i < n := by
 intro n
 induction n with
 | zero => simp [cix]
 | succ n ih =>
  intro i hi
  by_cases h : 0 < n ∧ E n
  ·
   rw [cix_pos h.1 h.2] at hi; have := ih i hi; omega
  ·
   rw [cix_neg h] at hi
   rcases List.mem_append.1 hi with hi | hi
   ·
    have := ih i hi; omega
   ·
    rw [List.mem_singleton.1 hi]; omega
theorem cix_nodup (E : Nat → Prop) : ∀ n, (cix E n).Nodup := by
 intro n
 induction n with
 | zero => simp [cix]
 | succ n ih =>
  by_cases h : 0 < n ∧ E n
  ·
   rw [cix_pos h.1 h.2]; exact ih
  ·
   rw [cix_neg h, List.nodup_append]
   refine ⟨ih, by simp, fun a ha b hb => ?_⟩
   rw [List.mem_singleton.1 hb]
   have := cix_lt E n a ha
   omega
theorem hd_take {xs : List Value} {m : Nat} (h : m < xs.length) : xs.take (m + 1) = xs.take m ++ [hd xs m] := by
 rw [List.take_add_one, hd_get h]
 rfl
theorem hd_set_ne {xs : List Value} {i j : Nat} {v : Value} (h : i ≠ j) : hd (xs.set i v) j = hd xs j := by
 unfold hd
 rw [List.getD_eq_getElem?_getD, List.getElem?_set_ne h, ← List.getD_eq_getElem?_getD]
theorem compactR {Q : Value → Value → Option Bool} {xs : List Value} {E : Nat → Prop} (hQ : ∀ i, 0 < i → i < xs.length → Q (hd xs i) (hd xs (i - 1)) = some (B (E i))) (hN : xs.length ≤ 1000000) : _root_.Go.Proofs.YthmcpmnhdbeahaaGreat.R.slices_CompactFunc_int64.f xs Q = some ((cix E xs.length).map (hd xs)) := by
 have inner : ∀ (n b k2 : Nat) (r : List Value), b + k2 + n = xs.length → 0 < b → 0 < k2 → r.length = xs.length → (cix E (b + k2)).length ≤ b + k2 - 1 → r.take (cix E (b + k2)).length = (cix E (b + k2)).map (hd xs) → (∀ i : Nat, b + k2 - 1 ≤ i → i < xs.length → hd r i = hd xs i) →
   _root_.Go.Proofs.YthmcpmnhdbeahaaGreat.R.slices_CompactFunc_int64.l1 Q (((cix E (b + k2)).length : Nat) : Int) b (k2 : Int) r = some ((cix E xs.length).map (hd xs)) := by
  intro n
  induction n with
  | zero =>
   intro b k2 r hb b0 k0 hr hc ht hs
   have e : b + k2 = xs.length := by omega
   have ek : ((r.length - b : Nat) : Int) = (k2 : Int) := by omega
   have tl : (r.take (cix E (b + k2)).length ++ List.replicate (r.length - (cix E (b + k2)).length) (Value.slice none 0 0)).length = r.length := by
    rw [List.length_append, List.length_take, List.length_replicate]; omega
   rw [_root_.Go.Proofs.YthmcpmnhdbeahaaGreat.R.slices_CompactFunc_int64.l1_eq, Int.toNat_natCast]
   (with_reducible repeat (first | refine go_pos (by first | assumption | omega | rfl | exact B_pos (by omega)) ?_ | refine go_neg (by first | assumption | omega | decide | exact B_not (by omega)) ?_ | refine go_bind (by first | assumption) ?_ | dsimp only))
   rw [List.take_append_of_le_length (by rw [List.length_take]; omega), List.take_take, Nat.min_self, ht, e]
  | succ n ih =>
   intro b k2 r hb b0 k0 hr hc ht hs
   have w1 : wrapI ((k2 : Int) - 1) = ((k2 - 1 : Nat) : Int) := by rw [w64 (by omega) (by omega)]; omega
   have e1 : (b : Int) + (k2 : Int) = ((b + k2 : Nat) : Int) := by omega
   have e2 : (b : Int) + ((k2 - 1 : Nat) : Int) = ((b + k2 - 1 : Nat) : Int) := by omega
   have r1 : Ty.rd .raw r ((b + k2 : Nat) : Int) = hd xs (b + k2) := (rdR _).trans (hs (b + k2) (by omega) (by omega))
   have r2 : Ty.rd .raw r ((b + k2 - 1 : Nat) : Int) = hd xs (b + k2 - 1) := (rdR _).trans (hs (b + k2 - 1) (by omega) (by omega))
   have hq := hQ (b + k2) (by omega) (by omega)
   have cl := cix_len E (b + k2)
   have kl : ((r.length - b : Nat) : Int) = ((xs.length - b : Nat) : Int) := by rw [hr]
   by_cases h : E (b + k2)
   ·
    rw [B_pos h] at hq
    have ec : cix E (b + (k2 + 1)) = cix E (b + k2) := cix_pos (n := b + k2) (by omega) h
    have := ih b (k2 + 1) r (by omega) b0 (by omega) hr (by rw [ec]; omega) (by rw [ec]; exact ht) (fun i hi => hs i (by omega))
    rw [ec] at this
    rw [_root_.Go.Proofs.YthmcpmnhdbeahaaGreat.R.slices_CompactFunc_int64.l1_eq, w1, wn (j := k2) (by omega), e1, e2, r1, r2]
    (with_reducible repeat (first | refine go_pos (by first | assumption | omega | rfl | exact B_pos (by omega)) ?_ | refine go_neg (by first | assumption | omega | decide | exact B_not (by omega)) ?_ | refine go_bind (by first | assumption) ?_ | dsimp only))
    exact this
   ·
    rw [B_neg h] at hq
    have ec : cix E (b + (k2 + 1)) = cix E (b + k2) ++ [b + k2] := cix_neg (n := b + k2) fun q => h q.2
    have el : (cix E (b + (k2 + 1))).length = (cix E (b + k2)).length + 1 := by rw [ec, List.length_append, List.length_singleton]
    have := ih b (k2 + 1) (r.set (cix E (b + k2)).length (hd xs (b + k2))) (by omega) b0 (by omega) (by rw [List.length_set]; exact hr) (by omega) (by
     rw [el, List.take_succ_eq_append_getElem (by rw [List.length_set]; omega), List.take_set_of_le (Nat.le_refl _), ht, ec]
     simp) (fun i hi hi2 => by rw [hd_set_ne (by omega)]; exact hs i (by omega) hi2)
    rw [el] at this
    rw [_root_.Go.Proofs.YthmcpmnhdbeahaaGreat.R.slices_CompactFunc_int64.l1_eq, w1, wn (j := k2) (by omega), wn (j := (cix E (b + k2)).length) (by omega), e1, e2, r1, r2, Int.toNat_natCast]
    (with_reducible repeat (first | refine go_pos (by first | assumption | omega | rfl | exact B_pos (by omega)) ?_ | refine go_neg (by first | assumption | omega | decide | exact B_not (by omega)) ?_ | refine go_bind (by first | assumption) ?_ | dsimp only))
    exact this
 have outer : ∀ (n k : Nat), k + n = xs.length → 0 < k → cix E k = List.range k → _root_.Go.Proofs.YthmcpmnhdbeahaaGreat.R.slices_CompactFunc_int64.l0 Q (k : Int) xs = some ((cix E xs.length).map (hd xs)) := by
  have hall : ∀ k, k ≤ xs.length → (List.range k).map (hd xs) = xs.take k := by
   intro k
   induction k with
   | zero => intro _; simp
   | succ k ih => intro hk; rw [List.range_succ, List.map_append, ih (by omega), hd_take (by omega)]; rfl
  intro n
  induction n with
  | zero =>
   intro k hk k0 hc
   have hx : (cix E xs.length).map (hd xs) = xs := by
    have : k = xs.length := by omega
    subst this
    rw [hc, hall _ (Nat.le_refl _), List.take_length]
   rw [hx, _root_.Go.Proofs.YthmcpmnhdbeahaaGreat.R.slices_CompactFunc_int64.l0_eq]
   ((with_reducible repeat (first | refine go_pos (by first | assumption | omega | rfl | exact B_pos (by omega)) ?_ | refine go_neg (by first | assumption | omega | decide | exact B_not (by omega)) ?_ | refine go_bind (by first | assumption) ?_ | dsimp only)); first | done | (with_reducible rfl) | simp (disch := omega) only [w64] | (show False; done))
  | succ n ih =>
   intro k hk k0 hc
   have w1 : wrapI ((k : Int) - 1) = ((k - 1 : Nat) : Int) := by rw [w64 (by omega) (by omega)]; omega
   have hq := hQ k k0 (by omega)
   have r1 : Ty.rd .raw xs (k : Int) = hd xs k := rdR _
   have r2 : Ty.rd .raw xs ((k - 1 : Nat) : Int) = hd xs (k - 1) := rdR _
   by_cases h : E k
   ·
    rw [B_pos h] at hq
    have ec : cix E (k + 1) = cix E k := cix_pos k0 h
    have hlk : (cix E (k + 1)).length = k := by rw [ec, hc, List.length_range]
    have := inner n k 1 xs (by omega) k0 (by omega) rfl (by omega) (by rw [hlk, ec, hc, hall k (by omega)]) (fun i _ _ => rfl)
    rw [hlk] at this
    rw [_root_.Go.Proofs.YthmcpmnhdbeahaaGreat.R.slices_CompactFunc_int64.l0_eq, w1, r1, r2]
    (with_reducible repeat (first | refine go_pos (by first | assumption | omega | rfl | exact B_pos (by omega)) ?_ | refine go_neg (by first | assumption | omega | decide | exact B_not (by omega)) ?_ | refine go_bind (by first | assumption) ?_ | dsimp only))
    exact this
   ·
    rw [B_neg h] at hq
    have ec : cix E (k + 1) = cix E k ++ [k] := cix_neg fun q => h q.2
    have := ih (k + 1) (by omega) (by omega) (by rw [ec, hc, List.range_succ])
    rw [_root_.Go.Proofs.YthmcpmnhdbeahaaGreat.R.slices_CompactFunc_int64.l0_eq, w1, wn (j := k) (by omega), r1, r2]
    (with_reducible repeat (first | refine go_pos (by first | assumption | omega | rfl | exact B_pos (by omega)) ?_ | refine go_neg (by first | assumption | omega | decide | exact B_not (by omega)) ?_ | refine go_bind (by first | assumption) ?_ | dsimp only))
    exact this
 have c1 : cix E 1 = [0] := cix_neg (n := 0) fun q => absurd q.1 (Nat.lt_irrefl 0)
 rw [_root_.Go.Proofs.YthmcpmnhdbeahaaGreat.R.slices_CompactFunc_int64.f_eq]
 by_cases h2 : (xs.length : Int) < 2
 ·
  rw [if_pos h2]
  congr 1
  match xs, h2 with
  | [], _ => rfl
  | [x], _ =>
   show [x] = (cix E 1).map (hd [x])
   rw [c1]
   rfl
  | x :: y :: xs, h2 => simp only [List.length_cons] at h2; omega
 ·
  rw [if_neg h2]
  exact outer (xs.length - 1) 1 (by omega) (by omega) c1
theorem perm_sel {hs S : List Value} (h : S.Perm hs) : ∃ sel : List Nat, sel.Perm (List.range hs.length) ∧ S = sel.map (hd hs) := by
 have all : hs = (List.range hs.length).map (hd hs) := by
  apply List.ext_getElem?
  intro i
  by_cases hi : i < hs.length
  ·
   rw [List.getElem?_map, List.getElem?_range hi, hd_get hi]; rfl
  ·
   rw [List.getElem?_eq_none (by omega), List.getElem?_eq_none (by simp; omega)]
 have main : ∀ {A B : List Value}, A.Perm B → ∀ idx : List Nat, B = idx.map (hd hs) → ∃ sel : List Nat, sel.Perm idx ∧ A = sel.map (hd hs) := by
  intro A B hp
  induction hp with
  | nil => intro idx hi; exact ⟨idx, List.Perm.refl _, hi⟩
  | cons x hp ih =>
   intro idx hi
   cases idx with
   | nil => cases hi
   | cons i idx =>
    rw [List.map_cons] at hi
    injection hi with h1 h2
    obtain ⟨sel, s1, s2⟩ := ih idx h2
    exact ⟨i :: sel, s1.cons i, by rw [List.map_cons, h1, s2]⟩
  | swap x y l =>
   intro idx hi
   match idx, hi with
   | i :: j :: idx, hi =>
    rw [List.map_cons, List.map_cons] at hi
    injection hi with h1 h2
    injection h2 with h2 h3
    exact ⟨j :: i :: idx, List.Perm.swap .., by rw [List.map_cons, List.map_cons, h1, h2, h3]⟩
  | trans _ _ ih1 ih2 =>
   intro idx hi
   obtain ⟨s, s1, s2⟩ := ih2 idx hi
   obtain ⟨s', t1, t2⟩ := ih1 s s2
   exact ⟨s', t1.trans s1, t2⟩
 exact main h _ all
theorem sorted_uniq {W : Nat} : ∀ {A B : List (List Int)}, A.Perm B → (∀ r ∈ A, r.length = W) → A.Pairwise (fun r s => ¬ Ll W s r) → B.Pairwise (fun r s => ¬ Ll W s r) → A = B
 | [], B, hp, _, _, _ => (List.nil_perm.1 hp).symm
 | a :: A, [], hp, _, _, _ => by have := hp.length_eq; simp at this
 | a :: A, b :: B, hp, hW, hA, hB => by
  rw [List.pairwise_cons] at hA hB
  have ha : a ∈ b :: B := hp.mem_iff.1 List.mem_cons_self
  have hb : b ∈ a :: A := hp.mem_iff.2 List.mem_cons_self
  have hlb : b.length = W := hW b hb
  have hla : a.length = W := hW a List.mem_cons_self
  have e : a = b := by
   rcases Ll.tri W a b with h | h | h
   ·
    rcases List.mem_cons.1 ha with q | q
    ·
     exact q
    ·
     exact absurd h (hB.1 a q)
   ·
    exact eq_of_all hla hlb h
   ·
    rcases List.mem_cons.1 hb with q | q
    ·
     exact q.symm
    ·
     exact absurd h (hA.1 b q)
  subst e
  rw [sorted_uniq (List.Perm.cons_inv hp) (fun r hr => hW r (List.mem_cons_of_mem _ hr)) hA.2 hB.2]
def Lv (xs : List (List Int)) (hs : List Value) (W : Nat) (u v : Value) : Prop := ∃ i j, i < xs.length ∧ j < xs.length ∧ u = hd hs i ∧ v = hd hs j ∧ Ll W (ct xs i) (ct xs j)
theorem ord_of {W : Nat} {xs : List (List Int)} (hr : ∀ r ∈ xs, r.length = W) {C : List Int → List Int → Option Int} (hC : ∀ x y : List Int, x.length = W → y.length = W → ∃ c : Int, C x y = some c ∧ (c < 0 ↔ Ll W x y)) {hs : List Value} {c' : Value → Value → Option Int}
  (hc : ∀ i j, i < xs.length → j < xs.length → c' (hd hs i) (hd hs j) = C (ct xs i) (ct xs j)) : Ord (fun v => ∃ i, i < xs.length ∧ v = hd hs i) (Lv xs hs W) c' := by
 have hW : ∀ i, i < xs.length → (ct xs i).length = W := fun i hi => hr _ (List.mem_of_getElem? (ct_get hi))
 have key : ∀ i j, i < xs.length → j < xs.length → (Lv xs hs W (hd hs i) (hd hs j) ↔ Ll W (ct xs i) (ct xs j)) := fun i j hi hj => by
  refine ⟨fun ⟨i', j', hi', hj', e1, e2, h⟩ => ?_, fun h => ⟨i, j, hi, hj, rfl, rfl, h⟩⟩
  obtain ⟨c, c1, c2⟩ := hC _ _ (hW i hi) (hW j hj)
  obtain ⟨d, d1, d2⟩ := hC _ _ (hW i' hi') (hW j' hj')
  have := hc i j hi hj
  rw [e1, e2, hc i' j' hi' hj', d1, c1] at this
  cases this
  exact c2.1 (d2.2 h)
 refine ⟨?_, ?_, ?_⟩
 ·
  rintro x y ⟨i, j, hi, hj, rfl, rfl, h⟩ k
  exact h.asymm ((key j i hj hi).1 k)
 ·
  rintro x y z ⟨i, hi, rfl⟩ ⟨j, hj, rfl⟩ ⟨k, hk, rfl⟩ h1 h2
  rw [key j i hj hi] at h1
  rw [key k j hk hj] at h2
  rw [key k i hk hi]
  exact Ll.le_trans (hW i hi) (hW j hj) (hW k hk) h1 h2
 ·
  rintro x y ⟨i, hi, rfl⟩ ⟨j, hj, rfl⟩
  obtain ⟨c, c1, c2⟩ := hC _ _ (hW i hi) (hW j hj)
  exact ⟨c, (hc i j hi hj).trans c1, c2.trans (key i j hi hj).symm⟩
theorem sort_good {f : List Value → (Value → Value → Option Int) → Option (List Value)} {W : Nat} {xs : List (List Int)} (hr : ∀ r ∈ xs, r.length = W) {C : List Int → List Int → Option Int} (hC : ∀ x y : List Int, x.length = W → y.length = W → ∃ c : Int, C x y = some c ∧ (c < 0 ↔ Ll W x y))
  (hf : ∀ (H : Value → Prop) (L : Value → Value → Prop) (c' : Value → Value → Option Int) (hs : List Value), Ord H L c' → hs.length = xs.length → (∀ r ∈ hs, H r) → ∃ S, f hs c' = some S ∧ S.Pairwise (fun r s => ¬ L s r) ∧ S.Perm hs) :
  ∃ ys, G2 f xs C = some ys ∧ ys.Pairwise (fun r s => ¬ Ll W s r) ∧ ys.Perm xs := by
 have one : ∀ (hs : List Value) (c' : Value → Value → Option Int), hs.length = xs.length → (∀ i j, i < xs.length → j < xs.length → c' (hd hs i) (hd hs j) = C (ct xs i) (ct xs j)) → ∃ sel : List Nat, f hs c' = some (sel.map (hd hs)) ∧ sel.Perm (List.range xs.length) ∧ (sel.map (ct xs)).Pairwise (fun r s => ¬ Ll W s r) := by
  intro hs c' hl hc
  have ho := ord_of hr hC hc
  obtain ⟨S, h1, h2, h3⟩ := hf _ _ c' hs ho hl fun v hv => by
   obtain ⟨i, hi, rfl⟩ := List.getElem_of_mem hv
   exact ⟨i, by omega, Option.some.inj ((List.getElem?_eq_getElem hi).symm.trans (hd_get hi))⟩
  obtain ⟨sel, s1, rfl⟩ := perm_sel h3
  rw [hl] at s1
  refine ⟨sel, h1, s1, ?_⟩
  rw [List.pairwise_map] at h2 ⊢
  refine h2.imp_of_mem fun {a b} ha hb h k => h ?_
  have la := List.mem_range.1 (s1.mem_iff.1 ha)
  have lb := List.mem_range.1 (s1.mem_iff.1 hb)
  exact ⟨b, a, lb, la, rfl, rfl, k⟩
 have hall : (List.range xs.length).map (ct xs) = xs := by
  apply List.ext_getElem?
  intro i
  by_cases hi : i < xs.length
  ·
   rw [List.getElem?_map, List.getElem?_range hi, ct_get hi]; rfl
  ·
   rw [List.getElem?_eq_none (by simp; omega), List.getElem?_eq_none (by omega)]
 have perm : ∀ sel : List Nat, sel.Perm (List.range xs.length) → (sel.map (ct xs)).Perm xs := fun sel h => by
  have := h.map (ct xs)
  rwa [hall] at this
 have hlab : (labels xs.length).length = xs.length := by simp [labels]
 obtain ⟨s0, a1, a2, a3⟩ := one (labels xs.length) (lab2 xs C) hlab fun i j hi hj => by
  rw [labels_hd hi, labels_hd hj]
  show C (ct xs ((i : Int)).toNat) (ct xs ((j : Int)).toNat) = _
  rw [Int.toNat_natCast, Int.toNat_natCast]
 refine ⟨s0.map (ct xs), G2_eq fun hs c' hl hc => ?_, a3, perm s0 a2⟩
 obtain ⟨s1, b1, b2, b3⟩ := one hs c' hl hc
 have e : s1.map (ct xs) = s0.map (ct xs) := sorted_uniq ((perm s1 b2).trans (perm s0 a2).symm) (fun r hr' => hr r ((perm s1 b2).mem_iff.1 hr')) b3 a3
 exact ⟨_, b1, s1, (List.Perm.nodup_iff b2).2 List.nodup_range, fun i hi => List.mem_range.1 (b2.mem_iff.1 hi), rfl, e.symm⟩
theorem compact_good {xs : List (List Int)} (hN : xs.length ≤ 1000000) {Q : List Int → List Int → Option Bool} (hQ : ∀ x ∈ xs, ∀ y ∈ xs, Q x y = some (B (x = y))) :
  G2 _root_.Go.Proofs.YthmcpmnhdbeahaaGreat.R.slices_CompactFunc_int64.f xs Q = some ((cix (fun n => ct xs n = ct xs (n - 1)) xs.length).map (ct xs)) := by
 refine G2_eq fun hs c' hl hc => ?_
 have := compactR (Q := c') (xs := hs) (E := fun n => ct xs n = ct xs (n - 1)) (fun i i0 i1 => by
  rw [hc i (i - 1) (by omega) (by omega)]
  exact hQ _ (List.mem_of_getElem? (ct_get (by omega))) _ (List.mem_of_getElem? (ct_get (by omega)))) (by omega)
 rw [hl] at this
 exact ⟨_, this, cix _ xs.length, cix_nodup _ _, cix_lt _ _, rfl, rfl⟩
theorem cix_mem {xs : List (List Int)} (r : List Int) : ∀ n, n ≤ xs.length → (r ∈ (cix (fun n => ct xs n = ct xs (n - 1)) n).map (ct xs) ↔ ∃ i, i < n ∧ r = ct xs i) := by
 intro n
 induction n with
 | zero => intro _; simp [cix]
 | succ n ih =>
  intro hn
  by_cases h : 0 < n ∧ ct xs n = ct xs (n - 1)
  ·
   rw [cix_pos h.1 h.2, ih (by omega)]
   constructor
   ·
    rintro ⟨i, hi, rfl⟩; exact ⟨i, by omega, rfl⟩
   ·
    rintro ⟨i, hi, rfl⟩
    by_cases e : i = n
    ·
     subst e; exact ⟨i - 1, by omega, h.2⟩
    ·
     exact ⟨i, by omega, rfl⟩
  ·
   rw [cix_neg h, List.map_append, List.mem_append, ih (by omega)]
   constructor
   ·
    rintro (⟨i, hi, rfl⟩ | h)
    ·
     exact ⟨i, by omega, rfl⟩
    ·
     simp at h; exact ⟨n, by omega, h⟩
   ·
    rintro ⟨i, hi, rfl⟩
    by_cases e : i = n
    ·
     subst e; exact .inr (by simp)
    ·
     exact .inl ⟨i, by omega, rfl⟩
theorem cix_sorted {W : Nat} {xs : List (List Int)} (hr : ∀ r ∈ xs, r.length = W) (hs : xs.Pairwise (fun r s => ¬ Ll W s r)) : ∀ n, n ≤ xs.length → ((cix (fun n => ct xs n = ct xs (n - 1)) n).map (ct xs)).Pairwise (fun r s => Ll W r s) := by
 have hW : ∀ i, i < xs.length → (ct xs i).length = W := fun i hi => hr _ (List.mem_of_getElem? (ct_get hi))
 have hlt : ∀ i j, i < j → j < xs.length → ¬ Ll W (ct xs j) (ct xs i) := fun i j hij hj => by
  have e1 : xs[i]'(by omega) = ct xs i := Option.some.inj ((List.getElem?_eq_getElem (by omega)).symm.trans (ct_get (by omega)))
  have e2 : xs[j] = ct xs j := Option.some.inj ((List.getElem?_eq_getElem hj).symm.trans (ct_get hj))
  have := List.pairwise_iff_getElem.1 hs i j (by omega) hj hij
  rwa [e1, e2] at this
 intro n
 induction n with
 | zero => intro _; simp [cix]
 | succ n ih =>
  intro hn
  by_cases h : 0 < n ∧ ct xs n = ct xs (n - 1)
  ·
   rw [cix_pos h.1 h.2]; exact ih (by omega)
  ·
   rw [cix_neg h, List.map_append, List.pairwise_append]
   refine ⟨ih (by omega), by simp, fun r hr' s hs' => ?_⟩
   simp at hs'
   subst hs'
   obtain ⟨i, hi, rfl⟩ := (cix_mem r n (by omega)).1 hr'
   rcases Ll.tri W (ct xs i) (ct xs n) with q | q | q
   ·
    exact q
   ·
    have e := eq_of_all (hW i (by omega)) (hW n (by omega)) q
    by_cases hin : i = n - 1
    ·
     exact absurd ⟨by omega, by rw [← hin]; exact e.symm⟩ h
    ·
     have h1 := hlt i (n - 1) (by omega) (by omega)
     have h2 := hlt (n - 1) n (by omega) (by omega)
     rw [e] at h1
     rcases Ll.tri W (ct xs (n - 1)) (ct xs n) with q | q | q
     ·
      exact absurd q h1
     ·
      exact absurd ⟨by omega, (eq_of_all (hW (n - 1) (by omega)) (hW n (by omega)) q).symm⟩ h
     ·
      exact absurd q h2
   ·
    exact absurd q (hlt i n hi (by omega))
end Go.Proofs.YthmcpmnhdbeahaaGreat.V
namespace Go.Proofs.YthmcpmnhdbeahaaGreat.V
open Go Go.RowKit Go.Proofs.YthmcpmnhdbeahaaGreat.D Go.Proofs.YthmcpmnhdbeahaaGreat.P
open Go.Sort (swp insInner insOuter insertionSort siftDown heapBuild heapPop heapSort scanUp scanDown partLoop partition partEqLoop partitionEqual scanSorted shiftDown shiftUp partialIns partialInsertionSort reverseLoop reverseRange SWO PermIn SortedIn)
noncomputable instance : Inhabited Value := ⟨Value.slice none 0 0⟩
variable {H : Value → Prop} {lt : Value → Value → Bool} {C : Value → Value → Option Int}
structure Al (H : Value → Prop) (N : Nat) (d : Array Value) : Prop where
 sz : d.size = N
 all : ∀ i, i < N → H d[i]!
theorem w2 {j : Nat} (h : j ≤ 4000000000000000000) : wrapI (2 * (j : Int)) = ((2 * j : Nat) : Int) := by rw [w64 (by omega) (by omega)]; omega
end Go.Proofs.YthmcpmnhdbeahaaGreat.V
namespace Go.Proofs.YthmcpmnhdbeahaaGreat.V
open Go Go.RowKit Go.Proofs.YthmcpmnhdbeahaaGreat.D Go.Proofs.YthmcpmnhdbeahaaGreat.P
open Go.Sort (swp insInner insOuter insertionSort siftDown heapBuild heapPop heapSort scanUp scanDown partLoop partition partEqLoop partitionEqual scanSorted shiftDown shiftUp partialIns partialInsertionSort reverseLoop reverseRange SWO PermIn SortedIn)
variable {H : Value → Prop} {lt : Value → Value → Bool} {C : Value → Value → Option Int}
end Go.Proofs.YthmcpmnhdbeahaaGreat.V
namespace Go.Proofs.YthmcpmnhdbeahaaGreat.V
open Go Go.RowKit Go.Proofs.YthmcpmnhdbeahaaGreat.D Go.Proofs.YthmcpmnhdbeahaaGreat.P
open Go.Sort (swp insInner insOuter insertionSort siftDown heapBuild heapPop heapSort scanUp scanDown partLoop partition partEqLoop partitionEqual scanSorted shiftDown shiftUp partialIns partialInsertionSort reverseLoop reverseRange SWO PermIn SortedIn fixDown fixUp)
variable {H : Value → Prop} {lt : Value → Value → Bool} {C : Value → Value → Option Int}
theorem Al.perm {N a b : Nat} {d d' : Array Value} (hd : Al H N d) (hb : b ≤ N) (h : PermIn a b d d') : Al H N d' where
 sz := h.1.trans hd.sz
 all := fun i hi => by
  by_cases k : a ≤ i ∧ i < b
  ·
   exact Go.Sort.permIn_all d d' a b H (by rw [hd.sz]; exact hb) h (fun j h1 h2 => hd.all j (by omega)) i k.1 k.2
  ·
   rw [h.2.1 i (by omega)]; exact hd.all i hi
end Go.Proofs.YthmcpmnhdbeahaaGreat.V
set_option maxHeartbeats 8000000
namespace Go.Proofs.YthmcpmnhdbeahaaGreat.V
open Go Go.RowKit Go.Proofs.YthmcpmnhdbeahaaGreat.D Go.Proofs.YthmcpmnhdbeahaaGreat.P
open Go.Sort (swp insertionSort heapSort partition partitionEqual partialInsertionSort reverseRange SWO PermIn SortedIn)
variable {H : Value → Prop} {lt : Value → Value → Bool} {C : Value → Value → Option Int}
def Res (lt : Value → Value → Bool) (a b : Nat) (d : Array Value) (X : Option (List Value)) : Prop := ∃ d', X = some d'.toList ∧ PermIn a b d d' ∧ SortedIn lt a b d'
theorem Res.tr {a b : Nat} {d d1 : Array Value} {X : Option (List Value)} (h : Res lt a b d1 X) (hp : PermIn a b d d1) : Res lt a b d X := by
 obtain ⟨d', h1, h2, h3⟩ := h
 exact ⟨d', h1, Go.Sort.permIn_trans _ _ _ a b hp h2, h3⟩
end Go.Proofs.YthmcpmnhdbeahaaGreat.V
set_option maxHeartbeats 4000000
namespace Go.Proofs.YthmcpmnhdbeahaaGreat.V
open Go Go.RowKit Go.Proofs.YthmcpmnhdbeahaaGreat.D Go.Proofs.YthmcpmnhdbeahaaGreat.P
def CrP (g : List (List Int)) (m : Int) (u r : List Int) (n : Nat) : Prop := ∀ x : Int, 0 ≤ x → x < n → ∀ y : Int, 0 ≤ y → y < n → T g x y < n → rd r (T g x y) = (rd r x + rd u x * rd r y) % m
theorem CrP.pre {g : List (List Int)} {m : Int} {u r r' : List Int} {n n' : Nat} (h : CrP g m u r n) (hn : n' ≤ n) (hg : Grp g) (hN : n ≤ g.length) (he : ∀ i : Int, 0 ≤ i → i < n' → rd r' i = rd r i) : CrP g m u r' n' := by
 intro x x0 x1 y y0 y1 ht
 have e := h x x0 (by omega) y y0 (by omega) (by omega)
 obtain ⟨t0, _⟩ := hg.ent x y x0 (by omega) y0 (by omega)
 rw [he x x0 x1, he y y0 y1, he _ t0 ht]
 exact e
theorem crP_crs {g : List (List Int)} (hg : Grp g) {m : Int} {u r : List Int} : CrP g m u r g.length ↔ Crs g m u r :=
 ⟨fun h x x0 x1 y y0 y1 => h x x0 x1 y y0 y1 (hg.ent x y x0 x1 y0 y1).2, fun h x x0 x1 y y0 y1 _ => h x x0 x1 y y0 y1⟩
end Go.Proofs.YthmcpmnhdbeahaaGreat.V
namespace Go.Proofs.YthmcpmnhdbeahaaGreat.V
open Go Go.RowKit Go.Proofs.YthmcpmnhdbeahaaGreat.D Go.Proofs.YthmcpmnhdbeahaaGreat.P
structure ExC (g : List (List Int)) (m : Int) (u list r : List Int) : Prop where
 len : r.length = g.length
 ent : AllIn m r
 con : Crs g m u r
 pre : r.take list.length = list
theorem crs_w {g : List (List Int)} (hg : Grp g) {m : Int} {u r : List Int} (hm : Mdl g m u) (ha : AllIn m r) {x y : Int} (x0 : 0 ≤ x) (x1 : x < r.length) (y0 : 0 ≤ y) (y1 : y < r.length) (hr : r.length ≤ g.length) :
  spec_l01Mod.f (wrapI (rd r x + wrapI (rd u x * rd r y))) m = some ((rd r x + rd u x * rd r y) % m) := by
 have m2 := hm.m2; have m12 := hm.m12
 obtain ⟨a0, a1⟩ := ha x x0 x1
 obtain ⟨b0, b1⟩ := ha y y0 y1
 obtain ⟨c0, c1⟩ := small_prod hm x0 (by omega) b0 b1
 rw [w64 (x := rd u x * rd r y) (by omega) (by omega), w64 (x := rd r x + rd u x * rd r y) (by omega) (by omega)]
 exact ModW (by omega) (by omega) (by omega) (by omega)
theorem Search_test {g : List (List Int)} (hg : Grp g) {m : Int} {u : List Int} (hm : Mdl g m u) (k : Nat) (list0 : List Int) {L : Nat} {c : Int} {r2 : List (List Int)} {r3 : List Int} (ha : AllIn m r3) (hL : r3.length = L + 1) (hl : L + 1 ≤ g.length) :
  spec_l05Search.l1 k list0 (L : Int) c true 0 g m u r2 r3 = ite_ (CrP g m u r3 r3.length) ((spec_l05Search.f k g m u r3).bind fun t92 => if r2.length + t92.length ≤ 5864062014805 then (spec_l05Search.l0 k list0 (L : Int) (wrapI (c + 1)) g m u (r2 ++ t92)) else none) (spec_l05Search.l0 k list0 (L : Int) (wrapI (c + 1)) g m u r2) := by
 have n8 := hg.n8
 have m2 := hm.m2; have m12 := hm.m12
 have hlu := hm.len
 have bad1 : ∀ x : Int, spec_l05Search.l1 k list0 (L : Int) c false x g m u r2 r3 = spec_l05Search.l0 k list0 (L : Int) (wrapI (c + 1)) g m u r2 := fun x => by
  rw [spec_l05Search.l1_eq, if_neg (c := (false = true)) (by decide), if_neg (c := (false = true)) (by decide)]
  split <;> rfl
 have bad2 : ∀ x y : Int, spec_l05Search.l2 k list0 (L : Int) c false x y g m u r2 r3 = spec_l05Search.l0 k list0 (L : Int) (wrapI (c + 1)) g m u r2 := fun x y => by
  rw [spec_l05Search.l2_eq, if_neg (c := (false = true)) (by decide), bad1]
  split <;> rfl
 have outer := scan (L + 1) (fun x => spec_l05Search.l1 k list0 (L : Int) c true x g m u r2 r3) (fun x => ∀ y : Int, 0 ≤ y → y < ((L + 1 : Nat) : Int) → T g x y < ((L + 1 : Nat) : Int) → rd r3 (T g x y) = (rd r3 x + rd u x * rd r3 y) % m) (spec_l05Search.l0 k list0 (L : Int) (wrapI (c + 1)) g m u r2) (fun x x0 x1 _ => by
  have rx := hg.row x x0 (by omega)
  have inner := scanI (L + 1) (fun y => spec_l05Search.l2 k list0 (L : Int) c true x y g m u r2 r3) (fun y => T g x y < ((L + 1 : Nat) : Int) → rd r3 (T g x y) = (rd r3 x + rd u x * rd r3 y) % m) (spec_l05Search.l0 k list0 (L : Int) (wrapI (c + 1)) g m u r2) (spec_l05Search.l1 k list0 (L : Int) c true (x + 1) g m u r2 r3) (fun y y0 y1 _ => by
   obtain ⟨t0, t1⟩ := hg.ent x y x0 (by omega) y0 (by omega)
   have ew := crs_w hg hm ha x0 (by omega) y0 (by omega) (by omega)
   refine ⟨fun h => ?_, fun h => ?_⟩
   ·
    by_cases ht : T g x y < ((L + 1 : Nat) : Int)
    ·
     have h := h ht
     rw [spec_l05Search.l2_eq, w64 (x := y + 1) (by omega) (by omega)]
     (with_reducible repeat (first | refine go_pos (by first | assumption | omega | rfl | exact B_pos (by omega)) ?_ | refine go_neg (by first | assumption | omega | decide | exact B_not (by omega)) ?_ | refine go_bind (by first | assumption) ?_ | dsimp only))
     rw [decide_eq_true h]
    ·
     rw [spec_l05Search.l2_eq, w64 (x := y + 1) (by omega) (by omega)]
     clear ew
     ((with_reducible repeat (first | refine go_pos (by first | assumption | omega | rfl | exact B_pos (by omega)) ?_ | refine go_neg (by first | assumption | omega | decide | exact B_not (by omega)) ?_ | refine go_bind (by first | assumption) ?_ | dsimp only)); first | done | (with_reducible rfl) | simp (disch := omega) only [w64] | (show False; done))
   ·
    have ht : T g x y < ((L + 1 : Nat) : Int) := by
     by_cases q : T g x y < ((L + 1 : Nat) : Int)
     ·
      exact q
     ·
      exact absurd (fun k => absurd k q) h
    have h : ¬ rd r3 (T g x y) = (rd r3 x + rd u x * rd r3 y) % m := fun k => h fun _ => k
    rw [spec_l05Search.l2_eq]
    (with_reducible repeat (first | refine go_pos (by first | assumption | omega | rfl | exact B_pos (by omega)) ?_ | refine go_neg (by first | assumption | omega | decide | exact B_not (by omega)) ?_ | refine go_bind (by first | assumption) ?_ | dsimp only))
    rw [decide_eq_false h, bad2]) (fun _ => by
     rw [spec_l05Search.l2_eq, w64 (x := x + 1) (by omega) (by omega)]
     (with_reducible repeat (first | refine go_pos (by first | assumption | omega | rfl | exact B_pos (by omega)) ?_ | refine go_neg (by first | assumption | omega | decide | exact B_not (by omega)) ?_ | refine go_bind (by first | assumption) ?_ | dsimp only)))
  refine ⟨fun h => ?_, fun h => ?_⟩ <;> rw [spec_l05Search.l1_eq] <;> (with_reducible repeat (first | refine go_pos (by first | assumption | omega | rfl | exact B_pos (by omega)) ?_ | refine go_neg (by first | assumption | omega | decide | exact B_not (by omega)) ?_ | refine go_bind (by first | assumption) ?_ | dsimp only))
  ·
   exact inner.1 h
  ·
   exact inner.2 h)
 rcases outer with ⟨h1, h2⟩ | ⟨j, j0, j1, _, h1, _, h2⟩
 ·
  rw [ite_pos (show CrP g m u r3 r3.length from by rw [hL]; exact h1), h2, spec_l05Search.l1_eq]
  (with_reducible repeat (first | refine go_pos (by first | assumption | omega | rfl | exact B_pos (by omega)) ?_ | refine go_neg (by first | assumption | omega | decide | exact B_not (by omega)) ?_ | refine go_bind (by first | assumption) ?_ | dsimp only))
 ·
  rw [ite_neg (show ¬ CrP g m u r3 r3.length from fun q => h1 (by rw [hL] at q; exact q j j0 j1))]
  exact h2
theorem pow_step {a b : Nat} (h : a = b + 1) : (12 : Nat) ^ a = 12 * 12 ^ b := by rw [h, Nat.pow_succ, Nat.mul_comm]
theorem Search_ {g : List (List Int)} (hg : Grp g) {m : Int} {u : List Int} (hm : Mdl g m u) : ∀ (k : Nat) (list : List Int), AllIn m list → list.length ≤ g.length → g.length < list.length + k → CrP g m u list list.length →
  ∃ A, spec_l05Search.f k g m u list = some A ∧ A.Pairwise (fun r s => Ll g.length r s) ∧ (∀ r, r ∈ A ↔ ExC g m u list r) ∧ A.length ≤ 12 ^ (g.length - list.length) := by
 have n8 := hg.n8
 have m2 := hm.m2; have m12 := hm.m12
 intro k
 induction k with
 | zero => intro list _ hl hk _; omega
 | succ k ih =>
  intro list ha hl hk hC
  rw [spec_l05Search.f_eq, spec_l01N.f_eq, Option.bind_some]
  by_cases hN : (list.length : Int) = (g.length : Int)
  ·
   rw [if_pos hN]
   have hN' : list.length = g.length := by omega
   refine ⟨[list], rfl, List.pairwise_singleton _ _, fun r => ?_, by simp [hN']⟩
   rw [List.mem_singleton]
   constructor
   ·
    rintro rfl
    exact ⟨hN', ha, (crP_crs hg).1 (by rw [← hN']; exact hC), List.take_length⟩
   ·
    intro hr
    have := hr.pre
    rw [List.take_of_length_le (by rw [hr.len]; omega)] at this
    exact this
  rw [if_neg hN]
  have hp12 := pow_step (show g.length - list.length = (g.length - (list.length + 1)) + 1 by omega)
  obtain ⟨P, hP⟩ : ∃ P, P = (12 : Nat) ^ (g.length - (list.length + 1)) := ⟨_, rfl⟩
  have hPb : P ≤ 429981696 := by rw [hP]; exact Nat.le_trans (Nat.pow_le_pow_right (by omega) (show g.length - (list.length + 1) ≤ 8 by omega)) (by decide)
  rw [← hP] at hp12
  have up1 : ∀ r' , ExC g m u list r' → ExC g m u (list ++ [rd r' (list.length : Int)]) r' ∧ 0 ≤ rd r' (list.length : Int) ∧ rd r' (list.length : Int) < m := fun r' hr => by
   have rl := hr.len
   obtain ⟨b0, b1⟩ := hr.ent (list.length : Int) (by omega) (by omega)
   refine ⟨⟨hr.len, hr.ent, hr.con, ?_⟩, b0, b1⟩
   rw [List.length_append, List.length_singleton, take_rd (by omega), hr.pre]
  have down : ∀ c r', ExC g m u (list ++ [c]) r' → ExC g m u list r' ∧ rd r' (list.length : Int) = c := fun c r' hr => by
   have hp := hr.pre
   have rl := hr.len
   rw [List.length_append, List.length_singleton, take_rd (by omega)] at hp
   obtain ⟨h1, h2⟩ := List.append_inj' hp rfl
   exact ⟨⟨hr.len, hr.ent, hr.con, h1⟩, by simpa using h2⟩
  have loop : ∀ (n : Nat) (c : Int) (r2 : List (List Int)), 0 ≤ c → c + n = m → r2.Pairwise (fun r s => Ll g.length r s) → (∀ r, r ∈ r2 ↔ ExC g m u list r ∧ rd r (list.length : Int) < c) → r2.length ≤ c.toNat * P →
    ∃ A, spec_l05Search.l0 k list (list.length : Int) c g m u r2 = some A ∧ A.Pairwise (fun r s => Ll g.length r s) ∧ (∀ r, r ∈ A ↔ ExC g m u list r) ∧ A.length ≤ m.toNat * P := by
   intro n
   induction n with
   | zero =>
    intro c r2 c0 hcm h1 h2 h3
    refine ⟨r2, ?_, h1, fun r => ?_, by rw [show m.toNat = c.toNat by omega]; exact h3⟩
    ·
     rw [spec_l05Search.l0_eq, if_neg (by omega)]
    ·
     rw [h2]
     exact ⟨fun h => h.1, fun h => ⟨h, by have := (up1 r h).2.2; omega⟩⟩
   | succ n ihn =>
    intro c r2 c0 hcm h1 h2 h3
    have hO := Own_ list (by omega)
    have l1 : ([c] : List Int).length = 1 := rfl
    have e1 : (list ++ [c]).length = list.length + 1 := by simp
    have ha' := ha.append (allIn_one c0 (show c < m by omega))
    have ht := Search_test hg hm k list (L := list.length) (c := c) (r2 := r2) ha' e1 (by omega)
    have hcP : c.toNat * P ≤ 12 * 429981696 := Nat.mul_le_mul (by omega) hPb
    have wc : wrapI (c + 1) = c + 1 := w64 (by omega) (by omega)
    rw [wc] at ht
    have ec : (c + 1).toNat = c.toNat + 1 := by omega
    by_cases hq : CrP g m u (list ++ [c]) (list ++ [c]).length
    ·
     obtain ⟨A', a1, a2, a3, a4⟩ := ih (list ++ [c]) ha' (by omega) (by omega) hq
     rw [e1, ← hP] at a4
     rw [ite_pos hq, a1, Option.bind_some, if_pos (by omega)] at ht
     obtain ⟨A, b1, b2, b3, b4⟩ := ihn (c + 1) (r2 ++ A') (by omega) (by omega) (by
      rw [List.pairwise_append]
      refine ⟨h1, a2, fun r hr s hs => ?_⟩
      obtain ⟨r1, r3⟩ := (h2 r).1 hr
      obtain ⟨s1, s3⟩ := down c s ((a3 s).1 hs)
      refine ⟨list.length, by omega, fun i hi => ?_, by omega⟩
      rw [← take_rdi r1.pre (i := (i : Int)) (by omega) (by omega), ← take_rdi s1.pre (i := (i : Int)) (by omega) (by omega)]) (fun r => by
      rw [List.mem_append, h2, a3]
      constructor
      ·
       rintro (⟨h, hc⟩ | h)
       ·
        exact ⟨h, by omega⟩
       ·
        obtain ⟨s1, s2⟩ := down c r h
        exact ⟨s1, by omega⟩
      ·
       rintro ⟨h, hc⟩
       by_cases q : rd r (list.length : Int) = c
       ·
        have := (up1 r h).1
        rw [q] at this
        exact .inr this
       ·
        exact .inl ⟨h, by omega⟩) (by rw [List.length_append, ec, Nat.succ_mul]; omega)
     refine ⟨A, ?_, b2, b3, b4⟩
     rw [spec_l05Search.l0_eq, l1, hO, Option.bind_some, ht, if_pos (by omega), if_pos (by omega)]
     exact b1
    ·
     rw [ite_neg hq] at ht
     obtain ⟨A, b1, b2, b3, b4⟩ := ihn (c + 1) r2 (by omega) (by omega) h1 (fun r => by
      rw [h2]
      constructor
      ·
       rintro ⟨h, hc⟩; exact ⟨h, by omega⟩
      ·
       rintro ⟨h, hc⟩
       refine ⟨h, ?_⟩
       by_cases q : rd r (list.length : Int) = c
       ·
        have h5 := (up1 r h).1
        rw [q] at h5
        refine absurd ?_ hq
        exact ((crP_crs hg).2 h5.con).pre (by omega) hg (Nat.le_refl _) fun i i0 i1 => take_rdi h5.pre i0 i1
       ·
        omega) (by rw [ec, Nat.succ_mul]; omega)
     refine ⟨A, ?_, b2, b3, b4⟩
     rw [spec_l05Search.l0_eq, l1, hO, Option.bind_some, ht, if_pos (by omega), if_pos (by omega)]
     exact b1
  obtain ⟨A, a1, a2, a3, a4⟩ := loop m.toNat 0 [] (by omega) (by omega) List.Pairwise.nil (fun r => ⟨fun h => (by cases h), fun ⟨h, hc⟩ => (by have := (up1 r h).2.1; omega)⟩) (by simp)
  refine ⟨A, a1, a2, a3, ?_⟩
  rw [hp12]
  exact Nat.le_trans a4 (Nat.mul_le_mul_right P (by omega))
end Go.Proofs.YthmcpmnhdbeahaaGreat.V
namespace Go.Proofs.YthmcpmnhdbeahaaGreat.V
open Go.RowKit Go.Proofs.YthmcpmnhdbeahaaGreat.D
def chkG (g : List (List Int)) : Bool :=
 decide (1 ≤ g.length) && decide (g.length ≤ 8) && (List.range g.length).all fun a => decide ((row g (a : Int)).length = g.length) && decide (T g 0 (a : Int) = a) && decide (T g (a : Int) 0 = a) && ((List.range g.length).any fun b => decide (T g (a : Int) (b : Int) = 0)) &&
  (List.range g.length).all fun b => decide (0 ≤ T g (a : Int) (b : Int)) && decide (T g (a : Int) (b : Int) < g.length) && (List.range g.length).all fun c => decide (T g (T g (a : Int) (b : Int)) (c : Int) = T g (a : Int) (T g (b : Int) (c : Int)))
theorem grp_chk {g : List (List Int)} (h : chkG g = true) : Grp g := by
 unfold chkG at h
 simp only [Bool.and_eq_true, decide_eq_true_eq, List.all_eq_true, List.any_eq_true, List.mem_range] at h
 obtain ⟨⟨h1, h2⟩, h3⟩ := h
 have to : ∀ {P : Int → Prop}, (∀ a : Nat, a < g.length → P (a : Int)) → ∀ a : Int, 0 ≤ a → a < g.length → P a := fun {P} H a a0 a1 => by
  have := H a.toNat (by omega)
  rwa [Int.toNat_of_nonneg a0] at this
 refine ⟨h1, h2, to fun a ha => (h3 a ha).1.1.1.1, fun a b a0 a1 b0 b1 => ?_, to fun a ha => (h3 a ha).1.1.1.2, to fun a ha => (h3 a ha).1.1.2, fun a b c a0 a1 b0 b1 c0 c1 => ?_, to fun a ha => ?_⟩
 ·
  refine to (P := fun a => ∀ b : Int, 0 ≤ b → b < g.length → 0 ≤ T g a b ∧ T g a b < g.length) (fun a ha => to fun b hb => (((h3 a ha).2 b hb).1)) a a0 a1 b b0 b1
 ·
  refine to (P := fun a => ∀ b : Int, 0 ≤ b → b < g.length → ∀ c : Int, 0 ≤ c → c < g.length → T g (T g a b) c = T g a (T g b c)) (fun a ha => to (P := fun b => ∀ c : Int, 0 ≤ c → c < g.length → T g (T g (a : Int) b) c = T g (a : Int) (T g b c)) fun b hb => to fun c hc => ((h3 a ha).2 b hb).2 c hc) a a0 a1 b b0 b1 c c0 c1
 ·
  obtain ⟨b, hb, e⟩ := (h3 a ha).1.2
  exact ⟨(b : Int), by omega, by omega, e⟩
def cyc (n : Nat) : List (List Int) := (List.range n).map fun a : Nat => (List.range n).map fun b : Nat => ((a : Int) + (b : Int)) % (n : Int)
def prd (g h : List (List Int)) : List (List Int) := (List.range (g.length * h.length)).map fun x : Nat => (List.range (g.length * h.length)).map fun y : Nat => (h.length : Int) * T g ((x : Int) / (h.length : Int)) ((y : Int) / (h.length : Int)) + T h ((x : Int) % (h.length : Int)) ((y : Int) % (h.length : Int))
def twd (n : Nat) (more : Int) : List (List Int) := (List.range (2 * n)).map fun a : Nat => (List.range (2 * n)).map fun b : Nat => (n : Int) * (((a : Int) / n + (b : Int) / n) % 2) + ((if (b : Int) / n = 1 then (b : Int) % n - (a : Int) % n else (a : Int) % n + (b : Int) % n) + more * ((a : Int) / n) * ((b : Int) / n)) % (n : Int)
theorem cyc_chk : ∀ n : Nat, n ≤ 8 → 1 ≤ n → chkG (cyc n) = true := by decide +kernel
theorem named_chk : chkG (prd (cyc 2) (cyc 2)) = true ∧ chkG (prd (cyc 2) (prd (cyc 2) (cyc 2))) = true ∧ chkG (prd (cyc 2) (cyc 4)) = true ∧ chkG (twd 3 0) = true ∧ chkG (twd 4 0) = true ∧ chkG (twd 4 2) = true := by decide +kernel
structure Ordr (n : Nat) (p : List Int) : Prop where
 len : p.length = n
 ent : ∀ i : Nat, i < n → 0 ≤ rd p (i : Int) ∧ rd p (i : Int) < n
 inj : ∀ i j : Nat, i < n → j < n → rd p (i : Int) = rd p (j : Int) → i = j
theorem nd_le {α : Type} [DecidableEq α] : ∀ {l m : List α}, l.Nodup → (∀ x ∈ l, x ∈ m) → l.length ≤ m.length
 | [], m, _, _ => Nat.zero_le _
 | x :: l, m, hn, hs => by
  rw [List.nodup_cons] at hn
  have hx := hs x List.mem_cons_self
  have := nd_le (l := l) (m := m.erase x) hn.2 fun y hy => (List.mem_erase_of_ne (fun e => hn.1 (by rw [← e]; exact hy))).2 (hs y (List.mem_cons_of_mem _ hy))
  rw [List.length_erase_of_mem hx] at this
  have := List.length_pos_of_mem hx
  rw [List.length_cons]
  omega
theorem inj_onto {n : Nat} {f : Nat → Nat} (hb : ∀ i, i < n → f i < n) (hi : ∀ i j, i < n → j < n → f i = f j → i = j) : ∀ k, k < n → ∃ i, i < n ∧ f i = k := by
 intro k hk
 apply Classical.byContradiction
 intro hno
 have hnd : ((List.range n).map f).Nodup := by
  rw [List.Nodup, List.pairwise_map]
  exact List.Pairwise.imp_of_mem (fun {a b} ha hb h e => h (hi a b (List.mem_range.1 ha) (List.mem_range.1 hb) e)) (List.nodup_range (n := n))
 have := nd_le (m := (List.range n).erase k) hnd (fun x hx => by
  obtain ⟨i, hi', rfl⟩ := List.mem_map.1 hx
  exact (List.mem_erase_of_ne (fun e => hno ⟨i, List.mem_range.1 hi', e⟩)).2 (List.mem_range.2 (hb i (List.mem_range.1 hi'))))
 rw [List.length_erase_of_mem (List.mem_range.2 hk), List.length_map, List.length_range] at this
 omega
theorem Ordr.onto {n : Nat} {p : List Int} (h : Ordr n p) {k : Int} (k0 : 0 ≤ k) (k1 : k < n) : ∃ i : Nat, i < n ∧ rd p (i : Int) = k := by
 obtain ⟨i, hi, e⟩ := inj_onto (n := n) (f := fun i => (rd p (i : Int)).toNat) (fun i hi => by have := h.ent i hi; omega) (fun i j hi hj e => h.inj i j hi hj (by have := h.ent i hi; have := h.ent j hj; omega)) k.toNat (by omega)
 exact ⟨i, hi, by have := h.ent i hi; omega⟩
theorem grp_renum {g g' : List (List Int)} (hg : Grp g) {p : List Int} (hp : Ordr g.length p) (h0 : rd p 0 = 0) (hl : g'.length = g.length) (hr : ∀ a : Nat, a < g.length → (row g' (a : Int)).length = g.length) (hT : ∀ a b : Nat, a < g.length → b < g.length → T g' (rd p (a : Int)) (rd p (b : Int)) = rd p (T g (a : Int) (b : Int))) : Grp g' := by
 have n1 := hg.n1; have n8 := hg.n8
 have hTi : ∀ a b : Int, 0 ≤ a → a < g.length → 0 ≤ b → b < g.length → T g' (rd p a) (rd p b) = rd p (T g a b) := fun a b a0 a1 b0 b1 => by
  have := hT a.toNat b.toNat (by omega) (by omega)
  rwa [Int.toNat_of_nonneg a0, Int.toNat_of_nonneg b0] at this
 have hon : ∀ k : Int, 0 ≤ k → k < g'.length → ∃ i : Int, (0 ≤ i ∧ i < g.length) ∧ k = rd p i := fun k k0 k1 => by
  obtain ⟨i, hi, e⟩ := hp.onto k0 (by omega)
  exact ⟨(i : Int), by omega, e.symm⟩
 have hen : ∀ i : Int, 0 ≤ i → i < g.length → 0 ≤ rd p i ∧ rd p i < g.length := fun i i0 i1 => by
  have := hp.ent i.toNat (by omega)
  rwa [Int.toNat_of_nonneg i0] at this
 refine ⟨by omega, by omega, fun a a0 a1 => ?_, fun a b a0 a1 b0 b1 => ?_, fun a a0 a1 => ?_, fun a a0 a1 => ?_, fun a b c a0 a1 b0 b1 c0 c1 => ?_, fun a a0 a1 => ?_⟩
 ·
  have := hr a.toNat (by omega)
  rw [Int.toNat_of_nonneg a0] at this
  omega
 ·
  obtain ⟨i, ⟨i0, i1⟩, rfl⟩ := hon a a0 a1
  obtain ⟨j, ⟨j0, j1⟩, rfl⟩ := hon b b0 b1
  obtain ⟨t0, t1⟩ := hg.ent i j i0 i1 j0 j1
  rw [hTi i j i0 i1 j0 j1, hl]
  exact hen _ t0 t1
 ·
  obtain ⟨i, ⟨i0, i1⟩, rfl⟩ := hon a a0 a1
  have := hTi 0 i (by omega) (by omega) i0 i1
  rw [h0, hg.one i i0 i1] at this
  exact this
 ·
  obtain ⟨i, ⟨i0, i1⟩, rfl⟩ := hon a a0 a1
  have := hTi i 0 i0 i1 (by omega) (by omega)
  rw [h0, hg.one' i i0 i1] at this
  exact this
 ·
  obtain ⟨i, ⟨i0, i1⟩, rfl⟩ := hon a a0 a1
  obtain ⟨j, ⟨j0, j1⟩, rfl⟩ := hon b b0 b1
  obtain ⟨k, ⟨k0, k1⟩, rfl⟩ := hon c c0 c1
  obtain ⟨s0, s1⟩ := hg.ent i j i0 i1 j0 j1
  obtain ⟨t0, t1⟩ := hg.ent j k j0 j1 k0 k1
  rw [hTi i j i0 i1 j0 j1, hTi _ k s0 s1 k0 k1, hTi j k j0 j1 k0 k1, hTi i _ i0 i1 t0 t1, hg.assoc i j k i0 i1 j0 j1 k0 k1]
 ·
  obtain ⟨i, ⟨i0, i1⟩, rfl⟩ := hon a a0 a1
  obtain ⟨b, b0, b1, e⟩ := hg.inv i i0 i1
  refine ⟨rd p b, (hen b b0 b1).1, by rw [hl]; exact (hen b b0 b1).2, ?_⟩
  rw [hTi i b i0 i1 b0 b1, e, h0]
end Go.Proofs.YthmcpmnhdbeahaaGreat.V
namespace Go.Proofs.YthmcpmnhdbeahaaGreat.V
open Go Go.RowKit Go.Proofs.YthmcpmnhdbeahaaGreat.D Go.Proofs.YthmcpmnhdbeahaaGreat.P
structure Src (c : List Int) (i : Int) : Prop where
 ent : ∀ x ∈ c, 0 ≤ x ∧ x ≤ 255
 len : c.length ≤ 4096
 i0 : 0 ≤ i
 i1 : i ≤ c.length
theorem wrU {x : Int} (h0 : 0 ≤ x) (h1 : x < 18446744073709551616) : wr .u64 x = x := by
 show hid _ = _
 rw [hid_eq]
 simp [IntKind.wrap, IntKind.bits, IntKind.signed]
 omega
theorem andB (x : Int) {m : Int} (m0 : 0 ≤ m) (hm : m < 18446744073709551616) : ∃ o : Int, andI .u64 x m = o ∧ 0 ≤ o ∧ o ≤ m := by
 obtain ⟨M, rfl⟩ := Int.eq_ofNat_of_zero_le m0
 have hlt : (BitVec.ofInt 64 x &&& BitVec.ofInt 64 (M : Int)).toNat ≤ M := by
  rw [BitVec.toNat_and]
  refine Nat.le_trans Nat.and_le_right ?_
  rw [BitVec.toNat_ofInt]
  omega
 refine ⟨((BitVec.ofInt 64 x &&& BitVec.ofInt 64 (M : Int)).toNat : Nat), ?_, by omega, by omega⟩
 show hid _ = _
 rw [hid_eq]
 show wr .u64 (((BitVec.ofInt 64 x &&& BitVec.ofInt 64 (M : Int)).toNat : Nat) : Int) = _
 exact wrU (by omega) (by omega)
theorem From_ {c : List Int} (hc : ∀ x ∈ c, 0 ≤ x ∧ x ≤ 255) (hl : c.length ≤ 4096) : ∃ h, spec_l01From.f c = some (c, 0, h) ∧ Src c 0 := by
 have main : ∀ (n k : Nat) (h : Int), k + n = c.length → ∃ h', spec_l01From.l0 c (k : Int) c 0 h = some (c, 0, h') := by
  intro n
  induction n with
  | zero =>
   intro k h hk
   exact ⟨h, by rw [spec_l01From.l0_eq, if_neg (by omega)]⟩
  | succ n ih =>
   intro k h hk
   obtain ⟨h', e⟩ := ih (k + 1) (wr .u64 ((wr .u64 ((wr .u64 (h * 1099511628211)) + (wr .u64 (rd c (k : Int))))) + 197)) (by omega)
   refine ⟨h', ?_⟩
   rw [spec_l01From.l0_eq, if_pos (by omega), if_pos (by omega), if_pos (by omega), if_pos (by omega), wn (j := k) (by omega)]
   exact e
 obtain ⟨h, e⟩ := main c.length 0 (wr .u64 (13631 + (wr .u64 (c.length : Int)))) (by omega)
 exact ⟨h, by rw [spec_l01From.f_eq]; exact e, hc, hl, by omega, by omega⟩
theorem Next_ {c : List Int} {i : Int} (h : Src c i) (hh n : Int) (hn : n ≤ 4611686018427387904) : ∃ x j h', spec_l01Next.f c i hh n = some (x, c, j, h') ∧ Src c j ∧ 0 ≤ x ∧ (1 ≤ n → x < n) ∧ (n < 1 → x = 0) := by
 have hl := h.len
 rw [spec_l01Next.f_eq]
 by_cases h1 : n < 1
 ·
  rw [if_pos h1]
  exact ⟨0, i, hh, rfl, h, by omega, fun q => by omega, fun _ => rfl⟩
 rw [if_neg h1]
 obtain ⟨o, ho, o0, o1⟩ := andB (shrI .u64 (wr .u64 ((wr .u64 (hh * 6364136223846793005)) + 1442695040888963407)) 33) (m := 16777215) (by omega) (by omega)
 rw [ho, w64 (x := o) (by omega) (by omega)]
 by_cases h2 : i < (c.length : Int)
 ·
  obtain ⟨a0, a1⟩ := h.ent _ (rd_mem h.i0 h2)
  have i0 := h.i0
  rw [if_pos h2, if_pos h.i0, if_pos h2, if_neg (by omega), w64 (x := rd c i) (by omega) (by omega), w64 (x := o + rd c i) (by omega) (by omega), w64 (x := i + 1) (by omega) (by omega), tmod_nn (show 0 ≤ o + rd c i by omega)]
  exact ⟨_, _, _, rfl, ⟨h.ent, h.len, by omega, by omega⟩, Int.emod_nonneg _ (by omega), fun _ => Int.emod_lt_of_pos _ (by omega), fun q => by omega⟩
 ·
  rw [if_neg h2, if_neg (by omega), tmod_nn o0]
  exact ⟨_, _, _, rfl, h, Int.emod_nonneg _ (by omega), fun _ => Int.emod_lt_of_pos _ (by omega), fun q => by omega⟩
theorem Pick_ {c : List Int} {i : Int} (h : Src c i) (hh : Int) (L : List Int) (h0 : 0 < L.length) (h1 : L.length ≤ 1000) : ∃ x j h', spec_l01Pick.f c i hh L = some (x, c, j, h') ∧ Src c j ∧ x ∈ L := by
 obtain ⟨x, j, h', e, s, x0, x1, _⟩ := Next_ h hh (L.length : Int) (by omega)
 have x1 := x1 (by omega)
 exact ⟨rd L x, j, h', by rw [spec_l01Pick.f_eq, e, Option.bind_some, if_pos x0, if_pos x1], s, rd_mem x0 x1⟩
theorem Near_ {c : List Int} {i : Int} (h : Src c i) (hh most : Int) (m0 : -1000000 ≤ most) (m1 : most ≤ 1000000) : ∃ x j h', spec_l01Near.f c i hh most = some (x, c, j, h') ∧ Src c j := by
 obtain ⟨x, j, h', e, s, x0, x1, _⟩ := Next_ h hh 14 (by omega)
 rw [spec_l01Near.f_eq, e, Option.bind_some, w64 (x := most + 1) (by omega) (by omega)]
 by_cases q : x = 0
 ·
  obtain ⟨y, j', h2, e2, s2, _⟩ := Pick_ s h' [-1, most + 1, 1099511627776, -4611686018427387904] (by simp) (by simp)
  rw [if_pos q, e2]
  exact ⟨y, j', h2, rfl, s2⟩
 ·
  obtain ⟨y, j', h2, e2, s2, _⟩ := Next_ s h' (most + 1) (by omega)
  rw [if_neg q, e2]
  exact ⟨y, j', h2, rfl, s2⟩
structure OrdL (n : Nat) (p : List Int) : Prop where
 len : p.length = n
 ent : ∀ x ∈ p, 0 ≤ x ∧ x < n
 nd : p.Nodup
theorem OrdL.ordr {n : Nat} {p : List Int} (h : OrdL n p) : Ordr n p where
 len := h.len
 ent := fun i hi => h.ent _ (rd_mem (by omega) (by rw [h.len]; omega))
 inj := fun i j hi hj e => by
  rw [rd_get (by rw [h.len]; exact hi), rd_get (by rw [h.len]; exact hj)] at e
  have hi' : i < p.length := by rw [h.len]; exact hi
  have hj' : j < p.length := by rw [h.len]; exact hj
  exact (List.getElem?_inj hi' h.nd).1 (by rw [List.getElem?_eq_getElem hi', List.getElem?_eq_getElem hj', e])
theorem Order_ {c : List Int} {i : Int} (h : Src c i) (hh : Int) {n : Nat} (hn : n ≤ 100) : ∃ p j h', spec_l01DrawOrder.f c i hh (n : Int) = some (p, c, j, h') ∧ Src c j ∧ OrdL n p := by
 have main : ∀ (m k : Nat) (p : List Int) (i hh : Int), k + m = n → Src c i → OrdL k p → ∃ p' j h', spec_l01DrawOrder.l0 (n : Int) p (k : Int) c i hh = some (p', c, j, h') ∧ Src c j ∧ OrdL n p' := by
  intro m
  induction m with
  | zero =>
   intro k p i hh hk hs hp
   exact ⟨p, i, hh, by rw [spec_l01DrawOrder.l0_eq, if_neg (by omega)], hs, by rw [← show k = n by omega]; exact hp⟩
  | succ m ih =>
   intro k p i hh hk hs hp
   have pl := hp.len
   obtain ⟨x, j, h', e, s, x0, x1, _⟩ := Next_ hs hh ((k : Int) + 1) (by omega)
   have x1 := x1 (by omega)
   have ho := Own_ (p.take x.toNat) (by rw [List.length_take]; omega)
   have hperm : ((p.take x.toNat ++ [(k : Int)]) ++ p.drop x.toNat).Perm ((k : Int) :: p) := by
    have := (List.perm_middle (a := (k : Int)) (l₁ := p.take x.toNat) (l₂ := p.drop x.toNat))
    rw [List.take_append_drop] at this
    simpa using this
   have hp' : OrdL (k + 1) ((p.take x.toNat ++ [(k : Int)]) ++ p.drop x.toNat) := by
    refine ⟨by rw [hperm.length_eq, List.length_cons, pl], fun y hy => ?_, hperm.nodup_iff.2 (List.nodup_cons.2 ⟨fun q => ?_, hp.nd⟩)⟩
    ·
     rcases List.mem_cons.1 (hperm.mem_iff.1 hy) with rfl | q
     ·
      omega
     ·
      have := hp.ent y q; omega
    ·
     have := hp.ent _ q; omega
   obtain ⟨p', j', h2, e2, s2, o2⟩ := ih (k + 1) _ j h' (by omega) s hp'
   refine ⟨p', j', h2, ?_, s2, o2⟩
   have tl : (p.take x.toNat).length ≤ k := by rw [List.length_take]; omega
   have dl : (p.drop x.toNat).length ≤ k := by rw [List.length_drop]; omega
   have l1 : ([(k : Int)] : List Int).length = 1 := rfl
   rw [spec_l01DrawOrder.l0_eq, if_pos (by omega), w64 (x := (k : Int) + 1) (by omega) (by omega), e]
   dsimp only [Option.bind_some]
   rw [if_pos x0, if_pos (by omega), ho]
   dsimp only [Option.bind_some]
   rw [if_pos (by rw [l1]; omega), if_pos x0, if_pos (by omega), if_pos (by rw [List.length_append, l1]; omega)]
   exact e2
 obtain ⟨p, j, h', e, s, o⟩ := main n 0 [] i hh (by omega) h ⟨rfl, fun x hx => (by cases hx), List.nodup_nil⟩
 exact ⟨p, j, h', by rw [spec_l01DrawOrder.f_eq]; exact e, s, o⟩
theorem Numbers0_ {c : List Int} {i : Int} (h : Src c i) (hh : Int) {n : Nat} (n1 : 1 ≤ n) (hn : n ≤ 100) : ∃ p j h', spec_l01DrawNumbers.f c i hh (n : Int) = some (p, c, j, h') ∧ Src c j ∧ OrdL n p ∧ rd p 0 = 0 := by
 obtain ⟨p, j, h', e, s, o⟩ := Order_ h hh (n := n - 1) (by omega)
 have pl := o.len
 have hw : wrapI ((n : Int) - 1) = ((n - 1 : Nat) : Int) := by rw [w64 (by omega) (by omega)]; omega
 have main := up p.length (fun k => spec_l01DrawNumbers.l0 p (k : Int) c j h' (0 :: (p.take k).map (· + 1))) (fun k hk => by
  have l1 : (0 :: (p.take k).map (· + 1) : List Int).length = k + 1 := by rw [List.length_cons, List.length_map, List.length_take]; omega
  have l2 : ∀ x : Int, ([x] : List Int).length = 1 := fun _ => rfl
  obtain ⟨a0, a1⟩ := o.ent _ (rd_mem (xs := p) (i := (k : Int)) (by omega) (by omega))
  rw [take_rd hk, List.map_append, List.map_singleton, ← List.cons_append, spec_l01DrawNumbers.l0_eq, w64 (x := rd p (k : Int) + 1) (by omega) (by omega), l1, l2, wn (j := k) (by omega)]
  ((with_reducible repeat (first | refine go_pos (by first | assumption | omega | rfl | exact B_pos (by omega)) ?_ | refine go_neg (by first | assumption | omega | decide | exact B_not (by omega)) ?_ | refine go_bind (by first | assumption) ?_ | dsimp only)); first | done | (with_reducible rfl) | simp (disch := omega) only [w64] | (show False; done)))
 simp only [Int.natCast_zero, List.take_zero, List.map_nil, List.take_length] at main
 refine ⟨0 :: p.map (· + 1), j, h', ?_, s, ⟨by rw [List.length_cons, List.length_map]; omega, fun x hx => ?_, List.nodup_cons.2 ⟨fun q => ?_, ?_⟩⟩, rfl⟩
 ·
  rw [spec_l01DrawNumbers.f_eq, hw, e]
  show spec_l01DrawNumbers.l0 p 0 c j h' [0] = _
  rw [main, spec_l01DrawNumbers.l0_eq, if_neg (by omega)]
 ·
  rcases List.mem_cons.1 hx with rfl | q
  ·
   omega
  ·
   obtain ⟨y, hy, rfl⟩ := List.mem_map.1 q
   have := o.ent y hy
   omega
 ·
  obtain ⟨y, hy, q⟩ := List.mem_map.1 q
  have := o.ent y hy
  omega
 ·
  rw [List.Nodup, List.pairwise_map]
  exact List.Pairwise.imp (fun {a b} h q => h (by omega)) o.nd
end Go.Proofs.YthmcpmnhdbeahaaGreat.V
namespace Go.Proofs.YthmcpmnhdbeahaaGreat.V
open Go Go.RowKit Go.Proofs.YthmcpmnhdbeahaaGreat.D Go.Proofs.YthmcpmnhdbeahaaGreat.P
def setsL {α : Type} (p : List Int) (v : Nat → α) : Nat → List α → List α
 | 0, r => r
 | k + 1, r => (setsL p v k r).set (rd p (k : Int)).toNat (v k)
theorem setsL_len {α : Type} (p : List Int) (v : Nat → α) (r : List α) : ∀ k, (setsL p v k r).length = r.length
 | 0 => rfl
 | k + 1 => by rw [setsL, List.length_set, setsL_len p v r k]
theorem setsL_get {α : Type} {n : Nat} {p : List Int} (hp : Ordr n p) (v : Nat → α) {r : List α} (hr : r.length = n) {i : Nat} (hi : i < n) : ∀ k, k ≤ n → (setsL p v k r)[(rd p (i : Int)).toNat]? = if i < k then some (v i) else r[(rd p (i : Int)).toNat]? := by
 intro k
 induction k with
 | zero => intro _; rw [if_neg (by omega)]; rfl
 | succ k ih =>
  intro hk
  have ih := ih (by omega)
  obtain ⟨a0, a1⟩ := hp.ent i hi
  obtain ⟨b0, b1⟩ := hp.ent k (by omega)
  by_cases q : i = k
  ·
   subst q
   rw [if_pos (by omega), setsL, List.getElem?_set_self (by rw [setsL_len]; omega)]
  ·
   have hne : (rd p (k : Int)).toNat ≠ (rd p (i : Int)).toNat := fun e => q (hp.inj i k hi (by omega) (by omega))
   rw [setsL, List.getElem?_set_ne hne, ih]
   by_cases q2 : i < k
   ·
    rw [if_pos q2, if_pos (by omega)]
   ·
    rw [if_neg q2, if_neg (by omega)]
theorem rd_get? {xs : List Int} {i : Nat} {x : Int} (h : xs[i]? = some x) : rd xs (i : Int) = x := by
 rw [rd_nat, List.getD_eq_getElem?_getD, h]; rfl
theorem row_get? {g : List (List Int)} {i : Nat} {r : List Int} (h : g[i]? = some r) : row g (i : Int) = r := by
 simp [row, List.getD_eq_getElem?_getD, h]
def renR (g : List (List Int)) (p : List Int) (a : Nat) : List Int := setsL p (fun b => rd p (T g (a : Int) (b : Int))) g.length (row g (rd p (a : Int)))
def ren (g : List (List Int)) (p : List Int) : List (List Int) := setsL p (renR g p) g.length g
theorem ren_grp {g : List (List Int)} (hg : Grp g) {p : List Int} (hp : Ordr g.length p) (h0 : rd p 0 = 0) : Grp (ren g p) := by
 have hen : ∀ a : Nat, a < g.length → (row g (rd p (a : Int))).length = g.length := fun a ha => by
  obtain ⟨a0, a1⟩ := hp.ent a ha
  have := hg.row _ a0 a1
  omega
 have hrow : ∀ a : Nat, a < g.length → row (ren g p) (rd p (a : Int)) = renR g p a := fun a ha => by
  obtain ⟨a0, a1⟩ := hp.ent a ha
  have := setsL_get hp (renR g p) (r := g) rfl ha g.length (Nat.le_refl _)
  rw [if_pos ha] at this
  have := row_get? this
  rwa [Int.toNat_of_nonneg a0] at this
 refine grp_renum hg hp h0 (setsL_len ..) (fun a ha => ?_) fun a b ha hb => ?_
 ·
  obtain ⟨i, hi, e⟩ := hp.onto (k := (a : Int)) (by omega) (by omega)
  rw [← e, hrow i hi, renR, setsL_len, hen i hi]
 ·
  obtain ⟨b0, b1⟩ := hp.ent b hb
  have := setsL_get hp (fun b => rd p (T g (a : Int) (b : Int))) (hen a ha) hb g.length (Nat.le_refl _)
  rw [if_pos hb] at this
  have := rd_get? this
  rw [Int.toNat_of_nonneg b0] at this
  show rd (row (ren g p) _) _ = _
  rw [hrow a ha]
  exact this
theorem Copy_ (g : List (List Int)) (hl : g.length ≤ 1000000) (hr : ∀ r ∈ g, r.length ≤ 1048576) : spec_l01Copy.f g = some g := by
 have l1 : ∀ x : List Int, ([x] : List (List Int)).length = 1 := fun _ => rfl
 have main := up g.length (fun k => spec_l01Copy.l0 (k : Int) g (g.take k)) (fun k hk => by
  have ho := Own_ (row g (k : Int)) (hr _ (row_mem (by omega) (by omega)))
  have hlen : (g.take k).length = k := by rw [List.length_take]; omega
  have ht : g.take (k + 1) = g.take k ++ [row g (k : Int)] := by rw [List.take_succ_eq_append_getElem hk, row_get hk]
  rw [ht, spec_l01Copy.l0_eq, ho, Option.bind_some, hlen, l1, wn (j := k) (by omega)]
  ((with_reducible repeat (first | refine go_pos (by first | assumption | omega | rfl | exact B_pos (by omega)) ?_ | refine go_neg (by first | assumption | omega | decide | exact B_not (by omega)) ?_ | refine go_bind (by first | assumption) ?_ | dsimp only)); first | done | (with_reducible rfl) | simp (disch := omega) only [w64] | (show False; done)))
 simp only [Int.natCast_zero, List.take_zero, List.take_length] at main
 rw [spec_l01Copy.f_eq, main, spec_l01Copy.l0_eq, if_neg (by omega)]
theorem grp_small {g : List (List Int)} (hg : Grp g) : ∀ r ∈ g, r.length ≤ 8 := fun r hr => by
 obtain ⟨i, i0, i1, rfl⟩ := mem_row hr
 have := hg.row i i0 i1
 have := hg.n8
 omega
theorem Renumbered_ {g : List (List Int)} (hg : Grp g) {p : List Int} (hp : Ordr g.length p) : spec_l01Renumbered.f g p = some (ren g p) := by
 have n8 := hg.n8
 have pl := hp.len
 have hc := Copy_ g (by omega) (fun r hr => by have := grp_small hg r hr; omega)
 have main := up g.length (fun a => spec_l01Renumbered.l0 p (a : Int) g (setsL p (renR g p) a g)) (fun a ha => by
  obtain ⟨pa0, pa1⟩ := hp.ent a ha
  have gl : (setsL p (renR g p) a g).length = g.length := setsL_len ..
  have hrow : row (setsL p (renR g p) a g) (rd p (a : Int)) = row g (rd p (a : Int)) := by
   have h1 := setsL_get hp (renR g p) (r := g) rfl ha a (by omega)
   rw [if_neg (by omega)] at h1
   obtain ⟨q, hq⟩ := Int.eq_ofNat_of_zero_le pa0
   rw [hq] at h1 ⊢
   have hq' : q < g.length := by omega
   rw [Int.toNat_natCast, List.getElem?_eq_getElem hq'] at h1
   rw [row_get? h1, row_get hq']
  have rl := hg.row _ pa0 (by omega)
  have ra := hg.row (a : Int) (by omega) (by omega)
  have inner := up g.length (fun b => spec_l01Renumbered.l1 p (a : Int) (b : Int) g (setsL p (fun b => rd p (T g (a : Int) (b : Int))) b (row g (rd p (a : Int)))) (setsL p (renR g p) a g) (rd p (a : Int))) (fun b hb => by
   obtain ⟨pb0, pb1⟩ := hp.ent b hb
   obtain ⟨t0, t1⟩ := hg.ent (a : Int) (b : Int) (by omega) (by omega) (by omega) (by omega)
   have sl : (setsL p (fun b => rd p (T g (a : Int) (b : Int))) b (row g (rd p (a : Int)))).length = (row g (rd p (a : Int))).length := setsL_len ..
   show spec_l01Renumbered.l1 p (a : Int) (b : Int) g _ _ _ = spec_l01Renumbered.l1 p (a : Int) ((b + 1 : Nat) : Int) g ((setsL p (fun b => rd p (T g (a : Int) (b : Int))) b (row g (rd p (a : Int)))).set (rd p (b : Int)).toNat (rd p (T g (a : Int) (b : Int)))) _ _
   rw [spec_l01Renumbered.l1_eq, spec_l01N.f_eq, Option.bind_some, sl, wn (j := b) (by omega)]
   ((with_reducible repeat (first | refine go_pos (by first | assumption | omega | rfl | exact B_pos (by omega)) ?_ | refine go_neg (by first | assumption | omega | decide | exact B_not (by omega)) ?_ | refine go_bind (by first | assumption) ?_ | dsimp only)); first | done | (with_reducible rfl) | simp (disch := omega) only [w64] | (show False; done)))
  simp only [Int.natCast_zero, setsL] at inner
  rw [spec_l01Renumbered.l0_eq, spec_l01N.f_eq, Option.bind_some, gl, hrow, inner, spec_l01Renumbered.l1_eq, spec_l01N.f_eq, Option.bind_some, wn (j := a) (by omega)]
  (with_reducible repeat (first | refine go_pos (by first | assumption | omega | rfl | exact B_pos (by omega)) ?_ | refine go_neg (by first | assumption | omega | decide | exact B_not (by omega)) ?_ | refine go_bind (by first | assumption) ?_ | dsimp only))
  rfl)
 simp only [Int.natCast_zero, setsL] at main
 rw [spec_l01Renumbered.f_eq, hc, Option.bind_some, main, spec_l01Renumbered.l0_eq, spec_l01N.f_eq, Option.bind_some, if_neg (by omega)]
 rfl
theorem bld {α : Type} (f : Nat → α) (k : Nat) : (List.range (k + 1)).map f = (List.range k).map f ++ [f k] := by rw [List.range_succ, List.map_append, List.map_singleton]
theorem Cyclic_ {n : Nat} (n1 : 1 ≤ n) (n8 : n ≤ 8) : spec_l01Cyclic.f (n : Int) = some (cyc n) := by
 have l1 : ∀ x : Int, ([x] : List Int).length = 1 := fun _ => rfl
 have l2 : ∀ x : List Int, ([x] : List (List Int)).length = 1 := fun _ => rfl
 have main := up n (fun a => spec_l01Cyclic.l0 (n : Int) (a : Int) ((List.range a).map fun a : Nat => (List.range n).map fun b : Nat => ((a : Int) + (b : Int)) % (n : Int))) (fun a ha => by
  have inner := up n (fun b => spec_l01Cyclic.l1 (n : Int) (a : Int) (b : Int) ((List.range b).map fun b : Nat => ((a : Int) + (b : Int)) % (n : Int)) ((List.range a).map fun a : Nat => (List.range n).map fun b : Nat => ((a : Int) + (b : Int)) % (n : Int))) (fun b hb => by
   have e : ((List.range b).map fun b : Nat => ((a : Int) + (b : Int)) % (n : Int)).length = b := by simp
   rw [bld, spec_l01Cyclic.l1_eq, e, l1, w64 (x := (a : Int) + (b : Int)) (by omega) (by omega), tmod_nn (show 0 ≤ (a : Int) + (b : Int) by omega), wn (j := b) (by omega)]
   ((with_reducible repeat (first | refine go_pos (by first | assumption | omega | rfl | exact B_pos (by omega)) ?_ | refine go_neg (by first | assumption | omega | decide | exact B_not (by omega)) ?_ | refine go_bind (by first | assumption) ?_ | dsimp only)); first | done | (with_reducible rfl) | simp (disch := omega) only [w64] | (show False; done)))
  simp only [Int.natCast_zero, List.range_zero, List.map_nil] at inner
  have e : ((List.range a).map fun a : Nat => (List.range n).map fun b : Nat => ((a : Int) + (b : Int)) % (n : Int)).length = a := by simp
  rw [bld, spec_l01Cyclic.l0_eq, if_pos (by omega), inner, spec_l01Cyclic.l1_eq, e, l2, wn (j := a) (by omega)]
  ((with_reducible repeat (first | refine go_pos (by first | assumption | omega | rfl | exact B_pos (by omega)) ?_ | refine go_neg (by first | assumption | omega | decide | exact B_not (by omega)) ?_ | refine go_bind (by first | assumption) ?_ | dsimp only)); first | done | (with_reducible rfl) | simp (disch := omega) only [w64] | (show False; done)))
 simp only [Int.natCast_zero, List.range_zero, List.map_nil] at main
 rw [spec_l01Cyclic.f_eq, main, spec_l01Cyclic.l0_eq, if_neg (by omega)]
 rfl
theorem Product_ {g h : List (List Int)} (hg : Grp g) (hh : Grp h) : spec_l01Product.f g h = some (prd g h) := by
 have l1 : ∀ x : Int, ([x] : List Int).length = 1 := fun _ => rfl
 have l2 : ∀ x : List Int, ([x] : List (List Int)).length = 1 := fun _ => rfl
 have g8 := hg.n8; have h8 := hh.n8; have h1 := hh.n1
 obtain ⟨N, hN⟩ : ∃ N, N = g.length * h.length := ⟨_, rfl⟩
 have N64 : N ≤ 64 := by rw [hN]; exact Nat.mul_le_mul g8 h8
 have hw : wrapI ((g.length : Int) * (h.length : Int)) = (N : Int) := by rw [hN, Int.natCast_mul, w64] <;> rw [← Int.natCast_mul, ← hN] <;> omega
 have parts : ∀ x : Nat, x < N → (0 ≤ (x : Int) / (h.length : Int) ∧ (x : Int) / (h.length : Int) < g.length) ∧ 0 ≤ (x : Int) % (h.length : Int) ∧ (x : Int) % (h.length : Int) < h.length ∧ wrapI ((x : Int).tdiv (h.length : Int)) = (x : Int) / (h.length : Int) ∧ (x : Int).tmod (h.length : Int) = (x : Int) % (h.length : Int) := fun x hx => by
  have e1 : (x : Int) / (h.length : Int) < g.length := Int.ediv_lt_of_lt_mul (by omega) (by rw [← Int.natCast_mul, ← hN]; omega)
  have e0 : 0 ≤ (x : Int) / (h.length : Int) := Int.ediv_nonneg (by omega) (by omega)
  exact ⟨⟨e0, e1⟩, Int.emod_nonneg _ (by omega), Int.emod_lt_of_pos _ (by omega), by rw [tdiv_nn (by omega), w64 (by omega) (by omega)], tmod_nn (by omega)⟩
 have main := up N (fun a => spec_l01Product.l0 (h.length : Int) (a : Int) g h ((List.range a).map fun x : Nat => (List.range N).map fun y : Nat => (h.length : Int) * T g ((x : Int) / (h.length : Int)) ((y : Int) / (h.length : Int)) + T h ((x : Int) % (h.length : Int)) ((y : Int) % (h.length : Int)))) (fun a ha => by
  obtain ⟨⟨a0, a1⟩, a2, a3, a4, a5⟩ := parts a ha
  have ra := hg.row _ a0 a1
  have rb := hh.row _ a2 a3
  have inner := up N (fun b => spec_l01Product.l1 (h.length : Int) (a : Int) (b : Int) g h ((List.range b).map fun y : Nat => (h.length : Int) * T g ((a : Int) / (h.length : Int)) ((y : Int) / (h.length : Int)) + T h ((a : Int) % (h.length : Int)) ((y : Int) % (h.length : Int))) ((List.range a).map fun x : Nat => (List.range N).map fun y : Nat => (h.length : Int) * T g ((x : Int) / (h.length : Int)) ((y : Int) / (h.length : Int)) + T h ((x : Int) % (h.length : Int)) ((y : Int) % (h.length : Int)))) (fun b hb => by
   obtain ⟨⟨b0, b1⟩, b2, b3, b4, b5⟩ := parts b hb
   obtain ⟨t0, t1⟩ := hg.ent _ _ a0 a1 b0 b1
   obtain ⟨s0, s1⟩ := hh.ent _ _ a2 a3 b2 b3
   have e : ((List.range b).map fun y : Nat => (h.length : Int) * T g ((a : Int) / (h.length : Int)) ((y : Int) / (h.length : Int)) + T h ((a : Int) % (h.length : Int)) ((y : Int) % (h.length : Int))).length = b := by simp
   have p0 : 0 ≤ (h.length : Int) * T g ((a : Int) / (h.length : Int)) ((b : Int) / (h.length : Int)) := Int.mul_nonneg (by omega) t0
   have p1 : (h.length : Int) * T g ((a : Int) / (h.length : Int)) ((b : Int) / (h.length : Int)) ≤ 8 * 8 := Int.mul_le_mul (by omega) (by omega) t0 (by omega)
   rw [bld, spec_l01Product.l1_eq, spec_l01N.f_eq, Option.bind_some, hw, e, l1, a4, a5, b4, b5, wn (j := b) (by omega), w64 (x := (h.length : Int) * T g ((a : Int) / (h.length : Int)) ((b : Int) / (h.length : Int))) (by omega) (by omega), w64 (x := (h.length : Int) * T g ((a : Int) / (h.length : Int)) ((b : Int) / (h.length : Int)) + T h ((a : Int) % (h.length : Int)) ((b : Int) % (h.length : Int))) (by omega) (by omega)]
   clear a4 b4 a5 b5 hw
   ((with_reducible repeat (first | refine go_pos (by first | assumption | omega | rfl | exact B_pos (by omega)) ?_ | refine go_neg (by first | assumption | omega | decide | exact B_not (by omega)) ?_ | refine go_bind (by first | assumption) ?_ | dsimp only)); first | done | (with_reducible rfl) | simp (disch := omega) only [w64] | (show False; done)))
  simp only [Int.natCast_zero, List.range_zero, List.map_nil] at inner
  have e : ((List.range a).map fun x : Nat => (List.range N).map fun y : Nat => (h.length : Int) * T g ((x : Int) / (h.length : Int)) ((y : Int) / (h.length : Int)) + T h ((x : Int) % (h.length : Int)) ((y : Int) % (h.length : Int))).length = a := by simp
  rw [bld, spec_l01Product.l0_eq, spec_l01N.f_eq, Option.bind_some, hw, if_pos (by omega), inner, spec_l01Product.l1_eq, spec_l01N.f_eq, Option.bind_some, hw, e, l2, wn (j := a) (by omega)]
  clear a4 a5 hw
  ((with_reducible repeat (first | refine go_pos (by first | assumption | omega | rfl | exact B_pos (by omega)) ?_ | refine go_neg (by first | assumption | omega | decide | exact B_not (by omega)) ?_ | refine go_bind (by first | assumption) ?_ | dsimp only)); first | done | (with_reducible rfl) | simp (disch := omega) only [w64] | (show False; done)))
 simp only [Int.natCast_zero, List.range_zero, List.map_nil] at main
 rw [spec_l01Product.f_eq, spec_l01N.f_eq, Option.bind_some, main, spec_l01Product.l0_eq, spec_l01N.f_eq, Option.bind_some, hw, if_neg (by omega), hN]
 rfl
theorem Twisted_ {n : Nat} (n1 : 1 ≤ n) (n8 : n ≤ 8) {more : Int} (m0 : 0 ≤ more) (m8 : more ≤ 8) : spec_l01Twisted.f (n : Int) more = some (twd n more) := by
 have l1 : ∀ x : Int, ([x] : List Int).length = 1 := fun _ => rfl
 have l2 : ∀ x : List Int, ([x] : List (List Int)).length = 1 := fun _ => rfl
 have hw : wrapI (2 * (n : Int)) = ((2 * n : Nat) : Int) := by rw [w64 (by omega) (by omega)]; omega
 obtain ⟨F, hF⟩ : ∃ F : Nat → Nat → Int, F = fun (a b : Nat) => (n : Int) * (((a : Int) / n + (b : Int) / n) % 2) + ((if (b : Int) / n = 1 then (b : Int) % n - (a : Int) % n else (a : Int) % n + (b : Int) % n) + more * ((a : Int) / n) * ((b : Int) / n)) % (n : Int) := ⟨_, rfl⟩
 have parts : ∀ x : Nat, x < 2 * n → (0 ≤ (x : Int) / (n : Int) ∧ (x : Int) / (n : Int) ≤ 1) ∧ 0 ≤ (x : Int) % (n : Int) ∧ (x : Int) % (n : Int) < n ∧ wrapI ((x : Int).tdiv (n : Int)) = (x : Int) / (n : Int) ∧ (x : Int).tmod (n : Int) = (x : Int) % (n : Int) := fun x hx => by
  have e1 : (x : Int) / (n : Int) < 2 := Int.ediv_lt_of_lt_mul (by omega) (by omega)
  have e0 : 0 ≤ (x : Int) / (n : Int) := Int.ediv_nonneg (by omega) (by omega)
  exact ⟨⟨e0, by omega⟩, Int.emod_nonneg _ (by omega), Int.emod_lt_of_pos _ (by omega), by rw [tdiv_nn (by omega), w64 (by omega) (by omega)], tmod_nn (by omega)⟩
 have cell : ∀ (a b : Nat), a < 2 * n → b < 2 * n → ∀ (r2 : List Int) (r3 : List (List Int)), r2.length = b → spec_l01Twisted.l1 (n : Int) more (a : Int) (b : Int) r2 r3 = spec_l01Twisted.l1 (n : Int) more (a : Int) ((b + 1 : Nat) : Int) (r2 ++ [F a b]) r3 := fun a b ha hb r2 r3 hr => by
  obtain ⟨⟨a0, a1⟩, a2, a3, a4, a5⟩ := parts a ha
  obtain ⟨⟨b0, b1⟩, b2, b3, b4, b5⟩ := parts b hb
  have hFab : F a b = (n : Int) * (((a : Int) / n + (b : Int) / n) % 2) + ((if (b : Int) / n = 1 then (b : Int) % n - (a : Int) % n else (a : Int) % n + (b : Int) % n) + more * ((a : Int) / n) * ((b : Int) / n)) % (n : Int) := by rw [hF]
  rw [hFab, spec_l01Twisted.l1_eq, hw, a4, b4, a5, b5, hr, wn (j := b) (by omega)]
  clear a4 b4 a5 b5 hw hFab
  generalize (a : Int) / (n : Int) = A at *
  generalize (b : Int) / (n : Int) = B at *
  generalize (a : Int) % (n : Int) = y at *
  generalize (b : Int) % (n : Int) = w at *
  have p0 : 0 ≤ more * A := Int.mul_nonneg m0 a0
  have p1 : more * A ≤ 8 * 1 := Int.mul_le_mul m8 a1 a0 (by omega)
  have q0 : 0 ≤ more * A * B := Int.mul_nonneg p0 b0
  have q1 : more * A * B ≤ 8 * 1 := Int.mul_le_mul (by omega) b1 b0 (by omega)
  have r0 := Int.emod_nonneg (A + B) (show (2 : Int) ≠ 0 by omega)
  have r1 := Int.emod_lt_of_pos (A + B) (show (0 : Int) < 2 by omega)
  have s0 : 0 ≤ (n : Int) * ((A + B) % 2) := Int.mul_nonneg (by omega) r0
  have s1 : (n : Int) * ((A + B) % 2) ≤ 8 * 1 := Int.mul_le_mul (by omega) (by omega) r0 (by omega)
  rw [w64 (x := more * A) (by omega) (by omega), w64 (x := more * A * B) (by omega) (by omega), w64 (x := A + B) (by omega) (by omega), tmod_nn (show 0 ≤ A + B by omega), w64 (x := (n : Int) * ((A + B) % 2)) (by omega) (by omega), w64 (x := w - y) (by omega) (by omega), w64 (x := y + w) (by omega) (by omega), w64 (x := w - y + more * A * B) (by omega) (by omega), w64 (x := y + w + more * A * B) (by omega) (by omega)]
  have hn : ¬ (n : Int) = 0 := by omega
  rw [if_pos (by omega), if_neg hn, if_neg hn, if_neg hn, if_neg hn]
  by_cases hB : B = 1
  ·
   have u0 := Int.emod_nonneg (w - y + more * A * B) hn
   have u1 := Int.emod_lt_of_pos (w - y + more * A * B) (show (0 : Int) < n by omega)
   rw [if_pos hB, if_pos hB, Mod_ (by omega) (by omega) (by omega) (by omega), Option.bind_some, if_pos (by rw [l1]; omega), w64 (x := (n : Int) * ((A + B) % 2) + (w - y + more * A * B) % (n : Int)) (by omega) (by omega)]
  ·
   have u0 := Int.emod_nonneg (y + w + more * A * B) hn
   have u1 := Int.emod_lt_of_pos (y + w + more * A * B) (show (0 : Int) < n by omega)
   rw [if_neg hB, if_neg hB, Mod_ (by omega) (by omega) (by omega) (by omega), Option.bind_some, if_pos (by rw [l1]; omega), w64 (x := (n : Int) * ((A + B) % 2) + (y + w + more * A * B) % (n : Int)) (by omega) (by omega)]
 have main := up (2 * n) (fun a => spec_l01Twisted.l0 (n : Int) more (a : Int) ((List.range a).map fun a : Nat => (List.range (2 * n)).map fun b : Nat => F a b)) (fun a ha => by
  have inner := up (2 * n) (fun b => spec_l01Twisted.l1 (n : Int) more (a : Int) (b : Int) ((List.range b).map fun b : Nat => F a b) ((List.range a).map fun a : Nat => (List.range (2 * n)).map fun b : Nat => F a b)) (fun b hb => by
   rw [bld]
   exact cell a b ha hb _ _ (by simp))
  simp only [Int.natCast_zero, List.range_zero, List.map_nil] at inner
  have e : ((List.range a).map fun a : Nat => (List.range (2 * n)).map fun b : Nat => F a b).length = a := by simp
  rw [bld, spec_l01Twisted.l0_eq, hw, if_pos (by omega), inner, spec_l01Twisted.l1_eq, hw, e, l2, wn (j := a) (by omega), if_neg (by omega), if_pos (by omega)])
 simp only [Int.natCast_zero, List.range_zero, List.map_nil] at main
 rw [spec_l01Twisted.f_eq, main, spec_l01Twisted.l0_eq, hw, if_neg (by omega), hF]
 rfl
theorem wrB {x : Int} (h0 : 0 ≤ x) (h1 : x < 256) : wr .u8 x = x := by
 show hid _ = _
 rw [hid_eq]
 simp [IntKind.wrap, IntKind.bits, IntKind.signed]
 omega
theorem Named_c {d : Nat} (d1 : 1 ≤ d) (d8 : d ≤ 8) {s : ByteArray} (h1 : ¬ s = ⟨#[107, 108, 101, 105, 110]⟩) (h2 : ¬ s = ⟨#[99, 117, 98, 101]⟩) (h3 : ¬ s = ⟨#[99, 50, 99, 52]⟩) (h4 : ¬ s = ⟨#[115, 51]⟩) (h5 : ¬ s = ⟨#[100, 105, 104, 101, 100, 114, 97, 108]⟩) (h6 : ¬ s = ⟨#[113, 117, 97, 116, 101, 114, 110, 105, 111, 110]⟩) (hs : s.size = 2) (b0 : byteAt s 0 = 99) (b1 : byteAt s 1 = 48 + (d : Int)) : spec_l01Named.f s = some (cyc d, true) := by
 have c2 := Cyclic_ (n := 2) (by omega) (by omega)
 have c2 : spec_l01Cyclic.f 2 = some (cyc 2) := c2
 have cd := Cyclic_ (n := d) d1 d8
 rw [spec_l01Named.f_eq, c2, Option.bind_some, if_neg h1, if_neg h2, if_neg h3, if_neg h4, if_neg h5, if_neg h6, b0, b1, if_pos (by omega), if_pos (by omega), if_pos rfl, if_pos (by omega), if_pos (by omega), if_pos (by omega), if_pos (by omega), if_pos (by omega), wrB (by omega) (by omega), w64 (by omega) (by omega), show 48 + (d : Int) - 48 = (d : Int) by omega, cd, Option.bind_some]
def nmL : List ByteArray := [⟨#[99, 49]⟩, ⟨#[99, 50]⟩, ⟨#[99, 51]⟩, ⟨#[99, 52]⟩, ⟨#[99, 53]⟩, ⟨#[99, 54]⟩, ⟨#[99, 55]⟩, ⟨#[99, 56]⟩, ⟨#[107, 108, 101, 105, 110]⟩, ⟨#[115, 51]⟩, ⟨#[99, 50, 99, 52]⟩, ⟨#[99, 117, 98, 101]⟩, ⟨#[100, 105, 104, 101, 100, 114, 97, 108]⟩, ⟨#[113, 117, 97, 116, 101, 114, 110, 105, 111, 110]⟩]
theorem Named_ {i : Int} (i0 : 0 ≤ i) (i1 : i < 14) : ∃ G, spec_l01Named.f (Ty.rd .str nmL i) = some (G, true) ∧ Grp G := by
 have c2 := Cyclic_ (n := 2) (by omega) (by omega)
 have c2 : spec_l01Cyclic.f 2 = some (cyc 2) := c2
 have c4 := Cyclic_ (n := 4) (by omega) (by omega)
 have c4 : spec_l01Cyclic.f 4 = some (cyc 4) := c4
 have t3 : spec_l01Twisted.f 3 0 = some (twd 3 0) := Twisted_ (n := 3) (by omega) (by omega) (by omega) (by omega)
 have t4 : spec_l01Twisted.f 4 0 = some (twd 4 0) := Twisted_ (n := 4) (by omega) (by omega) (by omega) (by omega)
 have t5 : spec_l01Twisted.f 4 2 = some (twd 4 2) := Twisted_ (n := 4) (by omega) (by omega) (by omega) (by omega)
 obtain ⟨g1, g2, g3, g4, g5, g6⟩ := named_chk
 have g2' := grp_chk (cyc_chk 2 (by omega) (by omega))
 have g4' := grp_chk (cyc_chk 4 (by omega) (by omega))
 have g22 := grp_chk g1
 have p1 := Product_ g2' g2'
 have p2 := Product_ g2' g22
 have p3 := Product_ g2' g4'
 have cyc' : ∀ d : Nat, 1 ≤ d → d ≤ 8 → Ty.rd .str nmL ((d : Int) - 1) = ⟨#[99, UInt8.ofNat (48 + d)]⟩ → ∃ G, spec_l01Named.f (Ty.rd .str nmL ((d : Int) - 1)) = some (G, true) ∧ Grp G := fun d d1 d8 e => by
  rw [e]
  refine ⟨cyc d, ?_, grp_chk (cyc_chk d d8 d1)⟩
  have hd : d = 1 ∨ d = 2 ∨ d = 3 ∨ d = 4 ∨ d = 5 ∨ d = 6 ∨ d = 7 ∨ d = 8 := by omega
  rcases hd with rfl | rfl | rfl | rfl | rfl | rfl | rfl | rfl <;> exact Named_c (by omega) (by omega) (by decide) (by decide) (by decide) (by decide) (by decide) (by decide) rfl rfl rfl
 have hi : i = 0 ∨ i = 1 ∨ i = 2 ∨ i = 3 ∨ i = 4 ∨ i = 5 ∨ i = 6 ∨ i = 7 ∨ i = 8 ∨ i = 9 ∨ i = 10 ∨ i = 11 ∨ i = 12 ∨ i = 13 := by omega
 rcases hi with rfl | rfl | rfl | rfl | rfl | rfl | rfl | rfl | rfl | rfl | rfl | rfl | rfl | rfl
 ·
  exact cyc' 1 (by omega) (by omega) rfl
 ·
  exact cyc' 2 (by omega) (by omega) rfl
 ·
  exact cyc' 3 (by omega) (by omega) rfl
 ·
  exact cyc' 4 (by omega) (by omega) rfl
 ·
  exact cyc' 5 (by omega) (by omega) rfl
 ·
  exact cyc' 6 (by omega) (by omega) rfl
 ·
  exact cyc' 7 (by omega) (by omega) rfl
 ·
  exact cyc' 8 (by omega) (by omega) rfl
 ·
  refine ⟨_, ?_, g22⟩
  show spec_l01Named.f ⟨#[107, 108, 101, 105, 110]⟩ = _
  rw [spec_l01Named.f_eq, c2, Option.bind_some, if_pos rfl, p1, Option.bind_some]
 ·
  refine ⟨_, ?_, grp_chk g4⟩
  show spec_l01Named.f ⟨#[115, 51]⟩ = _
  rw [spec_l01Named.f_eq, c2, Option.bind_some, if_neg (by decide), if_neg (by decide), if_neg (by decide), if_pos rfl, t3, Option.bind_some]
 ·
  refine ⟨_, ?_, grp_chk g3⟩
  show spec_l01Named.f ⟨#[99, 50, 99, 52]⟩ = _
  rw [spec_l01Named.f_eq, c2, Option.bind_some, if_neg (by decide), if_neg (by decide), if_pos rfl, c4, Option.bind_some, p3, Option.bind_some]
 ·
  refine ⟨_, ?_, grp_chk g2⟩
  show spec_l01Named.f ⟨#[99, 117, 98, 101]⟩ = _
  rw [spec_l01Named.f_eq, c2, Option.bind_some, if_neg (by decide), if_pos rfl, p1, Option.bind_some, p2, Option.bind_some]
 ·
  refine ⟨_, ?_, grp_chk g5⟩
  show spec_l01Named.f ⟨#[100, 105, 104, 101, 100, 114, 97, 108]⟩ = _
  rw [spec_l01Named.f_eq, c2, Option.bind_some, if_neg (by decide), if_neg (by decide), if_neg (by decide), if_neg (by decide), if_pos rfl, t4, Option.bind_some]
 ·
  refine ⟨_, ?_, grp_chk g6⟩
  show spec_l01Named.f ⟨#[113, 117, 97, 116, 101, 114, 110, 105, 111, 110]⟩ = _
  rw [spec_l01Named.f_eq, c2, Option.bind_some, if_neg (by decide), if_neg (by decide), if_neg (by decide), if_neg (by decide), if_neg (by decide), if_pos rfl, t5, Option.bind_some]
theorem Draw_ {c : List Int} {i : Int} (h : Src c i) (hh : Int) : ∃ G j h', spec_l01Draw.f c i hh = some (G, c, j, h') ∧ Src c j ∧ Grp G := by
 obtain ⟨x, j, h', e, s, x0, x1, _⟩ := Next_ h hh 14 (by omega)
 have x1 := x1 (by omega)
 obtain ⟨G, hG, hgr⟩ := Named_ x0 x1
 obtain ⟨y, j2, h2, e2, s2, y0, y1, _⟩ := Next_ s h' 2 (by omega)
 have hN : spec_l01Names.f = some nmL := spec_l01Names.f_eq
 have hl : ((nmL.length : Nat) : Int) = 14 := rfl
 by_cases q : y = 0
 ·
  refine ⟨G, j2, h2, ?_, s2, hgr⟩
  rw [spec_l01Draw.f_eq, hN, Option.bind_some, hl, e]
  dsimp only [Option.bind_some]
  rw [if_pos x0, if_pos x1, if_pos x0, if_pos x1, hG]
  dsimp only [Option.bind_some]
  rw [e2]
  dsimp only [Option.bind_some]
  rw [if_pos q]
 ·
  obtain ⟨p, j3, h3, e3, s3, o, p0⟩ := Numbers0_ s2 h2 (n := G.length) hgr.n1 (by have := hgr.n8; omega)
  have hr := Renumbered_ hgr o.ordr
  refine ⟨ren G p, j3, h3, ?_, s3, ren_grp hgr o.ordr p0⟩
  rw [spec_l01Draw.f_eq, hN, Option.bind_some, hl, e]
  dsimp only [Option.bind_some]
  rw [if_pos x0, if_pos x1, if_pos x0, if_pos x1, hG]
  dsimp only [Option.bind_some]
  rw [e2]
  dsimp only [Option.bind_some]
  rw [if_neg q, spec_l01N.f_eq, Option.bind_some, e3]
  dsimp only [Option.bind_some]
  rw [hr]
  rfl
end Go.Proofs.YthmcpmnhdbeahaaGreat.V
namespace Go.Proofs.YthmcpmnhdbeahaaGreat.V
open Go Go.RowKit Go.Proofs.YthmcpmnhdbeahaaGreat.D Go.Proofs.YthmcpmnhdbeahaaGreat.P
def GoP (g : List (List Int)) (m : Int) (us : List Int) : Prop := ∀ x : Int, 0 ≤ x → x < us.length → ∀ y : Int, 0 ≤ y → y < us.length → T g x y < us.length → rd us (T g x y) = rd us x * rd us y % m
theorem Go_test {g : List (List Int)} (hg : Grp g) {m : Int} (m2 : 2 ≤ m) (m12 : m ≤ 12) (k : Nat) {us : List Int} (hu : ∀ x ∈ us, 1 ≤ x ∧ x < m ∧ Int.gcd x m = 1) (hl : us.length ≤ g.length) (out : List (Int × List Int)) :
  spec_l02Go.l0 k m us (us.length : Int) 0 out g = ite_ (GoP g m us) (spec_l02Go.l0 k m us (us.length : Int) (us.length : Int) out g) (some out) := by
 have n8 := hg.n8
 have outer := scan us.length (fun x => spec_l02Go.l0 k m us (us.length : Int) x out g) (fun x => ∀ y : Int, 0 ≤ y → y < us.length → T g x y < us.length → rd us (T g x y) = rd us x * rd us y % m) (some out) (fun x x0 x1 _ => by
  have rx := hg.row x x0 (by omega)
  have inner := scanI us.length (fun y => spec_l02Go.l1 k m us (us.length : Int) x y out g) (fun y => T g x y < us.length → rd us (T g x y) = rd us x * rd us y % m) (some out) (spec_l02Go.l0 k m us (us.length : Int) (x + 1) out g) (fun y y0 y1 _ => by
   obtain ⟨t0, t1⟩ := hg.ent x y x0 (by omega) y0 (by omega)
   obtain ⟨a0, a1, _⟩ := hu _ (rd_mem x0 x1)
   obtain ⟨b0, b1, _⟩ := hu _ (rd_mem y0 y1)
   obtain ⟨p0, p1⟩ := mul_lt_small (a := rd us x) (b := rd us y) (m := 1000) (by omega) (by omega) (by omega) (by omega) (by omega)
   refine ⟨fun h => ?_, fun h => ?_⟩
   ·
    by_cases ht : T g x y < us.length
    ·
     have h := h ht
     rw [spec_l02Go.l1_eq, w64 (x := y + 1) (by omega) (by omega), w64 (x := rd us x * rd us y) (by omega) (by omega), tmod_nn p0]
     (with_reducible repeat (first | refine go_pos (by first | assumption | omega | rfl | exact B_pos (by omega)) ?_ | refine go_neg (by first | assumption | omega | decide | exact B_not (by omega)) ?_ | refine go_bind (by first | assumption) ?_ | dsimp only))
    ·
     rw [spec_l02Go.l1_eq, w64 (x := y + 1) (by omega) (by omega)]
     (with_reducible repeat (first | refine go_pos (by first | assumption | omega | rfl | exact B_pos (by omega)) ?_ | refine go_neg (by first | assumption | omega | decide | exact B_not (by omega)) ?_ | refine go_bind (by first | assumption) ?_ | dsimp only))
   ·
    have ht : T g x y < us.length := by
     by_cases q : T g x y < us.length
     ·
      exact q
     ·
      exact absurd (fun k => absurd k q) h
    have h : ¬ rd us (T g x y) = rd us x * rd us y % m := fun k => h fun _ => k
    rw [spec_l02Go.l1_eq, w64 (x := rd us x * rd us y) (by omega) (by omega), tmod_nn p0]
    (with_reducible repeat (first | refine go_pos (by first | assumption | omega | rfl | exact B_pos (by omega)) ?_ | refine go_neg (by first | assumption | omega | decide | exact B_not (by omega)) ?_ | refine go_bind (by first | assumption) ?_ | dsimp only))) (fun _ => by
     rw [spec_l02Go.l1_eq, w64 (x := x + 1) (by omega) (by omega)]
     (with_reducible repeat (first | refine go_pos (by first | assumption | omega | rfl | exact B_pos (by omega)) ?_ | refine go_neg (by first | assumption | omega | decide | exact B_not (by omega)) ?_ | refine go_bind (by first | assumption) ?_ | dsimp only)))
  refine ⟨fun h => ?_, fun h => ?_⟩ <;> rw [spec_l02Go.l0_eq, if_pos (by omega)]
  ·
   exact inner.1 h
  ·
   exact inner.2 h)
 rcases outer with ⟨h1, h2⟩ | ⟨j, j0, j1, _, h1, _, h2⟩
 ·
  rw [ite_pos (show GoP g m us from h1), h2]
 ·
  rw [ite_neg (show ¬ GoP g m us from fun q => h1 (q j j0 j1))]
  exact h2
theorem pow12 {a b : Nat} (h : a = b + 1) : (12 : Nat) ^ a = 12 * 12 ^ b := by rw [h, Nat.pow_succ, Nat.mul_comm]
theorem Go_ {g : List (List Int)} (hg : Grp g) {m : Int} (m2 : 2 ≤ m) (m12 : m ≤ 12) : ∀ (k : Nat) (us : List Int) (out : List (Int × List Int)), (∀ x ∈ us, 1 ≤ x ∧ x < m ∧ Int.gcd x m = 1) → us.length ≤ g.length → g.length < us.length + k → out.length + 12 ^ (g.length - us.length) ≤ 1000000000 →
  ∃ O, spec_l02Go.f k g m us out = some (out ++ O) ∧ (∀ p ∈ O, p.1 = m ∧ Mdl g m p.2) ∧ O.length ≤ 12 ^ (g.length - us.length) ∧ ((∀ x ∈ us, x = 1) → O ≠ []) := by
 have n8 := hg.n8
 intro k
 induction k with
 | zero => intro us out _ hl hk _; omega
 | succ k ih =>
  intro us out hu hl hk hb
  have ht := Go_test hg m2 m12 k hu hl out
  rw [spec_l02Go.f_eq, ht]
  by_cases hG : GoP g m us
  rotate_left
  ·
   rw [ite_neg hG]
   refine ⟨[], by rw [List.append_nil], by simp, Nat.zero_le _, fun h => absurd (fun x x0 x1 y y0 y1 ht => ?_) hG⟩
   obtain ⟨t0, _⟩ := hg.ent x y x0 (by omega) y0 (by omega)
   rw [h _ (rd_mem x0 x1), h _ (rd_mem y0 y1), h _ (rd_mem t0 ht), Int.mul_one, Int.emod_eq_of_lt (by omega) (by omega)]
  rw [ite_pos hG, spec_l02Go.l0_eq, if_neg (by omega)]
  by_cases hN : (us.length : Int) = (g.length : Int)
  ·
   rw [if_pos hN, Own_ us (by omega), Option.bind_some]
   have l1 : ([(m, us)] : List (Int × List Int)).length = 1 := rfl
   have hp1 : 1 ≤ 12 ^ (g.length - us.length) := Nat.one_le_pow _ _ (by omega)
   rw [l1, if_pos (by omega)]
   refine ⟨[(m, us)], rfl, fun p hp => ?_, by rw [l1]; exact hp1, fun _ => by simp⟩
   rw [List.mem_singleton] at hp
   subst hp
   refine ⟨rfl, m2, m12, by show us.length = _; omega, fun i i0 i1 => hu _ (rd_mem i0 i1), fun i i0 i1 j j0 j1 => ?_⟩
   have i1 : i < us.length := i1
   have j1 : j < us.length := j1
   exact hG i i0 i1 j j0 j1 (by rw [hN]; exact (hg.ent i j i0 (by omega) j0 (by omega)).2)
  rw [if_neg hN]
  have hp12 := pow12 (show g.length - us.length = (g.length - (us.length + 1)) + 1 by omega)
  obtain ⟨P, hP⟩ : ∃ P, P = (12 : Nat) ^ (g.length - (us.length + 1)) := ⟨_, rfl⟩
  rw [← hP] at hp12
  have loop : ∀ (n : Nat) (c : Int) (out : List (Int × List Int)), 1 ≤ c → c + n = m → out.length + n * P ≤ 1000000000 →
    ∃ O, spec_l02Go.l2 k m us (us.length : Int) c out g = some (out ++ O) ∧ (∀ p ∈ O, p.1 = m ∧ Mdl g m p.2) ∧ O.length ≤ n * P ∧ (c = 1 → (∀ x ∈ us, x = 1) → O ≠ []) := by
   intro n
   induction n with
   | zero =>
    intro c out c0 hcm _
    exact ⟨[], by rw [spec_l02Go.l2_eq, if_neg (by omega), List.append_nil], by simp, Nat.zero_le _, fun h => by omega⟩
   | succ n ihn =>
    intro c out c0 hcm hb
    rw [Nat.succ_mul] at hb
    have hgcd := Gcd_ (a := c) (b := m) (by omega) (by omega) (by omega) (by omega)
    have wc : wrapI (c + 1) = c + 1 := w64 (by omega) (by omega)
    have hO := Own_ us (by omega)
    have l1 : ([c] : List Int).length = 1 := rfl
    rw [spec_l02Go.l2_eq, if_pos (by omega), hgcd, Option.bind_some, hO, wc]
    by_cases hc : ((Int.gcd c m : Nat) : Int) = 1
    rotate_left
    ·
     obtain ⟨O, o1, o2, o3, o4⟩ := ihn (c + 1) out (by omega) (by omega) (by omega)
     refine ⟨O, by rw [if_neg hc]; exact o1, o2, by rw [Nat.succ_mul]; omega, fun h => absurd ?_ hc⟩
     rw [h, Int.gcd_comm, Int.gcd_one_right]; rfl
    rw [if_pos hc]
    by_cases hz : us.length = 0 ∧ ¬ c = 1
    ·
     obtain ⟨O, o1, o2, o3, o4⟩ := ihn (c + 1) out (by omega) (by omega) (by omega)
     exact ⟨O, by rw [if_neg (by omega), if_neg hz.2]; exact o1, o2, by rw [Nat.succ_mul]; omega, fun h => absurd h hz.2⟩
    have hu' : ∀ x ∈ us ++ [c], 1 ≤ x ∧ x < m ∧ Int.gcd x m = 1 := fun x hx => by
     rcases List.mem_append.1 hx with h | h
     ·
      exact hu x h
     ·
      rw [List.mem_singleton] at h
      subst h
      exact ⟨c0, by omega, by omega⟩
    have e1 : (us ++ [c]).length = us.length + 1 := by simp
    obtain ⟨O, o1, o2, o3, o4⟩ := ih (us ++ [c]) out hu' (by omega) (by omega) (by rw [e1, ← hP]; omega)
    rw [e1, ← hP] at o3
    obtain ⟨O', q1, q2, q3, q4⟩ := ihn (c + 1) (out ++ O) (by omega) (by omega) (by rw [List.length_append]; omega)
    refine ⟨O ++ O', ?_, fun p hp => ?_, by rw [List.length_append, Nat.succ_mul]; omega, fun h ha => ?_⟩
    ·
     rw [← List.append_assoc, ← q1]
     by_cases hx : us.length = 0
     ·
      have hc1 : c = 1 := Classical.byContradiction fun q => hz ⟨hx, q⟩
      rw [if_neg (by omega), if_pos hc1]
      dsimp only [Option.bind_some]
      rw [l1, if_pos (by omega), o1]
      rfl
     ·
      rw [if_pos (by omega)]
      dsimp only [Option.bind_some]
      rw [l1, if_pos (by omega), o1]
      rfl
    ·
     rcases List.mem_append.1 hp with h | h
     ·
      exact o2 p h
     ·
      exact q2 p h
    ·
     have := o4 fun x hx => by
      rcases List.mem_append.1 hx with h' | h'
      ·
       exact ha x h'
      ·
       rw [List.mem_singleton] at h'; omega
     simp [this]
  obtain ⟨O, a1, a2, a3, a4⟩ := loop (m.toNat - 1) 1 out (by omega) (by omega) (by
   have : (m.toNat - 1) * P ≤ 12 * P := Nat.mul_le_mul_right P (by omega)
   omega)
  refine ⟨O, a1, a2, ?_, fun h => a4 rfl h⟩
  rw [hp12]
  exact Nat.le_trans a3 (Nat.mul_le_mul_right P (by omega))
theorem All02_ {g : List (List Int)} (hg : Grp g) {m : Int} (m2 : 2 ≤ m) (m12 : m ≤ 12) : ∃ O, spec_l02All.f g m = some O ∧ (∀ p ∈ O, p.1 = m ∧ Mdl g m p.2) ∧ 0 < O.length ∧ O.length ≤ 429981696 := by
 have n8 := hg.n8
 have hp : (12 : Nat) ^ g.length ≤ 429981696 := Nat.le_trans (Nat.pow_le_pow_right (by omega) n8) (by decide)
 obtain ⟨O, o1, o2, o3, o4⟩ := Go_ hg m2 m12 fuel [] [] (by simp) (by simp) (by have := fuel_eq; simp; omega) (by simp; omega)
 simp only [List.nil_append, List.length_nil, Nat.sub_zero] at o1 o3
 refine ⟨O, by rw [spec_l02All.f_eq, o1]; rfl, o2, List.length_pos_iff.2 (o4 (by simp)), by omega⟩
theorem DrawM_ {c : List Int} {i : Int} (h : Src c i) (hh : Int) : ∃ m j h', spec_l02DrawM.f c i hh = some (m, c, j, h') ∧ Src c j ∧ 2 ≤ m ∧ m ≤ 12 := by
 obtain ⟨x, j, h', e, s, hx⟩ := Pick_ h hh [2, 2, 3, 3, 4, 4, 5, 6, 8, 8, 9, 12, 7, 10, 11] (by simp) (by simp)
 refine ⟨x, j, h', by rw [spec_l02DrawM.f_eq, e]; rfl, s, ?_⟩
 simp only [List.mem_cons, List.not_mem_nil, or_false] at hx
 omega
theorem rdP_mem {O : List (Int × List Int)} {x : Int} (x0 : 0 ≤ x) (x1 : x < O.length) : Ty.rd (.pr (.int .i64) (.sl 2 (.int .i64))) O x ∈ O := by
 obtain ⟨n, rfl⟩ := Int.eq_ofNat_of_zero_le x0
 have hn : n < O.length := by omega
 have : Ty.rd (.pr (.int .i64) (.sl 2 (.int .i64))) O (n : Int) = O[n] := by
  simp [Ty.rd, List.getD_eq_getElem?_getD, List.getElem?_eq_getElem hn]
 rw [this]
 exact List.getElem_mem hn
theorem DrawOf_ {c : List Int} {i : Int} (h : Src c i) (hh : Int) {g : List (List Int)} (hg : Grp g) {m : Int} (m2 : 2 ≤ m) (m12 : m ≤ 12) : ∃ u j h', spec_l02DrawOf.f c i hh g m = some (m, u, c, j, h') ∧ Src c j ∧ Mdl g m u := by
 obtain ⟨O, o1, o2, o3, o4⟩ := All02_ hg m2 m12
 obtain ⟨x, j, h', e, s, x0, x1, _⟩ := Next_ h hh (O.length : Int) (by omega)
 have x1 := x1 (by omega)
 have hm := o2 _ (rdP_mem x0 x1)
 refine ⟨(Ty.rd (.pr (.int .i64) (.sl 2 (.int .i64))) O x).2, j, h', ?_, s, hm.2⟩
 rw [spec_l02DrawOf.f_eq, o1, Option.bind_some, e]
 dsimp only [Option.bind_some]
 rw [if_pos x0, if_pos x1, if_pos x0, if_pos x1, hm.1]
end Go.Proofs.YthmcpmnhdbeahaaGreat.V
namespace Go.Proofs.YthmcpmnhdbeahaaGreat.V
open Go Go.RowKit Go.Proofs.YthmcpmnhdbeahaaGreat.D Go.Proofs.YthmcpmnhdbeahaaGreat.P
def SmT (g : List (List Int)) : Prop := g.length ≤ 9 ∧ ∀ r ∈ g, r.length ≤ 9
theorem SmT.max {g : List (List Int)} (h : SmT g) : g.length ≤ maxLen ∧ ∀ r ∈ g, r.length ≤ maxLen := ⟨le_maxLen (by have := h.1; omega), fun r hr => le_maxLen (by have := h.2 r hr; omega)⟩
theorem smT_of {g : List (List Int)} (hg : Grp g) : SmT g := ⟨by have := hg.n8; omega, fun r hr => by have := grp_small hg r hr; omega⟩
theorem smT_set {g : List (List Int)} (hg : SmT g) {r : List Int} (hr : r.length ≤ 9) (k : Nat) : SmT (g.set k r) := by
 refine ⟨by rw [List.length_set]; exact hg.1, fun s hs => ?_⟩
 rcases List.mem_or_eq_of_mem_set hs with h | rfl
 ·
  exact hg.2 s h
 ·
  exact hr
theorem Bad_ {c : List Int} {i : Int} (h : Src c i) (hh : Int) {g : List (List Int)} (hg : Grp g) : ∃ g' j h', spec_l01Bad.f c i hh g = some (g', c, j, h') ∧ Src c j ∧ SmT g' := by
 have n8 := hg.n8; have n1 := hg.n1
 have hsm := smT_of hg
 have hc := Copy_ g (by omega) (fun r hr => by have := grp_small hg r hr; omega)
 obtain ⟨x, j, h', e, s, x0, x1, _⟩ := Next_ h hh 50 (by omega)
 obtain ⟨y, j2, h2, e2, s2, y0, y1, _⟩ := Next_ s h' (g.length : Int) (by omega)
 have y1 := y1 (by omega)
 have ry := hg.row y y0 y1
 rw [spec_l01Bad.f_eq, hc, Option.bind_some, e]
 dsimp only [Option.bind_some]
 by_cases q0 : x = 0
 ·
  exact ⟨[], j, h', by rw [if_pos q0], s, by simp [SmT]⟩
 by_cases q1 : x = 1
 ·
  obtain ⟨z, j3, h3, e3, s3, z0, z1, _⟩ := Next_ s2 h2 (g.length : Int) (by omega)
  have z1 := z1 (by omega)
  obtain ⟨v, j4, h4, e4, s4, _⟩ := Pick_ s3 h3 [0, 1, -1, (g.length : Int)] (by simp) (by simp)
  refine ⟨g.set y.toNat ((row g y).set z.toNat v), j4, h4, ?_, s4, smT_set hsm (by rw [List.length_set]; omega) _⟩
  rw [if_neg q0, if_pos q1, spec_l01N.f_eq, Option.bind_some, e2]
  dsimp only [Option.bind_some]
  rw [if_pos y0, if_pos y1, if_pos y0, if_pos y1, e3]
  dsimp only [Option.bind_some]
  rw [e4]
  dsimp only [Option.bind_some]
  rw [if_pos z0, if_pos (by omega), if_pos z0, if_pos (by omega)]
 by_cases q2 : x = 2
 ·
  have r0 := hg.row 0 (by omega) (by omega)
  have l1 : ([row g 0] : List (List Int)).length = 1 := rfl
  refine ⟨g ++ [row g 0], j, h', ?_, s, ⟨by rw [List.length_append, l1]; omega, fun r hr => ?_⟩⟩
  ·
   rw [if_neg q0, if_neg q1, if_pos q2, if_pos (by omega), if_pos (by omega), Own_ _ (by omega)]
   dsimp only [Option.bind_some]
   rw [l1, if_pos (by omega)]
  ·
   rcases List.mem_append.1 hr with k | k
   ·
    exact hsm.2 r k
   ·
    rw [List.mem_singleton] at k
    subst k
    omega
 by_cases q3 : x = 3
 ·
  refine ⟨g.set y.toNat ((row g y).drop 1), j2, h2, ?_, s2, smT_set hsm (by rw [List.length_drop]; omega) _⟩
  rw [if_neg q0, if_neg q1, if_neg q2, if_pos q3, spec_l01N.f_eq, Option.bind_some, e2]
  dsimp only [Option.bind_some]
  rw [if_pos y0, if_pos y1, if_pos y0, if_pos y1, if_pos (by omega), if_pos y0, if_pos y1, if_pos y0, if_pos y1]
  rfl
 ·
  exact ⟨g, j, h', by rw [if_neg q0, if_neg q1, if_neg q2, if_neg q3], s, hsm⟩
theorem Bad02_ {c : List Int} {i : Int} (h : Src c i) (hh : Int) (m : Int) {u : List Int} (u1 : 1 ≤ u.length) (u8 : u.length ≤ 8) : ∃ m' u' j h', spec_l02Bad.f c i hh m u = some (m', u', c, j, h') ∧ Src c j ∧ u'.length ≤ 9 := by
 obtain ⟨x, j, h', e, s, x0, x1, _⟩ := Next_ h hh 40 (by omega)
 rw [spec_l02Bad.f_eq, e]
 dsimp only [Option.bind_some]
 by_cases q0 : x = 0
 ·
  obtain ⟨v, j4, h4, e4, s4, _⟩ := Pick_ s h' [1, 13, wrapI (m + 1), 0] (by simp) (by simp)
  refine ⟨v, u, j4, h4, ?_, s4, by omega⟩
  rw [if_pos q0, e4]
  rfl
 by_cases q1 : x = 1
 ·
  obtain ⟨y, j2, h2, e2, s2, y0, y1, _⟩ := Next_ s h' (u.length : Int) (by omega)
  have y1 := y1 (by omega)
  obtain ⟨v, j4, h4, e4, s4, _⟩ := Pick_ s2 h2 [0, -1, 2, 3, m] (by simp) (by simp)
  refine ⟨m, u.set y.toNat v, j4, h4, ?_, s4, by rw [List.length_set]; omega⟩
  rw [if_neg q0, if_pos q1, Own_ u (by omega)]
  dsimp only [Option.bind_some]
  rw [e2]
  dsimp only [Option.bind_some]
  rw [e4]
  dsimp only [Option.bind_some]
  rw [if_pos y0, if_pos y1, if_pos y0, if_pos y1]
 by_cases q2 : x = 2
 ·
  have l1 : ([1] : List Int).length = 1 := rfl
  refine ⟨m, u ++ [1], j, h', ?_, s, by rw [List.length_append, l1]; omega⟩
  rw [if_neg q0, if_neg q1, if_pos q2, Own_ u (by omega)]
  dsimp only [Option.bind_some]
  rw [l1, if_pos (by omega)]
 ·
  exact ⟨m, u, j, h', by rw [if_neg q0, if_neg q1, if_neg q2], s, by omega⟩
theorem zeros_crs {g : List (List Int)} (hg : Grp g) {m : Int} {u : List Int} (hm : Mdl g m u) : ExC g m u [] (List.replicate g.length 0) := by
 have m2 := hm.m2
 have hz : ∀ i : Int, rd (List.replicate g.length (0 : Int)) i = 0 := fun i => by
  unfold rd
  rw [List.getD_eq_getElem?_getD, List.getElem?_replicate]
  split <;> rfl
 refine ⟨List.length_replicate .., fun i i0 i1 => by rw [hz]; omega, fun x _ _ y _ _ => ?_, by simp⟩
 rw [hz, hz, hz, Int.mul_zero, Int.add_zero, Int.zero_emod]
theorem searchAll {g : List (List Int)} (hg : Grp g) {m : Int} {u : List Int} (hm : Mdl g m u) : ∃ A, spec_l05Search.f fuel g m u [] = some A ∧ (∀ r, r ∈ A ↔ ExC g m u [] r) ∧ 0 < A.length ∧ A.length ≤ 429981696 := by
 have n8 := hg.n8
 obtain ⟨A', b1, b2, b3, b4⟩ := Search_ hg hm fuel [] (allIn_of fun x hx => by cases hx) (by simp) (by rw [fuel_eq]; simp; omega) (fun x x0 x1 => by simp at x1; omega)
 refine ⟨A', b1, b3, List.length_pos_of_mem ((b3 _).2 (zeros_crs hg hm)), Nat.le_trans b4 (Nat.le_trans (Nat.pow_le_pow_right (by omega) (show g.length - ([] : List Int).length ≤ 8 by simp; omega)) (by decide))⟩
theorem With_ {c : List Int} {i : Int} (h : Src c i) (hh : Int) : ∃ g m u l j h', spec_l05With.f c i hh = some (g, m, u, l, c, j, h') ∧ Src c j ∧ Grp g ∧ Mdl g m u ∧ l.length = g.length := by
 obtain ⟨g, j, h', e, s, hg⟩ := Draw_ h hh
 obtain ⟨m, j2, h2, e2, s2, m2, m12⟩ := DrawM_ s h'
 obtain ⟨u, j3, h3, e3, s3, hm⟩ := DrawOf_ s2 h2 hg m2 m12
 obtain ⟨A, a1, a2, a3, a4⟩ := searchAll hg hm
 obtain ⟨x, j5, h5, e5, s5, x0, x1, _⟩ := Next_ s3 h3 5 (by omega)
 have n8 := hg.n8
 rw [spec_l05With.f_eq, e]
 dsimp only [Option.bind_some]
 rw [e2]
 dsimp only [Option.bind_some]
 rw [e3]
 dsimp only [Option.bind_some]
 rw [a1, Option.bind_some, e5]
 dsimp only [Option.bind_some]
 by_cases q : x > 0
 ·
  obtain ⟨y, j6, h6, e6, s6, y0, y1, _⟩ := Next_ s5 h5 (A.length : Int) (by omega)
  have y1 := y1 (by omega)
  have hy := (a2 _).1 (row_mem y0 y1)
  have yl := hy.len
  refine ⟨g, m, u, row A y, j6, h6, ?_, s6, hg, hm, yl⟩
  rw [if_pos q, e6]
  dsimp only [Option.bind_some]
  rw [if_pos y0, if_pos y1, if_pos y0, if_pos y1, Own_ _ (by omega), Option.bind_some, spec_l05With.j0_eq]
 ·
  have main : ∀ (n k : Nat) (l : List Int) (i hh : Int), k + n = g.length → Src c i → l.length = k → ∃ l' j h', spec_l05With.l1 (k : Int) c i hh 0 g m u l = some (g, m, u, l', c, j, h') ∧ Src c j ∧ l'.length = g.length := by
   intro n
   induction n with
   | zero =>
    intro k l i hh hk hs hl
    exact ⟨l, i, hh, by rw [spec_l05With.l1_eq, spec_l01N.f_eq, Option.bind_some, if_neg (by omega), spec_l05With.j0_eq], hs, by omega⟩
   | succ n ih =>
    intro k l i hh hk hs hl
    obtain ⟨y, j6, h6, e6, s6, _⟩ := Next_ hs hh m (by have := hm.m12; omega)
    obtain ⟨l', j7, h7, e7, s7, hl7⟩ := ih (k + 1) (l ++ [y]) j6 h6 (by omega) s6 (by rw [List.length_append, hl]; rfl)
    refine ⟨l', j7, h7, ?_, s7, hl7⟩
    have l1 : ([y] : List Int).length = 1 := rfl
    rw [spec_l05With.l1_eq, spec_l01N.f_eq, Option.bind_some, if_pos (by omega), e6]
    dsimp only [Option.bind_some]
    rw [l1, if_pos (by omega), wn (j := k) (by omega)]
    exact e7
  obtain ⟨l', j7, h7, e7, s7, hl7⟩ := main g.length 0 [] j5 h5 (by omega) s5 rfl
  exact ⟨g, m, u, l', j7, h7, by rw [if_neg q]; exact e7, s7, hg, hm, hl7⟩
theorem mdl_sz {g : List (List Int)} (hg : Grp g) {m : Int} {u : List Int} (hm : Mdl g m u) : 1 ≤ u.length ∧ u.length ≤ 8 := by
 have := hg.n8; have := hg.n1; have := hm.len
 omega
structure CodeL (c : List Int) : Prop where
 ent : ∀ x ∈ c, 0 ≤ x ∧ x ≤ 255
 len : c.length ≤ 4096
theorem Draw05_ {c : List Int} (h : CodeL c) : ∃ g m u l, spec_l05Draw.f c = some (g, m, u, l) ∧ SmT g ∧ u.length ≤ 9 ∧ l.length ≤ 9 := by
 obtain ⟨h0, e0, s0⟩ := From_ h.ent h.len
 obtain ⟨g, m, u, l, j, h1, e1, s1, hg, hm, hl⟩ := With_ s0 h0
 obtain ⟨x, j2, h2, e2, s2, x0, x1, _⟩ := Next_ s1 h1 24 (by omega)
 obtain ⟨u1, u8⟩ := mdl_sz hg hm
 have n8 := hg.n8; have n1 := hg.n1
 have fin : ∀ (i hh : Int), Src c i → ∃ g' m' u' j h', (spec_l01Bad.f c i hh g).bind (fun t35 => (spec_l02Bad.f t35.2.1 t35.2.2.1 t35.2.2.2 m u).bind fun t38 => some (t35.1, t38.1, t38.2.1)) = some (g', m', u') ∧ (spec_l01Bad.f c i hh g) = some (g', c, j, h') ∧ (spec_l02Bad.f c j h' m u).map (fun t => (t.1, t.2.1)) = some (m', u') ∧ SmT g' ∧ u'.length ≤ 9 := fun i hh hs => by
  obtain ⟨g', j5, h5, e5, s5, hg'⟩ := Bad_ hs hh hg
  obtain ⟨m', u', j6, h6, e6, s6, hu'⟩ := Bad02_ s5 h5 m u1 u8
  exact ⟨g', m', u', j5, h5, by rw [e5]; dsimp only [Option.bind_some]; rw [e6]; rfl, e5, by rw [e6]; rfl, hg', hu'⟩
 rw [spec_l05Draw.f_eq, e0]
 dsimp only [Option.bind_some]
 rw [e1]
 dsimp only [Option.bind_some]
 rw [e2]
 dsimp only [Option.bind_some]
 have l1 : ([0] : List Int).length = 1 := rfl
 by_cases q0 : x = 0
 ·
  obtain ⟨g', j5, h5, e5, s5, hg'⟩ := Bad_ s2 h2 hg
  obtain ⟨m', u', j6, h6, e6, s6, hu'⟩ := Bad02_ s5 h5 m u1 u8
  refine ⟨g', m', u', l ++ [0], ?_, hg', hu', by rw [List.length_append, l1]; omega⟩
  rw [if_pos q0, l1, if_pos (by omega), e5]
  dsimp only [Option.bind_some]
  rw [e6]
  rfl
 by_cases q1 : x = 1
 ·
  obtain ⟨v, j4, h4, e4, s4, _⟩ := Pick_ s2 h2 [-1, m] (by simp) (by simp)
  obtain ⟨g', j5, h5, e5, s5, hg'⟩ := Bad_ s4 h4 hg
  obtain ⟨m', u', j6, h6, e6, s6, hu'⟩ := Bad02_ s5 h5 m u1 u8
  refine ⟨g', m', u', l.set 0 v, ?_, hg', hu', by rw [List.length_set]; omega⟩
  rw [if_neg q0, if_pos q1, e4]
  dsimp only [Option.bind_some]
  rw [if_pos (by omega), if_pos (by omega), e5]
  dsimp only [Option.bind_some]
  rw [e6]
  rfl
 ·
  obtain ⟨g', j5, h5, e5, s5, hg'⟩ := Bad_ s2 h2 hg
  obtain ⟨m', u', j6, h6, e6, s6, hu'⟩ := Bad02_ s5 h5 m u1 u8
  refine ⟨g', m', u', l, ?_, hg', hu', by omega⟩
  rw [if_neg q0, if_neg q1, e5]
  dsimp only [Option.bind_some]
  rw [e6]
  rfl
theorem DrawPairs_ {c : List Int} {i : Int} (h : Src c i) (hh : Int) : ∃ g m u l j h', spec_l05DrawPairs.f c i hh = some (g, m, u, l, c, j, h') ∧ Src c j ∧ SmT g ∧ u.length ≤ 9 ∧ l.length ≤ 9 := by
 obtain ⟨g, m, u, l, j, h1, e1, s1, hg, hm, hl⟩ := With_ h hh
 obtain ⟨u1, u8⟩ := mdl_sz hg hm
 have n8 := hg.n8; have n1 := hg.n1
 rw [spec_l05DrawPairs.f_eq, e1]
 dsimp only [Option.bind_some]
 have main : ∀ (n k : Nat) (r : List Int), k + n = g.length → r.length = k → ∃ r', r'.length = g.length ∧ spec_l05DrawPairs.l0 (k : Int) c j h1 0 g m u l r = spec_l05DrawPairs.l0 (g.length : Int) c j h1 0 g m u l r' := by
  intro n
  induction n with
  | zero =>
   intro k r hk hr
   exact ⟨r, by omega, by rw [show k = g.length by omega]⟩
  | succ n ih =>
   intro k r hk hr
   obtain ⟨r', h1', h2'⟩ := ih (k + 1) (r ++ [wrapI ((wrapI (m * (k : Int))) + (rd l (k : Int)))]) (by omega) (by rw [List.length_append, hr]; rfl)
   refine ⟨r', h1', ?_⟩
   have l1 : ∀ x : Int, ([x] : List Int).length = 1 := fun _ => rfl
   rw [spec_l05DrawPairs.l0_eq, spec_l01N.f_eq, Option.bind_some, if_pos (by omega), if_pos (by omega), if_pos (by omega), if_pos (by omega), if_pos (by omega), l1, if_pos (by omega), wn (j := k) (by omega)]
   exact h2'
 obtain ⟨r, hr, er⟩ := main g.length 0 [] (by omega) rfl
 obtain ⟨x, j2, h2, e2, s2, x0, x1, _⟩ := Next_ s1 h1 16 (by omega)
 have er : spec_l05DrawPairs.l0 0 c j h1 0 g m u l [] = _ := er
 rw [er, spec_l05DrawPairs.l0_eq, spec_l01N.f_eq, Option.bind_some, if_neg (by omega), e2]
 dsimp only [Option.bind_some]
 have l1 : ([0] : List Int).length = 1 := rfl
 by_cases q0 : x = 0
 ·
  obtain ⟨g', j5, h5, e5, s5, hg'⟩ := Bad_ s2 h2 hg
  obtain ⟨m', u', j6, h6, e6, s6, hu'⟩ := Bad02_ s5 h5 m u1 u8
  refine ⟨g', m', u', r ++ [0], j6, h6, ?_, s6, hg', hu', by rw [List.length_append, l1]; omega⟩
  rw [if_pos q0, l1, if_pos (by omega), e5]
  dsimp only [Option.bind_some]
  rw [e6]
  rfl
 by_cases q1 : x = 1
 ·
  obtain ⟨v, j4, h4, e4, s4, _⟩ := Pick_ s2 h2 [-1, wrapI (m * (g.length : Int)), 1] (by simp) (by simp)
  obtain ⟨g', j5, h5, e5, s5, hg'⟩ := Bad_ s4 h4 hg
  obtain ⟨m', u', j6, h6, e6, s6, hu'⟩ := Bad02_ s5 h5 m u1 u8
  refine ⟨g', m', u', r.set 0 v, j6, h6, ?_, s6, hg', hu', by rw [List.length_set]; omega⟩
  rw [if_neg q0, if_pos q1, e4]
  dsimp only [Option.bind_some]
  rw [if_pos (by omega), if_pos (by omega), e5]
  dsimp only [Option.bind_some]
  rw [e6]
  rfl
 by_cases q2 : x = 2
 ·
  obtain ⟨g', j5, h5, e5, s5, hg'⟩ := Bad_ s2 h2 hg
  obtain ⟨m', u', j6, h6, e6, s6, hu'⟩ := Bad02_ s5 h5 m u1 u8
  refine ⟨g', m', u', r.drop 1, j6, h6, ?_, s6, hg', hu', by rw [List.length_drop]; omega⟩
  rw [if_neg q0, if_neg q1, if_pos q2, if_pos (by omega), e5]
  dsimp only [Option.bind_some]
  rw [e6]
  rfl
 ·
  obtain ⟨g', j5, h5, e5, s5, hg'⟩ := Bad_ s2 h2 hg
  obtain ⟨m', u', j6, h6, e6, s6, hu'⟩ := Bad02_ s5 h5 m u1 u8
  refine ⟨g', m', u', r, j6, h6, ?_, s6, hg', hu', by omega⟩
  rw [if_neg q0, if_neg q1, if_neg q2, e5]
  dsimp only [Option.bind_some]
  rw [e6]
  rfl
theorem Two05_ {c : List Int} (h : CodeL c) : ∃ g m u p q, spec_l05Two.f c = some (g, m, u, p, q) ∧ SmT g ∧ u.length ≤ 9 := by
 obtain ⟨h0, e0, s0⟩ := From_ h.ent h.len
 obtain ⟨g, m, u, l, j, h1, e1, s1, hg, hm, hl⟩ := With_ s0 h0
 obtain ⟨u1, u8⟩ := mdl_sz hg hm
 obtain ⟨w0, w1⟩ := nm_bd hg hm
 have hw : wrapI (wrapI (m * (g.length : Int)) - 1) = (g.length : Int) * m - 1 := by rw [Int.mul_comm, w64 (x := (g.length : Int) * m) (by omega) (by omega), w64 (by omega) (by omega)]
 obtain ⟨p, j2, h2, e2, s2⟩ := Near_ s1 h1 ((g.length : Int) * m - 1) (by omega) (by omega)
 obtain ⟨q, j3, h3, e3, s3⟩ := Near_ s2 h2 ((g.length : Int) * m - 1) (by omega) (by omega)
 obtain ⟨g', j5, h5, e5, s5, hg'⟩ := Bad_ s3 h3 hg
 obtain ⟨m', u', j6, h6, e6, s6, hu'⟩ := Bad02_ s5 h5 m u1 u8
 refine ⟨g', m', u', p, q, ?_, hg', hu'⟩
 rw [spec_l05Two.f_eq, e0]
 dsimp only [Option.bind_some]
 rw [e1]
 dsimp only [Option.bind_some]
 rw [spec_l01N.f_eq, Option.bind_some, hw, e2]
 dsimp only [Option.bind_some]
 rw [hw, e3]
 dsimp only [Option.bind_some]
 rw [e5]
 dsimp only [Option.bind_some]
 rw [e6]
 rfl
theorem DrawPairProduct_ {c : List Int} (h : CodeL c) : ∃ g m u p q, spec_DrawPairProduct.f c = some (g, m, u, p, q) ∧ SmT g ∧ u.length ≤ 9 := by
 obtain ⟨g, m, u, p, q, e, a, b⟩ := Two05_ h
 exact ⟨g, m, u, p, q, by rw [spec_DrawPairProduct.f_eq, e]; rfl, a, b⟩
theorem DrawPairInverse_ {c : List Int} (h : CodeL c) : ∃ g m u p, spec_DrawPairInverse.f c = some (g, m, u, p) ∧ SmT g ∧ u.length ≤ 9 := by
 obtain ⟨g, m, u, p, q, e, a, b⟩ := Two05_ h
 exact ⟨g, m, u, p, by rw [spec_DrawPairInverse.f_eq, e]; rfl, a, b⟩
theorem DrawComplementOf_ {c : List Int} (h : CodeL c) : ∃ g m u l, spec_DrawComplementOf.f c = some (g, m, u, l) ∧ SmT g ∧ u.length ≤ 9 ∧ l.length ≤ 9 := by
 obtain ⟨g, m, u, l, e, a⟩ := Draw05_ h
 exact ⟨g, m, u, l, by rw [spec_DrawComplementOf.f_eq, e]; rfl, a⟩
theorem DrawIsComplement_ {c : List Int} (h : CodeL c) : ∃ g m u l, spec_DrawIsComplement.f c = some (g, m, u, l) ∧ SmT g ∧ u.length ≤ 9 ∧ l.length ≤ 9 := by
 obtain ⟨h0, e0, s0⟩ := From_ h.ent h.len
 obtain ⟨g, m, u, l, j, h1, e1, s1, a⟩ := DrawPairs_ s0 h0
 refine ⟨g, m, u, l, ?_, a⟩
 rw [spec_DrawIsComplement.f_eq, e0]
 dsimp only [Option.bind_some]
 rw [e1]
 rfl
theorem DrawConjugateComplement_ {c : List Int} (h : CodeL c) : ∃ g m u l x, spec_DrawConjugateComplement.f c = some (g, m, u, l, x) ∧ SmT g ∧ u.length ≤ 9 ∧ l.length ≤ 9 := by
 obtain ⟨h0, e0, s0⟩ := From_ h.ent h.len
 obtain ⟨g, m, u, l, j, h1, e1, s1, a⟩ := DrawPairs_ s0 h0
 obtain ⟨x, j2, h2, e2, s2⟩ := Near_ s1 h1 4 (by omega) (by omega)
 refine ⟨g, m, u, l, x, ?_, a⟩
 rw [spec_DrawConjugateComplement.f_eq, e0]
 dsimp only [Option.bind_some]
 rw [e1]
 dsimp only [Option.bind_some]
 rw [e2]
 rfl
end Go.Proofs.YthmcpmnhdbeahaaGreat.V
set_option maxHeartbeats 2000000
namespace Go.Proofs.YthmcpmnhdbeahaaGreat.V
open Go.RowKit Go.Proofs.YthmcpmnhdbeahaaGreat.D Go.Proofs.YthmcpmnhdbeahaaGreat.P
theorem less_ (a b : Int) : cmp_Less_int64.f a b = some (decide (a < b)) := by
 rw [cmp_Less_int64.f_eq, cmp_isNaN_int64.f_eq, cmp_isNaN_int64.f_eq]
 simp
def insQ : List Int → Int → List Int → List Int
 | [], v, Q => v :: Q
 | w :: R, v, Q => if v < w then insQ R v (w :: Q) else R.reverse ++ w :: v :: Q
theorem rd_mid {A B : List Int} {v : Int} {j : Nat} (h : A.length = j) : rd (A ++ v :: B) (j : Int) = v := by subst h; simp [rd, List.getD_eq_getElem?_getD]
theorem set_mid {A B : List Int} {v w : Int} {j : Nat} (h : A.length = j) : (A ++ v :: B).set j w = A ++ w :: B := by subst h; simp
theorem inner_ (x2 : Int) (i : Nat) (hi : i < 4611686018427387904) : ∀ (R : List Int) (v : Int) (Q : List Int), R.length ≤ i → slices_insertionSortOrdered_int64.l1 0 x2 i (R.length : Int) (R.reverse ++ v :: Q) = slices_insertionSortOrdered_int64.l0 0 x2 ((i + 1 : Nat) : Int) (insQ R v Q) := by
 intro R
 induction R with
 | nil =>
  intro v Q _
  rw [slices_insertionSortOrdered_int64.l1_eq, wn (j := i) hi]
  (with_reducible repeat (first | refine go_pos (by first | assumption | omega | rfl | exact B_pos (by omega)) ?_ | refine go_neg (by first | assumption | omega | decide | exact B_not (by omega)) ?_ | refine go_bind (by first | assumption) ?_ | dsimp only))
  rfl
 | cons w R ih =>
  intro v Q hR
  have hR' : R.length + 1 ≤ i := hR
  have e : (w :: R).reverse ++ v :: Q = R.reverse ++ w :: v :: Q := by simp
  have e2 : (((w :: R).length : Nat) : Int) = ((R.length + 1 : Nat) : Int) := rfl
  have e3 : wrapI (((R.length + 1 : Nat) : Int) - 1) = (R.length : Int) := by rw [w64 (by omega) (by omega)]; omega
  have hl : R.reverse.length = R.length := List.length_reverse
  have r1 : rd (R.reverse ++ w :: v :: Q) ((R.length + 1 : Nat) : Int) = v := by
   rw [show R.reverse ++ w :: v :: Q = (R.reverse ++ [w]) ++ v :: Q by simp]
   exact rd_mid (by rw [List.length_append, hl]; rfl)
  have r2 : rd (R.reverse ++ w :: v :: Q) (R.length : Int) = w := rd_mid hl
  have s1 : (R.reverse ++ w :: v :: Q).set (R.length + 1) w = R.reverse ++ w :: w :: Q := by
   rw [show R.reverse ++ w :: v :: Q = (R.reverse ++ [w]) ++ v :: Q by simp, set_mid (by rw [List.length_append, hl]; rfl)]
   simp
  have s2 : (R.reverse ++ w :: w :: Q).set R.length v = R.reverse ++ v :: w :: Q := set_mid hl
  have l1 : (R.reverse ++ w :: v :: Q).length = R.length + 2 + Q.length := by rw [List.length_append, hl, List.length_cons, List.length_cons]; omega
  have l2 : (R.reverse ++ w :: w :: Q).length = R.length + 2 + Q.length := by rw [List.length_append, hl, List.length_cons, List.length_cons]; omega
  have hls := less_ v w
  rw [e, e2, slices_insertionSortOrdered_int64.l1_eq, e3, r1, r2, Int.toNat_natCast, Int.toNat_natCast, s1, s2, wn (j := i) hi, insQ]
  clear e e2 e3 r1 r2 s1 s2
  by_cases h : v < w
  ·
   rw [decide_eq_true h] at hls
   rw [if_pos h]
   (with_reducible repeat (first | refine go_pos (by first | assumption | omega | rfl | exact B_pos (by omega)) ?_ | refine go_neg (by first | assumption | omega | decide | exact B_not (by omega)) ?_ | refine go_bind (by first | assumption) ?_ | dsimp only))
   exact ih v (w :: Q) (by omega)
  ·
   rw [decide_eq_false h] at hls
   rw [if_neg h]
   ((with_reducible repeat (first | refine go_pos (by first | assumption | omega | rfl | exact B_pos (by omega)) ?_ | refine go_neg (by first | assumption | omega | decide | exact B_not (by omega)) ?_ | refine go_bind (by first | assumption) ?_ | dsimp only)); first | done | (with_reducible rfl) | simp (disch := omega) only [w64] | (show False; done))
theorem insQ_app : ∀ (R : List Int) (v : Int) (Q Q' : List Int), insQ R v (Q ++ Q') = insQ R v Q ++ Q' := by
 intro R
 induction R with
 | nil => intro v Q Q'; rfl
 | cons w R ih =>
  intro v Q Q'
  rw [insQ, insQ]
  split
  ·
   exact ih v (w :: Q) Q'
  ·
   simp
theorem insQ_mem : ∀ (R : List Int) (v : Int) (Q : List Int) (x : Int), x ∈ insQ R v Q ↔ x = v ∨ x ∈ R ∨ x ∈ Q := by
 intro R
 induction R with
 | nil => intro v Q x; simp [insQ]
 | cons w R ih =>
  intro v Q x
  rw [insQ]
  split
  ·
   rw [ih]; simp only [List.mem_cons]; constructor
   ·
    rintro (h | h | h | h) <;> simp [h]
   ·
    rintro (h | (h | h) | h) <;> simp [h]
  ·
   simp only [List.mem_append, List.mem_reverse, List.mem_cons]; constructor
   ·
    rintro (h | h | h | h) <;> simp [h]
   ·
    rintro (h | (h | h) | h) <;> simp [h]
theorem insQ_len : ∀ (R : List Int) (v : Int) (Q : List Int), (insQ R v Q).length = R.length + 1 + Q.length := by
 intro R
 induction R with
 | nil => intro v Q; simp [insQ]; omega
 | cons w R ih =>
  intro v Q
  rw [insQ]
  split
  ·
   rw [ih]; simp; omega
  ·
   simp; omega
theorem insQ_sorted : ∀ (R : List Int) (v : Int) (Q : List Int), R.Pairwise (fun a b => b < a) → (∀ x ∈ R, x ≠ v) → Q.Pairwise (· < ·) → (∀ x ∈ R, ∀ y ∈ Q, x < y) → (∀ y ∈ Q, v < y) → (insQ R v Q).Pairwise (· < ·) := by
 intro R
 induction R with
 | nil => intro v Q _ _ hQ _ hv; exact List.pairwise_cons.2 ⟨hv, hQ⟩
 | cons w R ih =>
  intro v Q hR hn hQ hRQ hv
  obtain ⟨h1, h2⟩ := List.pairwise_cons.1 hR
  rw [insQ]
  split
  ·
   rename_i h
   refine ih v (w :: Q) h2 (fun x hx => hn x (List.mem_cons_of_mem _ hx)) (List.pairwise_cons.2 ⟨fun y hy => hRQ w List.mem_cons_self y hy, hQ⟩) (fun x hx y hy => ?_) (fun y hy => ?_)
   ·
    rcases List.mem_cons.1 hy with rfl | hy
    ·
     exact h1 x hx
    ·
     exact hRQ x (List.mem_cons_of_mem _ hx) y hy
   ·
    rcases List.mem_cons.1 hy with rfl | hy
    ·
     exact h
    ·
     exact hv y hy
  ·
   rename_i h
   have hw : w < v := by have := hn w List.mem_cons_self; omega
   rw [List.pairwise_append]
   refine ⟨List.pairwise_reverse.2 h2, List.pairwise_cons.2 ⟨fun y hy => ?_, List.pairwise_cons.2 ⟨hv, hQ⟩⟩, fun x hx y hy => ?_⟩
   ·
    rcases List.mem_cons.1 hy with rfl | hy
    ·
     exact hw
    ·
     exact hRQ w List.mem_cons_self y hy
   ·
    have hx' := h1 x (List.mem_reverse.1 hx)
    rcases List.mem_cons.1 hy with rfl | hy
    ·
     exact hx'
    ·
     rcases List.mem_cons.1 hy with rfl | hy
     ·
      omega
     ·
      exact hRQ x (List.mem_cons_of_mem _ (List.mem_reverse.1 hx)) y hy
theorem sort_ (xs : List Int) (hl : xs.length ≤ 12) (hn : xs.Nodup) : ∃ ys, slices_Sort_int64.f xs = some ys ∧ ys.length = xs.length ∧ ys.Pairwise (· < ·) ∧ ∀ x, x ∈ ys ↔ x ∈ xs := by
 have hw : wr .u64 (xs.length : Int) = (xs.length : Int) := by
  show hid (IntKind.wrap .u64 _) = _
  rw [hid_eq]
  obtain ⟨n, hn⟩ : ∃ n, n = xs.length := ⟨_, rfl⟩
  rw [← hn] at hl ⊢
  have : ∀ n : Fin 13, IntKind.wrap .u64 ((n : Nat) : Int) = ((n : Nat) : Int) := by decide
  exact this ⟨n, by omega⟩
 have hb : ∃ y, bits_Len.f (xs.length : Int) = some y := ⟨_, if_pos ⟨by omega, by omega⟩⟩
 obtain ⟨y, hb⟩ := hb
 have H : ∀ (d : Nat) (R Q : List Int), Q.length = d → R.length + d = xs.length → 1 ≤ R.length → R.Pairwise (fun a b => b < a) → (R.reverse ++ Q).Nodup → ∃ ys, slices_insertionSortOrdered_int64.l0 0 (xs.length : Int) (R.length : Int) (R.reverse ++ Q) = some ys ∧ ys.length = xs.length ∧ ys.Pairwise (· < ·) ∧ ∀ x, x ∈ ys ↔ (x ∈ R ∨ x ∈ Q) := by
  intro d
  induction d with
  | zero =>
   intro R Q hQ hR _ hs hnd
   obtain rfl : Q = [] := List.eq_nil_of_length_eq_zero hQ
   refine ⟨R.reverse ++ [], ?_, by simp; omega, by rw [List.append_nil]; exact List.pairwise_reverse.2 hs, fun x => by simp⟩
   rw [slices_insertionSortOrdered_int64.l0_eq]
   ((with_reducible repeat (first | refine go_pos (by first | assumption | omega | rfl | exact B_pos (by omega)) ?_ | refine go_neg (by first | assumption | omega | decide | exact B_not (by omega)) ?_ | refine go_bind (by first | assumption) ?_ | dsimp only)); first | done | (with_reducible rfl) | simp (disch := omega) only [w64] | (show False; done))
  | succ d ih =>
   intro R Q hQ hR h1 hs hnd
   match Q, hQ with
   | v :: Q, hQ =>
    have hQ : Q.length = d := by simpa using hQ
    have hd := List.nodup_append.1 hnd
    obtain ⟨hvQ, hQn⟩ := List.nodup_cons.1 hd.2.1
    have hvR : ∀ x ∈ R, x ≠ v := fun x hx h => hd.2.2 x (List.mem_reverse.2 hx) v List.mem_cons_self h
    have hsort := insQ_sorted R v [] hs hvR List.Pairwise.nil (fun _ _ _ h => by cases h) (fun _ h => by cases h)
    have hlen := insQ_len R v []
    obtain ⟨S, hS⟩ : ∃ S, S = insQ R v [] := ⟨_, rfl⟩
    have hin : insQ R v Q = S ++ Q := by rw [hS, ← insQ_app, List.nil_append]
    rw [← hS] at hsort hlen
    have hmS : ∀ x, x ∈ S ↔ x = v ∨ x ∈ R := fun x => by rw [hS, insQ_mem]; simp
    have hSn : S.Nodup := hsort.imp fun h => by omega
    obtain ⟨ys, e, k1, k2, k3⟩ := ih S.reverse Q hQ (by rw [List.length_reverse, hlen]; simp; omega) (by rw [List.length_reverse, hlen]; omega) (List.pairwise_reverse.2 hsort) (by
     rw [List.reverse_reverse]
     refine List.nodup_append.2 ⟨hSn, hQn, fun a ha b hb => ?_⟩
     rcases (hmS a).1 ha with rfl | ha
     ·
      intro h; subst h; exact hvQ hb
     ·
      exact hd.2.2 a (List.mem_reverse.2 ha) b (List.mem_cons_of_mem _ hb))
    rw [List.reverse_reverse, List.length_reverse, hlen, List.length_nil, Nat.add_zero] at e
    refine ⟨ys, ?_, k1, k2, fun x => ?_⟩
    ·
     rw [slices_insertionSortOrdered_int64.l0_eq]
     (with_reducible repeat (first | refine go_pos (by first | assumption | omega | rfl | exact B_pos (by omega)) ?_ | refine go_neg (by first | assumption | omega | decide | exact B_not (by omega)) ?_ | refine go_bind (by first | assumption) ?_ | dsimp only))
     rw [inner_ _ R.length (by omega) R v Q (Nat.le_refl _), hin]
     exact e
    ·
     rw [k3, List.mem_reverse, hmS, List.mem_cons]
     constructor
     ·
      rintro ((h | h) | h) <;> simp [h]
     ·
      rintro (h | h | h) <;> simp [h]
 rw [slices_Sort_int64.f_eq, hw, hb, Option.bind_some, slices_pdqsortOrdered_int64.f_eq, slices_pdqsortOrdered_int64.l0_eq, slices_insertionSortOrdered_int64.f_eq, w64 (x := (xs.length : Int) - 0) (by omega) (by omega), show wrapI (0 + 1) = 1 from w64 (by omega) (by omega)]
 clear hw hb
 cases xs with
 | nil =>
  refine ⟨[], ?_, rfl, List.Pairwise.nil, fun x => Iff.rfl⟩
  rw [slices_insertionSortOrdered_int64.l0_eq]
  rfl
 | cons v Q =>
  obtain ⟨ys, e, k1, k2, k3⟩ := H Q.length [v] Q rfl (by simp; omega) (by simp) (List.pairwise_singleton ..) hn
  have e : slices_insertionSortOrdered_int64.l0 0 ((v :: Q).length : Int) 1 (v :: Q) = some ys := e
  refine ⟨ys, ?_, k1, k2, fun x => by rw [k3]; simp⟩
  rw [e, if_pos (by omega)]
  rfl
theorem sorted_unique : ∀ (xs ys : List Int), xs.Pairwise (· < ·) → ys.Pairwise (· < ·) → (∀ x, x ∈ xs ↔ x ∈ ys) → xs = ys := by
 intro xs
 induction xs with
 | nil =>
  intro ys _ _ h
  cases ys with
  | nil => rfl
  | cons y ys => exact absurd ((h y).2 List.mem_cons_self) (by simp)
 | cons x xs ih =>
  intro ys hx hy h
  cases ys with
  | nil => exact absurd ((h x).1 List.mem_cons_self) (by simp)
  | cons y ys =>
   obtain ⟨a1, a2⟩ := List.pairwise_cons.1 hx
   obtain ⟨b1, b2⟩ := List.pairwise_cons.1 hy
   have e : x = y := by
    have h1 := (h x).1 List.mem_cons_self
    have h2 := (h y).2 List.mem_cons_self
    rcases List.mem_cons.1 h1 with h1 | h1
    ·
     exact h1
    ·
     rcases List.mem_cons.1 h2 with h2 | h2
     ·
      exact h2.symm
     ·
      have := a1 y h2; have := b1 x h1; omega
   subst e
   refine congrArg _ (ih ys a2 b2 fun z => ?_)
   have hz := h z
   simp only [List.mem_cons] at hz
   constructor
   ·
    intro k
    have := a1 z k
    rcases hz.1 (.inr k) with h | h
    ·
     omega
    ·
     exact h
   ·
    intro k
    have := b1 z k
    rcases hz.2 (.inr k) with h | h
    ·
     omega
    ·
     exact h
theorem sort_sorted {xs : List Int} (hl : xs.length ≤ 12) (hs : xs.Pairwise (· < ·)) : slices_Sort_int64.f xs = some xs := by
 obtain ⟨ys, e, _, k, hm⟩ := sort_ xs hl (hs.imp fun h => by omega)
 rw [e, sorted_unique ys xs k hs hm]
end Go.Proofs.YthmcpmnhdbeahaaGreat.V
namespace Go.Proofs.YthmcpmnhdbeahaaGreat.V
open Go.RowKit Go.Proofs.YthmcpmnhdbeahaaGreat.D Go.Proofs.YthmcpmnhdbeahaaGreat.P
theorem Numbers_ {g : List (List Int)} {m : Int} {u l : List Int} (m2 : 2 ≤ m) (m12 : m ≤ 12) (hl : l.length ≤ maxLen) : spec_l05Numbers.f g m u l = some (B (Nums g m l)) := by
 have hm := maxLen_le
 rw [spec_l05Numbers.f_eq]
 have hw : wrapI (m - 1) = m - 1 := w64 (by omega) (by omega)
 rw [B_congr (show Nums g m l ↔ (∀ i : Int, 0 ≤ i → i < l.length → 0 ≤ rd l i ∧ rd l i < m) ∧ (l.length : Int) = g.length from ⟨fun h => ⟨h.2, h.1⟩, fun h => ⟨h.2, h.1⟩⟩)]
 refine scanB l.length (fun i => spec_l05Numbers.l0 l i g m u) (fun i => 0 ≤ rd l i ∧ rd l i < m) _ (fun i i0 i1 _ => ?_) (fun _ => ?_)
 ·
  refine ⟨fun h => ?_, fun h => ?_⟩ <;> (rw [spec_l05Numbers.l0_eq, hw]) <;> ((with_reducible repeat (first | refine go_pos (by first | assumption | omega | rfl | exact B_pos (by omega)) ?_ | refine go_neg (by first | assumption | omega | decide | exact B_not (by omega)) ?_ | refine go_bind (by first | assumption | exact In_ _ _ _) ?_ | dsimp only)); first | done | (with_reducible rfl) | simp (disch := omega) only [w64] | (show False; done))
 ·
  rw [spec_l05Numbers.l0_eq]
  (with_reducible repeat (first | refine go_pos (by first | assumption | omega | rfl | exact B_pos (by omega)) ?_ | refine go_neg (by first | assumption | omega | decide | exact B_not (by omega)) ?_ | refine go_bind (by first | assumption) ?_ | dsimp only))
  rw [B_decide]
theorem isNumbers {g : List (List Int)} {m : Int} {u l : List Int} (hl : l.length ≤ maxLen) : impl_isNumbers.f g m u l = some (B (Nums g m l)) := by
 have ha := areIn m l hl
 rw [impl_isNumbers.f_eq, impl_order.f_eq, Option.bind_some]
 by_cases h : (l.length : Int) = g.length
 ·
  rw [B_congr (show Nums g m l ↔ AllIn m l from ⟨fun k => k.2, fun k => ⟨h, k⟩⟩)]
  (with_reducible repeat (first | refine go_pos (by first | assumption | omega | rfl | exact B_pos (by omega)) ?_ | refine go_neg (by first | assumption | omega | decide | exact B_not (by omega)) ?_ | refine go_bind (by first | assumption) ?_ | dsimp only))
  simp
 ·
  rw [B_neg fun k => h k.1]
  ((with_reducible repeat (first | refine go_pos (by first | assumption | omega | rfl | exact B_pos (by omega)) ?_ | refine go_neg (by first | assumption | omega | decide | exact B_not (by omega)) ?_ | refine go_bind (by first | assumption) ?_ | dsimp only)); first | done | (with_reducible rfl) | simp (disch := omega) only [w64] | (show False; done))
theorem crossed_codes (g : List (List Int)) (hl : g.length ≤ maxLen) (hr : ∀ r ∈ g, r.length ≤ maxLen) (m : Int) (u : List Int) (hu : u.length ≤ maxLen) (l : List Int) (hx : l.length ≤ maxLen) :
  (Grp g ∧ Mdl g m u ∧ Nums g m l ∧ Crs g m u l ∧ impl_crossedCode.f g m u l = some 0 ∧ spec_l05Given.f g m u l = some 0) ∨
  ∃ c : Int, ¬ c = 0 ∧ impl_crossedCode.f g m u l = some c ∧ spec_l05Given.f g m u l = some c := by
 have hM := moduleCode1 g hl hr m u hu
 have hS := Is_ g
 rw [impl_crossedCode.f_eq, spec_l05Given.f_eq, impl_numbersCode.f_eq, spec_l05Code.f_eq]
 by_cases h : GM g m u
 rotate_left
 ·
  rw [ite_neg h] at hM
  refine .inr ⟨1, by omega, by rw [hM]; rfl, ?_⟩
  by_cases h1 : Grp g
  ·
   have h2 := Is02 h1 m u hu
   rw [B_neg fun k => h ⟨h1, k⟩] at h2
   rw [hS, B_pos h1, Option.bind_some, if_pos rfl, h2]; rfl
  ·
   rw [hS, B_neg h1]; rfl
 obtain ⟨hg, hm⟩ := h
 have h2 := Is02 hg m u hu
 have hn1 := isNumbers (g := g) (m := m) (u := u) hx
 have hn2 := Numbers_ (g := g) (u := u) hm.m2 hm.m12 hx
 rw [ite_pos ⟨hg, hm⟩] at hM
 rw [hM, hS, B_pos hg, Option.bind_some, if_pos rfl, Option.bind_some, if_pos rfl, h2, B_pos hm, Option.bind_some, if_pos rfl, hn1, hn2]
 by_cases h3 : Nums g m l
 rotate_left
 ·
  rw [B_neg h3]
  exact .inr ⟨2, by omega, rfl, rfl⟩
 have c1 := isCrossed hg hm h3
 have c2 := Crossed_ hg hm h3
 rw [B_pos h3, Option.bind_some, if_pos rfl, Option.bind_some, if_pos rfl, Option.bind_some, if_pos rfl, c1, c2]
 by_cases h4 : Crs g m u l
 ·
  rw [B_pos h4]
  exact .inl ⟨hg, hm, h3, h4, rfl, rfl⟩
 ·
  rw [B_neg h4]
  exact .inr ⟨5, by omega, rfl, rfl⟩
end Go.Proofs.YthmcpmnhdbeahaaGreat.V
namespace Go.Proofs.YthmcpmnhdbeahaaGreat.P
open Go Go.RowKit Go.Proofs.YthmcpmnhdbeahaaGreat.D
end Go.Proofs.YthmcpmnhdbeahaaGreat.P
namespace Go.Proofs.YthmcpmnhdbeahaaGreat.P
open Go Go.RowKit Go.Proofs.YthmcpmnhdbeahaaGreat.D
end Go.Proofs.YthmcpmnhdbeahaaGreat.P
set_option maxHeartbeats 4000000
namespace Go.Proofs.YthmcpmnhdbeahaaGreat.V
open Go.RowKit Go.Proofs.YthmcpmnhdbeahaaGreat.D Go.Proofs.YthmcpmnhdbeahaaGreat.P
def prm (m : Int) (u : List Int) (a : Int) : List Int := u.map fun x => (x * a - a) % m
theorem prm_len (m : Int) (u : List Int) (a : Int) : (prm m u a).length = u.length := by simp [prm]
theorem prm_rd {m : Int} {u : List Int} {a : Int} {i : Nat} (h : i < u.length) : rd (prm m u a) (i : Int) = (rd u (i : Int) * a - a) % m := by
 rw [rd_get (by rw [prm_len]; exact h), rd_get h]; simp [prm]
theorem prm_in {m : Int} (m0 : 0 < m) (u : List Int) (a : Int) : AllIn m (prm m u a) := allIn_of fun x hx => by
 obtain ⟨y, _, rfl⟩ := List.mem_map.1 hx
 exact ⟨Int.emod_nonneg _ (by omega), Int.emod_lt_of_pos _ m0⟩
def adm (m : Int) (v w : List Int) : List Int := (List.range v.length).map fun i : Nat => (rd v (i : Int) + rd w (i : Int)) % m
theorem adm_len (m : Int) (v w : List Int) : (adm m v w).length = v.length := by simp [adm]
theorem adm_rd {m : Int} {v w : List Int} {i : Nat} (h : i < v.length) : rd (adm m v w) (i : Int) = (rd v (i : Int) + rd w (i : Int)) % m := by
 rw [rd_get (by rw [adm_len]; exact h)]; simp [adm]
theorem principalMap_ {g : List (List Int)} {m : Int} {u : List Int} (hg : Grp g) (hm : Mdl g m u) {a : Int} (a0 : 0 ≤ a) (a1 : a < m) : impl_principalMap.f m u a = some (prm m u a) := by
 have n8 := hg.n8; have m2 := hm.m2; have m12 := hm.m12; have hlu := hm.len
 rw [impl_principalMap.f_eq]
 have := mapped (F := fun z0 => (impl_principalMap_1.f z0 a m u).map fun z => z) (G := fun x => (x * a - a) % m) u (by omega) (fun x hx => by
  obtain ⟨i, i0, i1, rfl⟩ : ∃ i : Int, 0 ≤ i ∧ i < u.length ∧ rd u i = x := by
   obtain ⟨i, hi, rfl⟩ := List.mem_iff_getElem.1 hx
   exact ⟨i, by omega, by omega, rd_get hi⟩
  have hs := small_prod hm i0 (by omega) a0 a1
  show Option.map _ (impl_principalMap_1.f (rd u i) a m u) = _
  rw [impl_principalMap_1.f_eq, if_neg (by omega), w64 (x := rd u i * a) (by omega) (by omega), w64 (x := rd u i * a + m) (by omega) (by omega), w64 (by omega) (by omega), tmod_nn (by omega), show rd u i * a + m - a = rd u i * a - a + m by omega, Int.add_emod_right]
  rfl)
 rw [this]
 rfl
end Go.Proofs.YthmcpmnhdbeahaaGreat.V
namespace Go.Proofs.YthmcpmnhdbeahaaGreat.V
open Go.RowKit Go.Proofs.YthmcpmnhdbeahaaGreat.D Go.Proofs.YthmcpmnhdbeahaaGreat.P
def Cand (m : Int) (u l r : List Int) : Prop := ∃ a : Nat, (a : Int) < m ∧ r = adm m l (prm m u (a : Int))
def BestC (m : Int) (u l r : List Int) : Prop := Cand m u l r ∧ ∀ s, Cand m u l s → ¬ Ll l.length s r
theorem BestC.uniq {m : Int} {u l r s : List Int} (h : BestC m u l r) (k : BestC m u l s) : r = s := by
 obtain ⟨a, _, ha⟩ := h.1
 obtain ⟨b, _, hb⟩ := k.1
 have lr : r.length = l.length := by rw [ha, adm_len]
 have ls : s.length = l.length := by rw [hb, adm_len]
 rcases Ll.tri l.length r s with q | q | q
 ·
  exact absurd q (k.2 r h.1)
 ·
  exact eq_of_all lr ls q
 ·
  exact absurd q (h.2 s k.1)
theorem adm_step {m : Int} {v w : List Int} {j : Nat} : (List.range (j + 1)).map (fun i : Nat => (rd v (i : Int) + rd w (i : Int)) % m) = (List.range j).map (fun i : Nat => (rd v (i : Int) + rd w (i : Int)) % m) ++ [(rd v (j : Int) + rd w (j : Int)) % m] := by
 rw [List.range_succ, List.map_append, List.map_singleton]
theorem classOf_ {g : List (List Int)} {m : Int} {u l : List Int} (hg : Grp g) (hm : Mdl g m u) (hn : Nums g m l) {Ps : List (List Int)} (h0 : 0 < Ps.length) (h12 : Ps.length ≤ 12) (hP : ∀ r, r ∈ Ps ↔ ∃ a : Nat, (a : Int) < m ∧ r = prm m u (a : Int)) : ∃ r, impl_classOf.f m u l Ps = some r ∧ BestC m u l r := by
 have n8 := hg.n8; have n1 := hg.n1; have m2 := hm.m2; have m12 := hm.m12; have hlu := hm.len; have hll := hn.1; have hla := hn.2
 have hrow : ∀ j : Nat, j < Ps.length → AllIn m (row Ps (j : Int)) ∧ (row Ps (j : Int)).length = l.length ∧ Cand m u l (adm m l (row Ps (j : Int))) := fun j hj => by
  obtain ⟨a, ha, e⟩ := (hP _).1 (row_mem (show (0 : Int) ≤ j by omega) (show (j : Int) < Ps.length by omega))
  exact ⟨by rw [e]; exact prm_in (by omega) _ _, by rw [e, prm_len]; omega, ⟨a, ha, by rw [e]⟩⟩
 have l2' : ∀ x : Int, ([x] : List Int).length = 1 := fun _ => rfl
 have inner1 : ∀ j : Nat, j < Ps.length → impl_classOf.l1 l (row Ps (j : Int)) Ps (Ps.length : Int) (j : Int) l (l.length : Int) 0 m u [] = impl_classOf.l2 l Ps (Ps.length : Int) ((j + 1 : Nat) : Int) m u (adm m l (row Ps (j : Int))) := fun j hj => by
  obtain ⟨pa, pl, _⟩ := hrow j hj
  have := up l.length (fun i => impl_classOf.l1 l (row Ps (j : Int)) Ps (Ps.length : Int) (j : Int) l (l.length : Int) (i : Int) m u ((List.range i).map fun i : Nat => (rd l (i : Int) + rd (row Ps (j : Int)) (i : Int)) % m)) (fun i hi => by
   have l1 : ((List.range i).map fun i : Nat => (rd l (i : Int) + rd (row Ps (j : Int)) (i : Int)) % m).length = i := by simp
   have a := hla (i : Int) (by omega) (by omega)
   have b := pa (i : Int) (by omega) (by omega)
   rw [adm_step, impl_classOf.l1_eq, wn (j := i) (by omega), w64 (x := rd l (i : Int) + rd (row Ps (j : Int)) (i : Int)) (by omega) (by omega), tmod_nn (show 0 ≤ rd l (i : Int) + rd (row Ps (j : Int)) (i : Int) by omega), l1, l2']
   clear a b
   ((with_reducible repeat (first | refine go_pos (by first | assumption | omega | rfl | exact B_pos (by omega)) ?_ | refine go_neg (by first | assumption | omega | decide | exact B_not (by omega)) ?_ | refine go_bind (by first | assumption) ?_ | dsimp only)); first | done | (with_reducible rfl) | simp (disch := omega) only [w64] | (show False; done)))
  simp only [Int.natCast_zero, List.range_zero, List.map_nil] at this
  rw [this, impl_classOf.l1_eq, wn (j := j) (by omega), if_neg (by omega)]
  rfl
 have inner3 : ∀ (j : Nat) (r1 : List Int), j < Ps.length → r1.length = l.length → (Ll l.length (adm m l (row Ps (j : Int))) r1 → impl_classOf.l3 l (row Ps (j : Int)) Ps (Ps.length : Int) (j : Int) l (l.length : Int) 0 m u r1 [] = impl_classOf.l2 l Ps (Ps.length : Int) ((j + 1 : Nat) : Int) m u (adm m l (row Ps (j : Int)))) ∧ (¬ Ll l.length (adm m l (row Ps (j : Int))) r1 → impl_classOf.l3 l (row Ps (j : Int)) Ps (Ps.length : Int) (j : Int) l (l.length : Int) 0 m u r1 [] = impl_classOf.l2 l Ps (Ps.length : Int) ((j + 1 : Nat) : Int) m u r1) := fun j r1 hj hr1 => by
  obtain ⟨pa, pl, _⟩ := hrow j hj
  have := up l.length (fun i => impl_classOf.l3 l (row Ps (j : Int)) Ps (Ps.length : Int) (j : Int) l (l.length : Int) (i : Int) m u r1 ((List.range i).map fun i : Nat => (rd l (i : Int) + rd (row Ps (j : Int)) (i : Int)) % m)) (fun i hi => by
   have l1 : ((List.range i).map fun i : Nat => (rd l (i : Int) + rd (row Ps (j : Int)) (i : Int)) % m).length = i := by simp
   have a := hla (i : Int) (by omega) (by omega)
   have b := pa (i : Int) (by omega) (by omega)
   rw [adm_step, impl_classOf.l3_eq, wn (j := i) (by omega), w64 (x := rd l (i : Int) + rd (row Ps (j : Int)) (i : Int)) (by omega) (by omega), tmod_nn (show 0 ≤ rd l (i : Int) + rd (row Ps (j : Int)) (i : Int) by omega), l1, l2']
   clear a b
   ((with_reducible repeat (first | refine go_pos (by first | assumption | omega | rfl | exact B_pos (by omega)) ?_ | refine go_neg (by first | assumption | omega | decide | exact B_not (by omega)) ?_ | refine go_bind (by first | assumption) ?_ | dsimp only)); first | done | (with_reducible rfl) | simp (disch := omega) only [w64] | (show False; done)))
  simp only [Int.natCast_zero, List.range_zero, List.map_nil] at this
  have e : (List.range l.length).map (fun i : Nat => (rd l (i : Int) + rd (row Ps (j : Int)) (i : Int)) % m) = adm m l (row Ps (j : Int)) := rfl
  obtain ⟨c, c1, c2, _⟩ := Compare_ (x := adm m l (row Ps (j : Int))) (y := r1) (W := l.length) (adm_len _ _ _) hr1 (by omega)
  rw [this, impl_classOf.l3_eq, wn (j := j) (by omega), if_neg (by omega), e, if_pos (by omega), c1, Option.bind_some]
  exact ⟨fun h => if_pos (c2.2 h), fun h => if_neg fun k => h (c2.1 k)⟩
 have outer : ∀ (n j : Nat) (r1 : List Int), j + n = Ps.length → 0 < j → Cand m u l r1 → (∀ i : Nat, i < j → ¬ Ll l.length (adm m l (row Ps (i : Int))) r1) → ∃ r, impl_classOf.l2 l Ps (Ps.length : Int) (j : Int) m u r1 = some r ∧ Cand m u l r ∧ ∀ i : Nat, i < Ps.length → ¬ Ll l.length (adm m l (row Ps (i : Int))) r := by
  intro n
  induction n with
  | zero =>
   intro j r1 hj _ hc hb
   refine ⟨r1, ?_, hc, fun i hi => hb i (by omega)⟩
   rw [impl_classOf.l2_eq]
   ((with_reducible repeat (first | refine go_pos (by first | assumption | omega | rfl | exact B_pos (by omega)) ?_ | refine go_neg (by first | assumption | omega | decide | exact B_not (by omega)) ?_ | refine go_bind (by first | assumption) ?_ | dsimp only)); first | done | (with_reducible rfl) | simp (disch := omega) only [w64] | (show False; done))
  | succ n ih =>
   intro j r1 hj j0 hc hb
   have hr1 : r1.length = l.length := by obtain ⟨a, _, rfl⟩ := hc; rw [adm_len]
   obtain ⟨k1, k2⟩ := inner3 j r1 (by omega) hr1
   by_cases h : Ll l.length (adm m l (row Ps (j : Int))) r1
   ·
    obtain ⟨r, e, f⟩ := ih (j + 1) _ (by omega) (by omega) (hrow j (by omega)).2.2 (fun i hi => by
     by_cases e : i = j
     ·
      rw [e]; exact Ll.irrefl
     ·
      exact fun q => hb i (by omega) (q.trans h))
    refine ⟨r, ?_, f⟩
    have k := k1 h
    rw [impl_classOf.l2_eq]
    (with_reducible repeat (first | refine go_pos (by first | assumption | omega | rfl | exact B_pos (by omega)) ?_ | refine go_neg (by first | assumption | omega | decide | exact B_not (by omega)) ?_ | refine go_bind (by first | assumption) ?_ | dsimp only))
    rw [k, e]
   ·
    obtain ⟨r, e, f⟩ := ih (j + 1) r1 (by omega) (by omega) hc (fun i hi => by
     by_cases e : i = j
     ·
      rw [e]; exact h
     ·
      exact hb i (by omega))
    refine ⟨r, ?_, f⟩
    have k := k2 h
    rw [impl_classOf.l2_eq]
    (with_reducible repeat (first | refine go_pos (by first | assumption | omega | rfl | exact B_pos (by omega)) ?_ | refine go_neg (by first | assumption | omega | decide | exact B_not (by omega)) ?_ | refine go_bind (by first | assumption) ?_ | dsimp only))
    rw [k, e]
 obtain ⟨r, e, f1, f2⟩ := outer (Ps.length - 1) 1 (adm m l (row Ps ((0 : Nat) : Int))) (by omega) (by omega) (hrow 0 h0).2.2 (fun i hi => by rw [show i = 0 by omega]; exact Ll.irrefl)
 refine ⟨r, ?_, f1, fun s hs => ?_⟩
 ·
  have i1 := inner1 0 h0
  simp only [Int.natCast_zero, Nat.zero_add] at i1 e
  rw [impl_classOf.f_eq, impl_classOf.l0_eq]
  (with_reducible repeat (first | refine go_pos (by first | assumption | omega | rfl | exact B_pos (by omega)) ?_ | refine go_neg (by first | assumption | omega | decide | exact B_not (by omega)) ?_ | refine go_bind (by first | assumption) ?_ | dsimp only))
  rw [i1, e]
 ·
  obtain ⟨a, ha, rfl⟩ := hs
  obtain ⟨i, i0, i1, e⟩ := mem_row ((hP _).2 ⟨a, ha, rfl⟩)
  have := f2 i.toNat (by omega)
  rw [Int.toNat_of_nonneg i0, e] at this
  exact this
end Go.Proofs.YthmcpmnhdbeahaaGreat.V
namespace Go.Proofs.YthmcpmnhdbeahaaGreat.P
open Go Go.RowKit Go.Proofs.YthmcpmnhdbeahaaGreat.D
end Go.Proofs.YthmcpmnhdbeahaaGreat.P
namespace Go.Proofs.YthmcpmnhdbeahaaGreat.P
open Go Go.RowKit Go.Proofs.YthmcpmnhdbeahaaGreat.D
end Go.Proofs.YthmcpmnhdbeahaaGreat.P
namespace Go.Proofs.YthmcpmnhdbeahaaGreat.V
open Go.RowKit Go.Proofs.YthmcpmnhdbeahaaGreat.D Go.Proofs.YthmcpmnhdbeahaaGreat.P
theorem principalMapsD {g : List (List Int)} {m : Int} {u : List Int} (hg : Grp g) (hm : Mdl g m u) : ∃ Ps, impl_principalMaps.f m u = some Ps ∧ Ps.Pairwise (fun r s => Ll g.length r s) ∧ (∀ r, r ∈ Ps ↔ ∃ a : Nat, (a : Int) < m ∧ r = prm m u (a : Int)) ∧ 0 < Ps.length ∧ Ps.length ≤ 12 := by
 have n8 := hg.n8; have m2 := hm.m2; have m12 := hm.m12; have hlu := hm.len
 obtain ⟨M, hM⟩ : ∃ M : Nat, m = (M : Int) := Int.eq_ofNat_of_zero_le (by omega)
 obtain ⟨xs, hxs⟩ : ∃ xs : List (List Int), xs = (List.range M).map fun a : Nat => prm m u (a : Int) := ⟨_, rfl⟩
 have hxl : xs.length = M := by rw [hxs]; simp
 have hmem : ∀ r, r ∈ xs ↔ ∃ a : Nat, (a : Int) < m ∧ r = prm m u (a : Int) := fun r => by
  rw [hxs, List.mem_map]
  constructor
  ·
   rintro ⟨a, ha, rfl⟩; exact ⟨a, by have := List.mem_range.1 ha; omega, rfl⟩
  ·
   rintro ⟨a, ha, rfl⟩; exact ⟨a, List.mem_range.2 (by omega), rfl⟩
 have hW : ∀ r ∈ xs, r.length = g.length := fun r hr => by
  obtain ⟨a, _, rfl⟩ := (hmem r).1 hr
  rw [prm_len, hlu]
 obtain ⟨S, s1, s2, s3⟩ := sort_good (f := _root_.Go.Proofs.YthmcpmnhdbeahaaGreat.R.slices_SortFunc_int64.f) hW (C := fun z0 z1 => (slices_Compare_int64.f z0 z1).map fun z => z) (fun x y hx hy => by
  obtain ⟨c, c1, c2, _⟩ := Compare_ hx hy (by omega)
  exact ⟨c, by show Option.map _ (slices_Compare_int64.f x y) = _; rw [c1]; rfl, c2⟩) (fun H L c' hs ho hl hH => sort12 ho (by omega) hH)
 have hSW : ∀ r ∈ S, r.length = g.length := fun r hr => hW r (s3.mem_iff.1 hr)
 have hSl : S.length = M := by rw [s3.length_eq, hxl]
 have hc := compact_good (xs := S) (by omega) (Q := fun z0 z1 => (slices_Equal_int64.f z0 z1).map fun z => z) (fun x hx y hy => by
  show Option.map _ (slices_Equal_int64.f x y) = _
  rw [Equal_ _ _ (by rw [hSW x hx]; omega)]; rfl)
 have hlen := cix_len (fun n => ct S n = ct S (n - 1)) S.length
 refine ⟨_, ?_, cix_sorted hSW s2 S.length (Nat.le_refl _), fun r => ?_, by rw [List.length_map]; exact hlen.2 (by omega), by rw [List.length_map]; omega⟩
 ·
  rw [impl_principalMaps.f_eq]
  have := up M (fun j => impl_principalMaps.l0 m (j : Int) m u ((List.range j).map fun a : Nat => prm m u (a : Int))) (fun j h => by
   have l1 : ((List.range j).map fun a : Nat => prm m u (a : Int)).length = j := by simp
   have l2 : ∀ x : List Int, ([x] : List (List Int)).length = 1 := fun _ => rfl
   have hp := principalMap_ hg hm (a := (j : Int)) (by omega) (by omega)
   rw [List.range_succ, List.map_append, List.map_singleton, impl_principalMaps.l0_eq, wn (j := j) (by omega), hp, Option.bind_some, l1, l2]
   ((with_reducible repeat (first | refine go_pos (by first | assumption | omega | rfl | exact B_pos (by omega)) ?_ | refine go_neg (by first | assumption | omega | decide | exact B_not (by omega)) ?_ | refine go_bind (by first | assumption) ?_ | dsimp only)); first | done | (with_reducible rfl) | simp (disch := omega) only [w64] | (show False; done)))
  simp only [Int.natCast_zero, List.range_zero, List.map_nil, ← hxs] at this
  have e1 : slices_SortFunc_int64.f xs (fun z0 z1 => (slices_Compare_int64.f z0 z1).map fun z => z) = some S := s1
  have e2 : slices_CompactFunc_int64.f S (fun z0 z1 => (slices_Equal_int64.f z0 z1).map fun z => z) = some _ := hc
  rw [this, impl_principalMaps.l0_eq, if_neg (by omega), e1, Option.bind_some, e2, Option.bind_some]
 ·
  rw [cix_mem r S.length (Nat.le_refl _), ← hmem, ← s3.mem_iff]
  constructor
  ·
   rintro ⟨i, hi, rfl⟩; exact List.mem_of_getElem? (ct_get hi)
  ·
   intro h
   obtain ⟨i, hi, rfl⟩ := List.getElem_of_mem h
   exact ⟨i, hi, Option.some.inj ((List.getElem?_eq_getElem hi).symm.trans (ct_get hi))⟩
end Go.Proofs.YthmcpmnhdbeahaaGreat.V
namespace Go.Proofs.YthmcpmnhdbeahaaGreat.V
open Go.RowKit Go.Proofs.YthmcpmnhdbeahaaGreat.D
def itf {α : Type} (f : α → α) : Nat → α → α
 | 0, x => x
 | k + 1, x => f (itf f k x)
theorem itf_add {α : Type} (f : α → α) (x : α) (j : Nat) : ∀ k, itf f (k + j) x = itf f k (itf f j x) := by
 intro k
 induction k with
 | zero => rw [Nat.zero_add]; rfl
 | succ k ih => rw [show k + 1 + j = (k + j) + 1 by omega]; show f (itf f (k + j) x) = f (itf f k (itf f j x)); rw [ih]
theorem itf_mem {α : Type} {f : α → α} {S : List α} (h : ∀ x ∈ S, f x ∈ S) {x : α} (hx : x ∈ S) : ∀ k, itf f k x ∈ S := by
 intro k
 induction k with
 | zero => exact hx
 | succ k ih => exact h _ ih
theorem len_split {α : Type} (p : α → Bool) : ∀ l : List α, l.length = (l.filter p).length + (l.filter fun x => !p x).length
 | [] => rfl
 | x :: l => by
  have := len_split p l
  rw [List.filter_cons, List.filter_cons, List.length_cons]
  cases h : p x
  ·
   rw [if_neg (by decide), if_pos (by decide), List.length_cons]; omega
  ·
   rw [if_pos rfl, if_neg (by decide), List.length_cons]; omega
theorem orbit_dvd {α : Type} [DecidableEq α] (f : α → α) (d : Nat) (hd : 0 < d) : ∀ (n : Nat) (S : List α), S.length ≤ n → S.Nodup → (∀ x ∈ S, f x ∈ S) → (∀ x ∈ S, itf f d x = x) → (∀ x ∈ S, ∀ k, 0 < k → k < d → itf f k x ≠ x) → d ∣ S.length := by
 intro n
 induction n with
 | zero => intro S hn _ _ _ _; rw [show S.length = 0 by omega]; exact Nat.dvd_zero d
 | succ n ih =>
  intro S hn hnd hf hD hk
  cases S with
  | nil => exact Nat.dvd_zero d
  | cons x0 S0 =>
   obtain ⟨S, hS⟩ : ∃ S, S = x0 :: S0 := ⟨_, rfl⟩
   rw [← hS] at hn hnd hf hD hk ⊢
   have hx : x0 ∈ S := by rw [hS]; exact List.mem_cons_self
   have mem := itf_mem hf hx
   obtain ⟨O, hO⟩ : ∃ O, O = (List.range d).map fun k => itf f k x0 := ⟨_, rfl⟩
   have hOl : O.length = d := by rw [hO]; simp
   have inj : ∀ i j, i < j → j < d → itf f i x0 ≠ itf f j x0 := fun i j hij hj e => by
    have e1 := itf_add f x0 i (j - i)
    rw [show j - i + i = j by omega] at e1
    rw [← e] at e1
    exact hk _ (mem i) (j - i) (by omega) (by omega) e1.symm
   have hOn : O.Nodup := by
    rw [hO, List.Nodup, List.pairwise_map]
    exact List.Pairwise.imp_of_mem (fun {a b} ha hb h => inj a b h (List.mem_range.1 hb)) (List.pairwise_lt_range (n := d))
   have hOS : ∀ y ∈ O, y ∈ S := fun y hy => by
    rw [hO] at hy
    obtain ⟨k, _, rfl⟩ := List.mem_map.1 hy
    exact mem k
   have hback : ∀ y ∈ S, f y ∈ O → y ∈ O := fun y hy hfy => by
    rw [hO] at hfy ⊢
    obtain ⟨k, hk', e⟩ := List.mem_map.1 hfy
    have e1 : y = itf f (d - 1 + k) x0 := by
     rw [itf_add, e]
     have := hD y hy
     rw [show d = d - 1 + 1 by omega, itf_add] at this
     exact this.symm
    rcases Nat.lt_or_ge (d - 1 + k) d with q | q
    ·
     exact List.mem_map.2 ⟨d - 1 + k, List.mem_range.2 q, e1.symm⟩
    ·
     have hkd := List.mem_range.1 hk'
     refine List.mem_map.2 ⟨d - 1 + k - d, List.mem_range.2 (by omega), ?_⟩
     rw [e1, show d - 1 + k = (d - 1 + k - d) + d by omega, itf_add, hD x0 hx, show d - 1 + k - d + d - d = d - 1 + k - d by omega]
   have hlen : S.length = d + (S.filter fun y => decide (y ∉ O)).length := by
    have h1 : (S.filter fun y => decide (y ∈ O)).length = d := by
     rw [← hOl]
     apply Nat.le_antisymm
     ·
      exact nd_le (hnd.filter _) fun y hy => by simpa using (List.mem_filter.1 hy).2
     ·
      exact nd_le hOn fun y hy => List.mem_filter.2 ⟨hOS y hy, by simpa using hy⟩
    have := len_split (fun y => decide (y ∈ O)) S
    rw [h1] at this
    rw [this]
    congr 2
    apply List.filter_congr
    intro y _
    simp
   rw [hlen]
   refine Nat.dvd_add (Nat.dvd_refl d) (ih _ (by omega) (hnd.filter _) (fun y hy => ?_) (fun y hy => hD y (List.mem_filter.1 hy).1) (fun y hy => hk y (List.mem_filter.1 hy).1))
   obtain ⟨h1, h2⟩ := List.mem_filter.1 hy
   refine List.mem_filter.2 ⟨hf y h1, ?_⟩
   have h2 : y ∉ O := by simpa using h2
   simpa using fun k => h2 (hback y h1 k)
end Go.Proofs.YthmcpmnhdbeahaaGreat.V
namespace Go.Proofs.YthmcpmnhdbeahaaGreat.V
open Go.RowKit Go.Proofs.YthmcpmnhdbeahaaGreat.D Go.Proofs.YthmcpmnhdbeahaaGreat.P
def Pr (g : List (List Int)) (m p : Int) : Prop := 0 ≤ p ∧ p < g.length * m
theorem Pr.parts {g : List (List Int)} {m p : Int} (hm : 0 < m) (h : Pr g m p) : (0 ≤ p / m ∧ p / m < g.length) ∧ 0 ≤ p % m ∧ p % m < m := by
 obtain ⟨a, b, c, d⟩ := pair_parts hm h.1 h.2
 exact ⟨⟨a, b⟩, c, d⟩
theorem PP_parts {g : List (List Int)} {m : Int} {u : List Int} (hg : Grp g) (hm : Mdl g m u) {p q : Int} (hp : Pr g m p) (hq : Pr g m q) :
  Pr g m (PP g m u p q) ∧ PP g m u p q / m = T g (p / m) (q / m) ∧ PP g m u p q % m = (p % m + rd u (p / m) * (q % m)) % m := by
 have m2 := hm.m2
 obtain ⟨⟨x0, x1⟩, a0, a1⟩ := hp.parts (show 0 < m by omega)
 obtain ⟨⟨y0, y1⟩, b0, b1⟩ := hq.parts (show 0 < m by omega)
 obtain ⟨t0, t1⟩ := hg.ent _ _ x0 x1 y0 y1
 have e1 : 0 ≤ m * T g (p / m) (q / m) := Int.mul_nonneg (by omega) t0
 have e2 : m * T g (p / m) (q / m) ≤ m * (g.length - 1) := Int.mul_le_mul_of_nonneg_left (by omega) (by omega)
 have e3 : m * ((g.length : Int) - 1) = g.length * m - m := by rw [Int.mul_sub, Int.mul_comm]; omega
 have f0 := Int.emod_nonneg (p % m + rd u (p / m) * (q % m)) (show m ≠ 0 by omega)
 have f1 := Int.emod_lt_of_pos (p % m + rd u (p / m) * (q % m)) (show 0 < m by omega)
 unfold Pr PP
 refine ⟨⟨by omega, by omega⟩, ?_, ?_⟩
 ·
  rw [Int.mul_add_ediv_left _ _ (by omega), Int.ediv_eq_zero_of_lt f0 f1, Int.add_zero]
 ·
  rw [Int.mul_add_emod_self_left, Int.emod_emod_of_dvd _ (Int.dvd_refl m)]
theorem pr_ext {m p q : Int} (h1 : p / m = q / m) (h2 : p % m = q % m) : p = q := by
 have a := Int.mul_ediv_add_emod p m
 have b := Int.mul_ediv_add_emod q m
 rw [h1, h2] at a
 omega
theorem emod_same {m a b : Int} (h : m ∣ a - b) : a % m = b % m := Int.emod_eq_emod_iff_emod_sub_eq_zero.2 (Int.emod_eq_zero_of_dvd h)
theorem dvd_mod (m a : Int) : m ∣ a - a % m := Int.dvd_self_sub_emod
theorem PP_assoc {g : List (List Int)} {m : Int} {u : List Int} (hg : Grp g) (hm : Mdl g m u) {p q r : Int} (hp : Pr g m p) (hq : Pr g m q) (hr : Pr g m r) : PP g m u (PP g m u p q) r = PP g m u p (PP g m u q r) := by
 have m2 := hm.m2; have hlu := hm.len
 obtain ⟨a1, a2, a3⟩ := PP_parts hg hm hp hq
 obtain ⟨b1, b2, b3⟩ := PP_parts hg hm hq hr
 obtain ⟨_, c2, c3⟩ := PP_parts hg hm a1 hr
 obtain ⟨_, d2, d3⟩ := PP_parts hg hm hp b1
 obtain ⟨⟨x0, x1⟩, _⟩ := hp.parts (show 0 < m by omega)
 obtain ⟨⟨y0, y1⟩, _⟩ := hq.parts (show 0 < m by omega)
 obtain ⟨⟨z0, z1⟩, _⟩ := hr.parts (show 0 < m by omega)
 refine pr_ext ?_ ?_ (m := m)
 ·
  rw [c2, d2, a2, b2, hg.assoc _ _ _ x0 x1 y0 y1 z0 z1]
 ·
  rw [c3, d3, a2, a3, b3, hm.hom _ x0 (by omega) _ y0 (by omega)]
  refine emod_same ?_
  obtain ⟨k1, h1⟩ := dvd_mod m (p % m + rd u (p / m) * (q % m))
  obtain ⟨k2, h2⟩ := dvd_mod m (rd u (p / m) * rd u (q / m))
  obtain ⟨k3, h3⟩ := dvd_mod m (q % m + rd u (q / m) * (r % m))
  refine ⟨-k1 - k2 * (r % m) + rd u (p / m) * k3, ?_⟩
  have e1 : (p % m + rd u (p / m) * (q % m)) % m = p % m + rd u (p / m) * (q % m) - m * k1 := by omega
  have e2 : rd u (p / m) * rd u (q / m) % m = rd u (p / m) * rd u (q / m) - m * k2 := by omega
  have e3 : (q % m + rd u (q / m) * (r % m)) % m = q % m + rd u (q / m) * (r % m) - m * k3 := by omega
  rw [e1, e2, e3]
  simp only [Int.mul_add, Int.mul_sub, Int.sub_mul, Int.add_mul, Int.mul_neg, Int.mul_assoc, Int.mul_left_comm (rd u (p / m)) m k3]
  omega
theorem Pr.zero {g : List (List Int)} {m : Int} {u : List Int} (hg : Grp g) (hm : Mdl g m u) : Pr g m 0 := by
 have n1 := hg.n1; have m2 := hm.m2
 have := Int.mul_pos (show (0 : Int) < g.length by omega) (show 0 < m by omega)
 exact ⟨Int.le_refl _, this⟩
theorem PP_zero {g : List (List Int)} {m : Int} {u : List Int} (hg : Grp g) (hm : Mdl g m u) {p : Int} (hp : Pr g m p) : PP g m u p 0 = p ∧ PP g m u 0 p = p := by
 have m2 := hm.m2
 obtain ⟨⟨x0, x1⟩, a0, a1⟩ := hp.parts (show 0 < m by omega)
 obtain ⟨_, a2, a3⟩ := PP_parts hg hm hp (Pr.zero hg hm)
 obtain ⟨_, b2, b3⟩ := PP_parts hg hm (Pr.zero hg hm) hp
 rw [Int.zero_ediv] at a2 b2 b3
 rw [Int.zero_emod] at a3 b3
 rw [hm.one hg, Int.one_mul, Int.zero_add, Int.emod_emod_of_dvd _ (Int.dvd_refl m)] at b3
 rw [Int.mul_zero, Int.add_zero, Int.emod_emod_of_dvd _ (Int.dvd_refl m)] at a3
 exact ⟨pr_ext (by rw [a2, hg.one' _ x0 x1]) a3, pr_ext (by rw [b2, hg.one _ x0 x1]) b3⟩
theorem PP_inv {g : List (List Int)} {m : Int} {u : List Int} (hg : Grp g) (hm : Mdl g m u) {p y b : Int} (hp : Pr g m p) (y0 : 0 ≤ y) (y1 : y < g.length) (hy : T g (p / m) y = 0) (b0 : 0 ≤ b) (b1 : b < m) (hb : m ∣ p % m + rd u (p / m) * b) : Pr g m (m * y + b) ∧ PP g m u p (m * y + b) = 0 := by
 have m2 := hm.m2
 have e1 : (m * y + b) / m = y := by rw [Int.mul_add_ediv_left _ _ (by omega), Int.ediv_eq_zero_of_lt b0 b1, Int.add_zero]
 have e2 : (m * y + b) % m = b := by rw [Int.mul_add_emod_self_left, Int.emod_eq_of_lt b0 b1]
 have hq : Pr g m (m * y + b) := by
  have k1 : 0 ≤ m * y := Int.mul_nonneg (by omega) y0
  have k2 : m * y ≤ m * (g.length - 1) := Int.mul_le_mul_of_nonneg_left (by omega) (by omega)
  have k3 : m * ((g.length : Int) - 1) = g.length * m - m := by rw [Int.mul_sub, Int.mul_comm]; omega
  exact ⟨by omega, by omega⟩
 obtain ⟨_, a2, a3⟩ := PP_parts hg hm hp hq
 refine ⟨hq, pr_ext (m := m) ?_ ?_⟩
 ·
  rw [a2, e1, hy, Int.zero_ediv]
 ·
  rw [a3, e2, Int.emod_eq_zero_of_dvd hb, Int.zero_emod]
theorem PP_itf {g : List (List Int)} {m : Int} {u : List Int} (hg : Grp g) (hm : Mdl g m u) {p x : Int} (hp : Pr g m p) (hx : Pr g m x) : ∀ k, Pr g m (itf (fun q => PP g m u q p) k x) ∧ Pr g m (itf (fun q => PP g m u q p) k 0) ∧ itf (fun q => PP g m u q p) k x = PP g m u x (itf (fun q => PP g m u q p) k 0) := by
 intro k
 induction k with
 | zero => exact ⟨hx, Pr.zero hg hm, (PP_zero hg hm hx).1.symm⟩
 | succ k ih =>
  obtain ⟨h1, h2, h3⟩ := ih
  refine ⟨(PP_parts hg hm h1 hp).1, (PP_parts hg hm h2 hp).1, ?_⟩
  show PP g m u (itf _ k x) p = PP g m u x (PP g m u (itf _ k 0) p)
  rw [h3, PP_assoc hg hm hx h2 hp]
theorem PP_cancel {g : List (List Int)} {m : Int} {u : List Int} (hg : Grp g) (hm : Mdl g m u) {x y z : Int} (hx : Pr g m x) (hy : Pr g m y) (h : PP g m u x y = x) : y = 0 := by
 have m2 := hm.m2; have hlu := hm.len
 obtain ⟨⟨x0, x1⟩, a0, a1⟩ := hx.parts (show 0 < m by omega)
 obtain ⟨⟨y0, y1⟩, b0, b1⟩ := hy.parts (show 0 < m by omega)
 obtain ⟨i, i0, i1, hi, hi'⟩ := hg.inv2 x0 x1
 obtain ⟨_, a2, a3⟩ := PP_parts hg hm hx hy
 rw [h] at a2 a3
 refine pr_ext (m := m) ?_ ?_
 ·
  have : T g i (T g (x / m) (y / m)) = T g i (x / m) := by rw [← a2]
  rw [← hg.assoc _ _ _ i0 i1 x0 x1 y0 y1, hi', hg.one _ y0 y1] at this
  rw [this, Int.zero_ediv]
 ·
  have hd : m ∣ rd u (x / m) * (y % m) := by
   have h1 : m ∣ (x % m + rd u (x / m) * (y % m)) - x % m := by
    have := dvd_mod m (x % m + rd u (x / m) * (y % m))
    rwa [← a3] at this
   rwa [show x % m + rd u (x / m) * (y % m) - x % m = rd u (x / m) * (y % m) by omega] at h1
  have hu := (hm.unit (x / m) x0 (by omega)).2.2
  have : m ∣ y % m := by
   have h1 := Int.natAbs_dvd_natAbs.2 hd
   rw [Int.natAbs_mul] at h1
   exact Int.natAbs_dvd_natAbs.1 (Nat.Coprime.dvd_of_dvd_mul_left (show Nat.Coprime m.natAbs (rd u (x / m)).natAbs from by rw [Nat.coprime_comm]; exact hu) h1)
  have := Int.emod_eq_zero_of_dvd this
  rw [Int.emod_emod_of_dvd _ (Int.dvd_refl m)] at this
  rw [this, Int.zero_emod]
theorem PP_order {g : List (List Int)} {m : Int} {u : List Int} (hg : Grp g) (hm : Mdl g m u) {p : Int} (hp : Pr g m p) : ∃ d : Nat, 0 < d ∧ d ≤ 96 ∧ itf (fun q => PP g m u q p) d 0 = 0 ∧ (∀ k, 0 < k → k < d → itf (fun q => PP g m u q p) k 0 ≠ 0) ∧ (d : Int) ∣ g.length * m := by
 have m2 := hm.m2; have m12 := hm.m12; have n1 := hg.n1
 obtain ⟨w0, w1⟩ := nm_bd hg hm
 obtain ⟨N, hN⟩ : ∃ N : Nat, (N : Int) = g.length * m := ⟨((g.length : Int) * m).toNat, by omega⟩
 have h0 := Pr.zero hg hm
 have pr : ∀ k, Pr g m (itf (fun q => PP g m u q p) k 0) := fun k => (PP_itf hg hm hp h0 k).2.1
 have back : ∀ i j, i < j → itf (fun q => PP g m u q p) i 0 = itf (fun q => PP g m u q p) j 0 → itf (fun q => PP g m u q p) (j - i) 0 = 0 := fun i j hij e => by
  have e1 := itf_add (fun q => PP g m u q p) 0 i (j - i)
  rw [show j - i + i = j by omega, ← e, (PP_itf hg hm hp (pr i) (j - i)).2.2] at e1
  exact PP_cancel hg hm (z := 0) (pr i) (pr _) e1.symm
 have hex : ∃ d, 0 < d ∧ d ≤ N ∧ itf (fun q => PP g m u q p) d 0 = 0 := by
  apply Classical.byContradiction
  intro hno
  have hnd : ((List.range (N + 1)).map fun k => itf (fun q => PP g m u q p) k 0).Nodup := by
   rw [List.Nodup, List.pairwise_map]
   exact List.Pairwise.imp_of_mem (fun {a b} ha hb h e => hno ⟨b - a, by omega, by have := List.mem_range.1 hb; omega, back a b h e⟩) (List.pairwise_lt_range (n := N + 1))
  have := nd_le (m := (List.range N).map fun k : Nat => (k : Int)) hnd (fun x hx => by
   obtain ⟨k, _, rfl⟩ := List.mem_map.1 hx
   obtain ⟨a, b⟩ := pr k
   exact List.mem_map.2 ⟨(itf (fun q => PP g m u q p) k 0).toNat, List.mem_range.2 (by omega), by omega⟩)
  rw [List.length_map, List.length_map, List.length_range, List.length_range] at this
  omega
 obtain ⟨d, hd, hmin⟩ : ∃ d, (0 < d ∧ d ≤ N ∧ itf (fun q => PP g m u q p) d 0 = 0) ∧ ∀ k, k < d → ¬ (0 < k ∧ k ≤ N ∧ itf (fun q => PP g m u q p) k 0 = 0) := by
  obtain ⟨d, hd⟩ := hex
  induction d using Nat.strongRecOn with
  | _ d ih =>
   by_cases q : ∃ k, k < d ∧ (0 < k ∧ k ≤ N ∧ itf (fun q => PP g m u q p) k 0 = 0)
   ·
    obtain ⟨k, hk, h⟩ := q
    exact ih k hk h
   ·
    exact ⟨d, hd, fun k hk h => q ⟨k, hk, h⟩⟩
 obtain ⟨d0, d1, d2⟩ := hd
 refine ⟨d, d0, by omega, d2, fun k k0 k1 h => hmin k k1 ⟨k0, by omega, h⟩, ?_⟩
 have := orbit_dvd (fun q => PP g m u q p) d d0 N ((List.range N).map fun k : Nat => (k : Int)) (by simp) (by
   rw [List.Nodup, List.pairwise_map]
   exact (List.pairwise_lt_range (n := N)).imp fun {a b} h e => by omega) (fun x hx => by
   obtain ⟨k, hk, rfl⟩ := List.mem_map.1 hx
   have hk := List.mem_range.1 hk
   obtain ⟨a, b⟩ := (PP_parts hg hm (p := (k : Int)) (q := p) ⟨by omega, by omega⟩ hp).1
   exact List.mem_map.2 ⟨(PP g m u (k : Int) p).toNat, List.mem_range.2 (by omega), by omega⟩) (fun x hx => by
   obtain ⟨k, hk, rfl⟩ := List.mem_map.1 hx
   have hk := List.mem_range.1 hk
   have hx : Pr g m (k : Int) := ⟨by omega, by omega⟩
   rw [(PP_itf hg hm hp hx d).2.2, d2, (PP_zero hg hm hx).1]) (fun x hx j j0 j1 e => by
   obtain ⟨k, hk, rfl⟩ := List.mem_map.1 hx
   have hk := List.mem_range.1 hk
   have hx : Pr g m (k : Int) := ⟨by omega, by omega⟩
   rw [(PP_itf hg hm hp hx j).2.2] at e
   exact hmin j j1 ⟨j0, by omega, PP_cancel hg hm (z := 0) hx (pr j) e⟩)
 rw [List.length_map, List.length_range] at this
 rw [← hN]
 exact Int.natCast_dvd_natCast.2 this
end Go.Proofs.YthmcpmnhdbeahaaGreat.V
