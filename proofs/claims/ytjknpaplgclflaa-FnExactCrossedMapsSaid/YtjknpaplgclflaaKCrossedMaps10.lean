/- What the proof of the law CrossedMaps stands on, part 10: words, each Go function's Lean function, and that the Go code comes to its answers; no condition. (Packed by wip/myprint/pack.py out of what the kit's printer wrote, its words among it, partly by our patches of it, and out of texts of this session.) -/
import Derived.Test.YtjknpaplgclflaaRows
import Derived.WalkKit
import Derived.ProofKit
import Derived.KernelRfl
import Derived.Test.YtjknpaplgclflaaKCrossedMaps4
import Derived.Test.YtjknpaplgclflaaKCrossedMaps7
import Derived.Test.YtjknpaplgclflaaKCrossedMaps8
import Derived.Test.YtjknpaplgclflaaKCrossedMaps9
set_option linter.unusedVariables false
set_option linter.unusedSimpArgs false
set_option maxHeartbeats 4000000
set_option maxRecDepth 20000
namespace Go.Proofs.Ytjknpaplgclflaa.V
open Go Go.RowKit Go.Proofs.Ytjknpaplgclflaa.D Go.Proofs.Ytjknpaplgclflaa.P
open Go.Sort (swp insInner insOuter insertionSort siftDown heapBuild heapPop heapSort scanUp scanDown partLoop partition partEqLoop partitionEqual scanSorted shiftDown shiftUp partialIns partialInsertionSort reverseLoop reverseRange SWO PermIn SortedIn fixDown fixUp)
variable {H : Value → Prop} {lt : Value → Value → Bool} {C : Value → Value → Option Int}
theorem Al.perm {N a b : Nat} {d d' : Array Value} (hd : Al H N d) (hb : b ≤ N) (h : PermIn a b d d') : Al H N d' where
  sz := h.1.trans hd.sz
  all := fun i hi => by
    by_cases k : a ≤ i ∧ i < b
    · exact Go.Sort.permIn_all d d' a b H (by rw [hd.sz]; exact hb) h (fun j h1 h2 => hd.all j (by omega)) i k.1 k.2
    · rw [h.2.1 i (by omega)]; exact hd.all i hi
theorem psDown {N : Nat} (hc : Cm H lt C) (hN : N ≤ 1000000000) {x1 x2 x9 x10 : Int} : ∀ (j : Nat) (d : Array Value), j < N → Al H N d →
    _root_.Go.Proofs.Ytjknpaplgclflaa.R.slices_partialInsertionSortCmpFunc_int64.l2 x1 x2 C x9 x10 (j : Int) d.toList = _root_.Go.Proofs.Ytjknpaplgclflaa.R.slices_partialInsertionSortCmpFunc_int64.j3 x1 x2 C x9 x10 (shiftDown lt j d).toList ∧ Al H N (shiftDown lt j d) := by
  intro j
  induction j with
  | zero =>
    intro d hj hd
    refine ⟨?_, hd⟩
    rw [_root_.Go.Proofs.Ytjknpaplgclflaa.R.slices_partialInsertionSortCmpFunc_int64.l2_eq, if_neg (by omega)]
    rfl
  | succ j ih =>
    intro d hj hd
    have hs := hd.sz
    obtain ⟨c, c1, c2⟩ := hc.cmp _ _ (hd.all (j + 1) hj) (hd.all j (by omega))
    have e : shiftDown lt (j + 1) d = if !lt d[j + 1]! d[j]! then d else shiftDown lt j (Go.Sort.swp d (j + 1) j) := rfl
    have w1 : wrapI (((j + 1 : Nat) : Int) - 1) = (j : Int) := by rw [w64 (by omega) (by omega)]; omega
    rw [_root_.Go.Proofs.Ytjknpaplgclflaa.R.slices_partialInsertionSortCmpFunc_int64.l2_eq, w1, rdA (i := j + 1) (by omega), rdA (i := j) (by omega)]
    simp only [List.length_set, Array.length_toList, Int.toNat_natCast, swpL, Nat.add_sub_cancel]
    by_cases h2 : lt d[j + 1]! d[j]! = true
    · have h3 := c2.2 h2
      obtain ⟨i1, i2⟩ := ih (Go.Sort.swp d (j + 1) j) (by omega) (hd.swp hj (by omega))
      rw [e.trans (if_neg (by simp [h2]))]
      refine ⟨?_, i2⟩
      (with_reducible repeat (first | refine go_pos (by first | assumption | omega | rfl | exact B_pos (by omega)) ?_ | refine go_neg (by first | assumption | omega | decide | exact B_not (by omega)) ?_ | refine go_bind (by first | assumption) ?_ | dsimp only))
      exact i1
    · have h3 : ¬ c < 0 := fun k => h2 (c2.1 k)
      rw [e.trans (if_pos (by simp [h2]))]
      refine ⟨?_, hd⟩
      (with_reducible repeat (first | refine go_pos (by first | assumption | omega | rfl | exact B_pos (by omega)) ?_ | refine go_neg (by first | assumption | omega | decide | exact B_not (by omega)) ?_ | refine go_bind (by first | assumption) ?_ | dsimp only))
theorem psUp {N : Nat} (hc : Cm H lt C) (hN : N ≤ 1000000000) {x1 x9 x10 : Int} {b : Nat} (hb : b ≤ N) : ∀ (n j : Nat) (d : Array Value), b - j ≤ n → 1 ≤ j → j ≤ N + 1 → Al H N d →
    _root_.Go.Proofs.Ytjknpaplgclflaa.R.slices_partialInsertionSortCmpFunc_int64.l4 x1 (b : Int) C x9 x10 (j : Int) d.toList = _root_.Go.Proofs.Ytjknpaplgclflaa.R.slices_partialInsertionSortCmpFunc_int64.l0 x1 (b : Int) C x9 (wrapI (x10 + 1)) (shiftUp lt b j d).toList ∧ Al H N (shiftUp lt b j d) := by
  intro n
  induction n with
  | zero =>
    intro j d hn h1 hj hd
    rw [_root_.Go.Proofs.Ytjknpaplgclflaa.R.slices_partialInsertionSortCmpFunc_int64.l4_eq, if_neg (by omega), shiftUp, if_neg (by omega)]
    exact ⟨rfl, hd⟩
  | succ n ih =>
    intro j d hn h1 hj hd
    have hs := hd.sz
    by_cases h : j < b
    · obtain ⟨c, c1, c2⟩ := hc.cmp _ _ (hd.all j (by omega)) (hd.all (j - 1) (by omega))
      rw [_root_.Go.Proofs.Ytjknpaplgclflaa.R.slices_partialInsertionSortCmpFunc_int64.l4_eq, wP (j := j) (by omega) (by omega), wn (j := j) (by omega), rdA (i := j) (by omega), rdA (i := j - 1) (by omega)]
      simp only [List.length_set, Array.length_toList, Int.toNat_natCast, swpL, Nat.add_sub_cancel]
      by_cases h2 : lt d[j]! d[j - 1]! = true
      · have h3 := c2.2 h2
        obtain ⟨i1, i2⟩ := ih (j + 1) (Go.Sort.swp d j (j - 1)) (by omega) (by omega) (by omega) (hd.swp (by omega) (by omega))
        have e : shiftUp lt b j d = shiftUp lt b (j + 1) (Go.Sort.swp d j (j - 1)) := by rw [shiftUp, if_pos h, if_neg (by simp [h2])]
        rw [e]
        refine ⟨?_, i2⟩
        (with_reducible repeat (first | refine go_pos (by first | assumption | omega | rfl | exact B_pos (by omega)) ?_ | refine go_neg (by first | assumption | omega | decide | exact B_not (by omega)) ?_ | refine go_bind (by first | assumption) ?_ | dsimp only))
        exact i1
      · have h3 : ¬ c < 0 := fun k => h2 (c2.1 k)
        have e : shiftUp lt b j d = d := by rw [shiftUp, if_pos h, if_pos (by simp [h2])]
        rw [e]
        refine ⟨?_, hd⟩
        (with_reducible repeat (first | refine go_pos (by first | assumption | omega | rfl | exact B_pos (by omega)) ?_ | refine go_neg (by first | assumption | omega | decide | exact B_not (by omega)) ?_ | refine go_bind (by first | assumption) ?_ | dsimp only))
    · rw [_root_.Go.Proofs.Ytjknpaplgclflaa.R.slices_partialInsertionSortCmpFunc_int64.l4_eq, if_neg (by omega), shiftUp, if_neg h]
      exact ⟨rfl, hd⟩
theorem psAfter {N : Nat} (hc : Cm H lt C) (hN : N ≤ 1000000000) {a b : Nat} (hb : b ≤ N) {x10 : Int} {i : Nat} (hai : a < i) (hib : i ≤ b) {d : Array Value} (hd : Al H N d)
    (hst : i < b → lt d[i]! d[i - 1]! = true) :
    (i = b → _root_.Go.Proofs.Ytjknpaplgclflaa.R.slices_partialInsertionSortCmpFunc_int64.l1 (a : Int) (b : Int) C (i : Int) x10 d.toList = some (true, d.toList)) ∧
    (i < b → b - a < 50 → _root_.Go.Proofs.Ytjknpaplgclflaa.R.slices_partialInsertionSortCmpFunc_int64.l1 (a : Int) (b : Int) C (i : Int) x10 d.toList = some (false, d.toList)) ∧
    (i < b → ¬ b - a < 50 → _root_.Go.Proofs.Ytjknpaplgclflaa.R.slices_partialInsertionSortCmpFunc_int64.l1 (a : Int) (b : Int) C (i : Int) x10 d.toList = _root_.Go.Proofs.Ytjknpaplgclflaa.R.slices_partialInsertionSortCmpFunc_int64.l0 (a : Int) (b : Int) C (i : Int) (wrapI (x10 + 1)) (fixUp lt b i (fixDown lt a i (Go.Sort.swp d i (i - 1)))).toList ∧ Al H N (fixUp lt b i (fixDown lt a i (Go.Sort.swp d i (i - 1))))) := by
  have hs := hd.sz
  refine ⟨fun h => ?_, fun h h50 => ?_, fun h h50 => ?_⟩
  · rw [_root_.Go.Proofs.Ytjknpaplgclflaa.R.slices_partialInsertionSortCmpFunc_int64.l1_eq, if_neg (by omega), if_pos (by omega)]
  · obtain ⟨c, c1, c2⟩ := hc.cmp _ _ (hd.all i (by omega)) (hd.all (i - 1) (by omega))
    have h3 := c2.2 (hst h)
    rw [_root_.Go.Proofs.Ytjknpaplgclflaa.R.slices_partialInsertionSortCmpFunc_int64.l1_eq, wP (j := i) (by omega) (by omega), wS (a := b) (b := a) (by omega) (by omega), rdA (i := i) (by omega), rdA (i := i - 1) (by omega)]
    simp only [List.length_set, Array.length_toList, Int.toNat_natCast, swpL, Nat.add_sub_cancel]
    (with_reducible repeat (first | refine go_pos (by first | assumption | omega | rfl | exact B_pos (by omega)) ?_ | refine go_neg (by first | assumption | omega | decide | exact B_not (by omega)) ?_ | refine go_bind (by first | assumption) ?_ | dsimp only))
  · obtain ⟨c, c1, c2⟩ := hc.cmp _ _ (hd.all i (by omega)) (hd.all (i - 1) (by omega))
    have h3 := c2.2 (hst h)
    have hd1 := hd.swp (i := i) (j := i - 1) (by omega) (by omega)
    have up : ∀ d2 : Array Value, Al H N d2 → _root_.Go.Proofs.Ytjknpaplgclflaa.R.slices_partialInsertionSortCmpFunc_int64.j3 (a : Int) (b : Int) C (i : Int) x10 d2.toList = _root_.Go.Proofs.Ytjknpaplgclflaa.R.slices_partialInsertionSortCmpFunc_int64.l0 (a : Int) (b : Int) C (i : Int) (wrapI (x10 + 1)) (fixUp lt b i d2).toList ∧ Al H N (fixUp lt b i d2) := fun d2 h2 => by
      unfold fixUp
      rw [_root_.Go.Proofs.Ytjknpaplgclflaa.R.slices_partialInsertionSortCmpFunc_int64.j3_eq, wS (a := b) (b := i) (by omega) (by omega), wn (j := i) (by omega)]
      by_cases k : b - i ≥ 2
      · rw [if_pos (by omega), if_pos k]
        exact psUp hc hN hb _ (i + 1) d2 (Nat.le_refl _) (by omega) (by omega) h2
      · rw [if_neg (by omega), if_neg k]
        exact ⟨rfl, h2⟩
    have dn : (if ((i - a : Nat) : Int) ≥ 2 then _root_.Go.Proofs.Ytjknpaplgclflaa.R.slices_partialInsertionSortCmpFunc_int64.l2 (a : Int) (b : Int) C (i : Int) x10 ((i - 1 : Nat) : Int) (Go.Sort.swp d i (i - 1)).toList else _root_.Go.Proofs.Ytjknpaplgclflaa.R.slices_partialInsertionSortCmpFunc_int64.j3 (a : Int) (b : Int) C (i : Int) x10 (Go.Sort.swp d i (i - 1)).toList)
        = _root_.Go.Proofs.Ytjknpaplgclflaa.R.slices_partialInsertionSortCmpFunc_int64.j3 (a : Int) (b : Int) C (i : Int) x10 (fixDown lt a i (Go.Sort.swp d i (i - 1))).toList ∧ Al H N (fixDown lt a i (Go.Sort.swp d i (i - 1))) := by
      unfold fixDown
      by_cases k : i - a ≥ 2
      · rw [if_pos (by omega), if_pos k]
        exact psDown hc hN (i - 1) _ (by omega) hd1
      · rw [if_neg (by omega), if_neg k]
        exact ⟨rfl, hd1⟩
    obtain ⟨u1, u2⟩ := up _ dn.2
    refine ⟨?_, u2⟩
    rw [_root_.Go.Proofs.Ytjknpaplgclflaa.R.slices_partialInsertionSortCmpFunc_int64.l1_eq, wP (j := i) (by omega) (by omega), wS (a := b) (b := a) (by omega) (by omega), wS (a := i) (b := a) (by omega) (by omega), rdA (i := i) (by omega), rdA (i := i - 1) (by omega)]
    simp only [List.length_set, Array.length_toList, Int.toNat_natCast, swpL, Nat.add_sub_cancel]
    rw [dn.1, u1]
    (with_reducible repeat (first | refine go_pos (by first | assumption | omega | rfl | exact B_pos (by omega)) ?_ | refine go_neg (by first | assumption | omega | decide | exact B_not (by omega)) ?_ | refine go_bind (by first | assumption) ?_ | dsimp only))
theorem psScan {N : Nat} (hc : Cm H lt C) (hN : N ≤ 1000000000) {a b : Nat} (hb : b ≤ N) {x10 : Int} {d : Array Value} (hd : Al H N d) : ∀ (n i : Nat), b - i ≤ n → a < i → i ≤ b →
    _root_.Go.Proofs.Ytjknpaplgclflaa.R.slices_partialInsertionSortCmpFunc_int64.l1 (a : Int) (b : Int) C (i : Int) x10 d.toList = _root_.Go.Proofs.Ytjknpaplgclflaa.R.slices_partialInsertionSortCmpFunc_int64.l1 (a : Int) (b : Int) C ((scanSorted lt d b i : Nat) : Int) x10 d.toList ∧ i ≤ scanSorted lt d b i ∧ scanSorted lt d b i ≤ b ∧ (scanSorted lt d b i < b → lt d[scanSorted lt d b i]! d[scanSorted lt d b i - 1]! = true) := by
  intro n
  induction n with
  | zero =>
    intro i hn hi hib
    have e : scanSorted lt d b i = i := by rw [scanSorted, if_neg (by simp; omega)]
    rw [e]
    exact ⟨rfl, Nat.le_refl _, hib, fun h => by omega⟩
  | succ n ih =>
    intro i hn hi hib
    have hs := hd.sz
    by_cases h : i < b
    · by_cases h2 : lt d[i]! d[i - 1]! = true
      · have e : scanSorted lt d b i = i := by rw [scanSorted, if_neg (by simp [h2])]
        rw [e]
        exact ⟨rfl, Nat.le_refl _, hib, fun _ => h2⟩
      · obtain ⟨c, c1, c2⟩ := hc.cmp _ _ (hd.all i (by omega)) (hd.all (i - 1) (by omega))
        have h3 : ¬ c < 0 := fun k => h2 (c2.1 k)
        have e : scanSorted lt d b i = scanSorted lt d b (i + 1) := by rw [scanSorted, if_pos (by simp [h, h2])]
        obtain ⟨i1, i2, i3, i4⟩ := ih (i + 1) (by omega) (by omega) (by omega)
        rw [e]
        refine ⟨?_, by omega, i3, i4⟩
        rw [← i1]
        conv => lhs; rw [_root_.Go.Proofs.Ytjknpaplgclflaa.R.slices_partialInsertionSortCmpFunc_int64.l1_eq]
        rw [wP (j := i) (by omega) (by omega), wn (j := i) (by omega), rdA (i := i) (by omega), rdA (i := i - 1) (by omega)]
        simp only [List.length_set, Array.length_toList, Int.toNat_natCast, swpL, Nat.add_sub_cancel]
        (with_reducible repeat (first | refine go_pos (by first | assumption | omega | rfl | exact B_pos (by omega)) ?_ | refine go_neg (by first | assumption | omega | decide | exact B_not (by omega)) ?_ | refine go_bind (by first | assumption) ?_ | dsimp only))
    · have e : scanSorted lt d b i = i := by rw [scanSorted, if_neg (by simp; omega)]
      rw [e]
      exact ⟨rfl, Nat.le_refl _, hib, fun k => absurd k h⟩
theorem psMain {N : Nat} (hc : Cm H lt C) (hN : N ≤ 1000000000) {a b : Nat} (hb : b ≤ N) : ∀ (s k i : Nat) (d : Array Value), k + s = 5 → a < i → i ≤ b → Al H N d →
    _root_.Go.Proofs.Ytjknpaplgclflaa.R.slices_partialInsertionSortCmpFunc_int64.l0 (a : Int) (b : Int) C (i : Int) (k : Int) d.toList = some ((partialIns lt a b s i d).2, (partialIns lt a b s i d).1.toList) := by
  intro s
  induction s with
  | zero =>
    intro k i d hk hi hib hd
    rw [_root_.Go.Proofs.Ytjknpaplgclflaa.R.slices_partialInsertionSortCmpFunc_int64.l0_eq, if_neg (by omega)]
    rfl
  | succ s ih =>
    intro k i d hk hi hib hd
    obtain ⟨s1, s2, s3, s4⟩ := psScan hc hN hb (x10 := (k : Int)) hd _ i (Nat.le_refl _) hi hib
    rw [_root_.Go.Proofs.Ytjknpaplgclflaa.R.slices_partialInsertionSortCmpFunc_int64.l0_eq, if_pos (by omega), s1, Go.Sort.partialIns_succ]
    obtain ⟨a1, a2, a3⟩ := psAfter hc hN hb (x10 := (k : Int)) (a := a) (i := scanSorted lt d b i) (by omega) s3 hd s4
    by_cases h : scanSorted lt d b i = b
    · rw [if_pos h, a1 h]
    · rw [if_neg h]
      by_cases h2 : b - a < 50
      · rw [if_pos h2, a2 (by omega) h2]
      · rw [if_neg h2]
        obtain ⟨u1, u2⟩ := a3 (by omega) h2
        rw [u1, wn (j := k) (by omega)]
        exact ih _ _ _ (by omega) (by omega) s3 u2
theorem psF {N : Nat} (hc : Cm H lt C) (hN : N ≤ 1000000000) {a b : Nat} (hab : a < b) (hb : b ≤ N) {d : Array Value} (hd : Al H N d) :
    _root_.Go.Proofs.Ytjknpaplgclflaa.R.slices_partialInsertionSortCmpFunc_int64.f d.toList (a : Int) (b : Int) C = some ((partialInsertionSort lt d a b).2, (partialInsertionSort lt d a b).1.toList) := by
  rw [_root_.Go.Proofs.Ytjknpaplgclflaa.R.slices_partialInsertionSortCmpFunc_int64.f_eq, wn (j := a) (by omega)]
  exact psMain hc hN hb 5 0 (a + 1) d rfl (by omega) (by omega) hd
theorem ord2 {N : Nat} (hc : Cm H lt C) {d : Array Value} (hd : Al H N d) {a b : Nat} (ha : a < N) (hb : b < N) (s : Int) :
    ∃ (x y : Nat) (s' : Int), _root_.Go.Proofs.Ytjknpaplgclflaa.R.slices_order2CmpFunc_int64.f d.toList (a : Int) (b : Int) s C = some ((x : Int), (y : Int), s') ∧ ((x = a ∧ y = b) ∨ (x = b ∧ y = a)) := by
  have hs := hd.sz
  obtain ⟨c, c1, c2⟩ := hc.cmp _ _ (hd.all b hb) (hd.all a ha)
  rw [_root_.Go.Proofs.Ytjknpaplgclflaa.R.slices_order2CmpFunc_int64.f_eq, rdA (i := a) (by omega), rdA (i := b) (by omega)]
  simp only [List.length_set, Array.length_toList, Int.toNat_natCast, swpL, Nat.add_sub_cancel]
  by_cases h : c < 0
  · refine ⟨b, a, wrapI (s + 1), ?_, .inr ⟨rfl, rfl⟩⟩
    (with_reducible repeat (first | refine go_pos (by first | assumption | omega | rfl | exact B_pos (by omega)) ?_ | refine go_neg (by first | assumption | omega | decide | exact B_not (by omega)) ?_ | refine go_bind (by first | assumption) ?_ | dsimp only))
  · refine ⟨a, b, s, ?_, .inl ⟨rfl, rfl⟩⟩
    (with_reducible repeat (first | refine go_pos (by first | assumption | omega | rfl | exact B_pos (by omega)) ?_ | refine go_neg (by first | assumption | omega | decide | exact B_not (by omega)) ?_ | refine go_bind (by first | assumption) ?_ | dsimp only))
theorem med {N : Nat} (hc : Cm H lt C) {d : Array Value} (hd : Al H N d) {a b c : Nat} (ha : a < N) (hb : b < N) (hcN : c < N) (s : Int) :
    ∃ (x : Nat) (s' : Int), _root_.Go.Proofs.Ytjknpaplgclflaa.R.slices_medianCmpFunc_int64.f d.toList (a : Int) (b : Int) (c : Int) s C = some ((x : Int), s') ∧ (x = a ∨ x = b ∨ x = c) := by
  obtain ⟨x1, y1, s1, e1, k1⟩ := ord2 hc hd ha hb s
  obtain ⟨x2, y2, s2, e2, k2⟩ := ord2 hc hd (a := y1) (b := c) (by omega) hcN s1
  obtain ⟨x3, y3, s3, e3, k3⟩ := ord2 hc hd (a := x1) (b := x2) (by omega) (by omega) s2
  refine ⟨y3, s3, ?_, by omega⟩
  rw [_root_.Go.Proofs.Ytjknpaplgclflaa.R.slices_medianCmpFunc_int64.f_eq, map_id', e1]
  dsimp only [Option.bind_some]
  rw [e2]
  dsimp only [Option.bind_some]
  rw [e3]
  rfl
theorem medA {N : Nat} (hc : Cm H lt C) (hN : N ≤ 1000000000) {d : Array Value} (hd : Al H N d) {a : Nat} (h1 : 1 ≤ a) (ha : a + 1 < N) (s : Int) :
    ∃ (x : Nat) (s' : Int), _root_.Go.Proofs.Ytjknpaplgclflaa.R.slices_medianAdjacentCmpFunc_int64.f d.toList (a : Int) s C = some ((x : Int), s') ∧ (x = a - 1 ∨ x = a ∨ x = a + 1) := by
  obtain ⟨x, s', e, k⟩ := med hc hd (a := a - 1) (b := a) (c := a + 1) (by omega) (by omega) ha s
  refine ⟨x, s', ?_, k⟩
  rw [_root_.Go.Proofs.Ytjknpaplgclflaa.R.slices_medianAdjacentCmpFunc_int64.f_eq, map_id', wP (j := a) (by omega) (by omega), wn (j := a) (by omega), e]
  rfl
theorem pivF {N : Nat} (hc : Cm H lt C) (hN : N ≤ 1000000000) {a b : Nat} (hab : a < b) (hb : b ≤ N) {d : Array Value} (hd : Al H N d) :
    ∃ (x : Nat) (h : Int), _root_.Go.Proofs.Ytjknpaplgclflaa.R.slices_choosePivotCmpFunc_int64.f d.toList (a : Int) (b : Int) C = some ((x : Int), h) ∧ a ≤ x ∧ x < b := by
  have t4 : ((b - a : Nat) : Int).tdiv 4 = ((((b - a) / 4 : Nat)) : Int) := by rw [Int.tdiv_eq_ediv_of_nonneg (by omega)]; omega
  have m1 : ∀ q : Nat, q ≤ N → ∀ k : Nat, k ≤ 3 → wrapI ((q : Int) * (k : Int)) = ((q * k : Nat) : Int) := fun q hq k hk => by
    have : q * k ≤ N * 3 := Nat.mul_le_mul hq hk
    rw [w64 (by omega) (by rw [← Int.natCast_mul]; omega), Int.natCast_mul]
  have e1 := m1 ((b - a) / 4) (by omega) 1 (by omega)
  have e2 := m1 ((b - a) / 4) (by omega) 2 (by omega)
  have e3 := m1 ((b - a) / 4) (by omega) 3 (by omega)
  rw [_root_.Go.Proofs.Ytjknpaplgclflaa.R.slices_choosePivotCmpFunc_int64.f_eq, wS (a := b) (b := a) (by omega) (by omega), t4, w64 (x := (((b - a) / 4 : Nat) : Int)) (by omega) (by omega)]
  rw [show (((b - a) / 4 : Nat) : Int) * 1 = (((b - a) / 4 : Nat) : Int) * ((1 : Nat) : Int) from rfl, show (((b - a) / 4 : Nat) : Int) * 2 = (((b - a) / 4 : Nat) : Int) * ((2 : Nat) : Int) from rfl, show (((b - a) / 4 : Nat) : Int) * 3 = (((b - a) / 4 : Nat) : Int) * ((3 : Nat) : Int) from rfl, e1, e2, e3,
    wA (a := a) (b := (b - a) / 4 * 1) (by omega), wA (a := a) (b := (b - a) / 4 * 2) (by omega), wA (a := a) (b := (b - a) / 4 * 3) (by omega), map_id']
  have fin : ∀ (x : Nat) (s : Int), ∃ h : Int, (if s = 0 then some ((x : Int), (1 : Int)) else (if s = 12 then some ((x : Int), 2) else some ((x : Int), 0))) = some ((x : Int), h) := fun x s => by
    by_cases h : s = 0
    · exact ⟨1, by rw [if_pos h]⟩
    · by_cases h2 : s = 12
      · exact ⟨2, by rw [if_neg h, if_pos h2]⟩
      · exact ⟨0, by rw [if_neg h, if_neg h2]⟩
  by_cases h8 : b - a ≥ 8
  · rw [if_pos (by omega)]
    by_cases h50 : b - a ≥ 50
    · rw [if_pos (by omega)]
      obtain ⟨x1, s1, f1, k1⟩ := medA hc hN hd (a := a + (b - a) / 4 * 1) (by omega) (by omega) 0
      obtain ⟨x2, s2, f2, k2⟩ := medA hc hN hd (a := a + (b - a) / 4 * 2) (by omega) (by omega) s1
      obtain ⟨x3, s3, f3, k3⟩ := medA hc hN hd (a := a + (b - a) / 4 * 3) (by omega) (by omega) s2
      obtain ⟨x4, s4, f4, k4⟩ := med hc hd (a := x1) (b := x2) (c := x3) (by omega) (by omega) (by omega) s3
      obtain ⟨h, fh⟩ := fin x4 s4
      refine ⟨x4, h, ?_, by omega, by omega⟩
      rw [f1]
      dsimp only [Option.bind_some]
      rw [f2]
      dsimp only [Option.bind_some]
      rw [f3]
      dsimp only [Option.bind_some]
      rw [f4]
      dsimp only [Option.bind_some]
      exact fh
    · rw [if_neg (by omega)]
      obtain ⟨x4, s4, f4, k4⟩ := med hc hd (a := a + (b - a) / 4 * 1) (b := a + (b - a) / 4 * 2) (c := a + (b - a) / 4 * 3) (by omega) (by omega) (by omega) 0
      obtain ⟨h, fh⟩ := fin x4 s4
      refine ⟨x4, h, ?_, by omega, by omega⟩
      rw [f4]
      dsimp only [Option.bind_some]
      exact fh
  · rw [if_neg (by omega)]
    exact ⟨a + (b - a) / 4 * 2, 1, rfl, by omega, by omega⟩
theorem wr_id {x : Int} (h0 : 0 ≤ x) (h1 : x < 18446744073709551616) : wr .u64 x = x := by
  show hid _ = _
  rw [hid_eq]
  simp [IntKind.wrap, IntKind.bits, IntKind.signed]
  omega
theorem and_bd (x : Int) {m : Nat} (hm : m < 18446744073709551616) : ∃ o : Nat, andI .u64 x (m : Int) = (o : Int) ∧ o ≤ m := by
  have hlt : (BitVec.ofInt 64 x &&& BitVec.ofInt 64 (m : Int)).toNat ≤ m := by
    rw [BitVec.toNat_and]
    refine Nat.le_trans Nat.and_le_right ?_
    rw [BitVec.toNat_ofInt]
    omega
  refine ⟨(BitVec.ofInt 64 x &&& BitVec.ofInt 64 (m : Int)).toNat, ?_, hlt⟩
  show hid _ = _
  rw [hid_eq]
  show wr .u64 (((BitVec.ofInt 64 x &&& BitVec.ofInt 64 (m : Int)).toNat : Nat) : Int) = _
  exact wr_id (by omega) (by omega)
theorem brkL {N : Nat} (hN : N ≤ 1000000000) {a b m : Nat} (h8 : 8 ≤ b - a) (hb : b ≤ N) (m0 : 1 ≤ m) (m1 : m ≤ 2 * (b - a)) : ∀ (n i : Nat) (d : Array Value) (r : Int), a + (b - a) / 4 * 2 + 2 - i ≤ n → a ≤ i → i ≤ a + (b - a) / 4 * 2 + 2 → Al H N d →
    ∃ d', _root_.Go.Proofs.Ytjknpaplgclflaa.R.slices_breakPatternsCmpFunc_int64.l0 (a : Int) ((b - a : Nat) : Int) (m : Int) (i : Int) d.toList r = some d'.toList ∧ PermIn a b d d' := by
  have t4 : ((b - a : Nat) : Int).tdiv 4 = ((((b - a) / 4 : Nat)) : Int) := by rw [Int.tdiv_eq_ediv_of_nonneg (by omega)]; omega
  have e2 : wrapI ((((b - a) / 4 : Nat) : Int) * 2) = (((b - a) / 4 * 2 : Nat) : Int) := by rw [w64 (by omega) (by omega)]; omega
  have e3 : wrapI (((a + (b - a) / 4 * 2 : Nat) : Int) + 1) = ((a + (b - a) / 4 * 2 + 1 : Nat) : Int) := wn (by omega)
  intro n
  induction n with
  | zero =>
    intro i d r hn hi hi2 hd
    refine ⟨d, ?_, Go.Sort.permIn_refl d a b⟩
    rw [_root_.Go.Proofs.Ytjknpaplgclflaa.R.slices_breakPatternsCmpFunc_int64.l0_eq, t4, w64 (x := (((b - a) / 4 : Nat) : Int)) (by omega) (by omega), e2, wA (a := a) (b := (b - a) / 4 * 2) (by omega), e3, if_neg (by omega)]
  | succ n ih =>
    intro i d r hn hi hi2 hd
    have hs := hd.sz
    by_cases h : i ≤ a + (b - a) / 4 * 2 + 1
    · have hib : i < b := by omega
      obtain ⟨r1, hr⟩ : ∃ r1, _root_.Go.Proofs.Ytjknpaplgclflaa.R.slices_xorshift_Next.f r = some (r1, r1) := ⟨_, _root_.Go.Proofs.Ytjknpaplgclflaa.R.slices_xorshift_Next.f_eq r⟩
      obtain ⟨o, ho, om⟩ := and_bd r1 (m := m - 1) (by omega)
      have wm : wr .u64 ((m : Int) - 1) = ((m - 1 : Nat) : Int) := by rw [wr_id (by omega) (by omega)]; omega
      rw [_root_.Go.Proofs.Ytjknpaplgclflaa.R.slices_breakPatternsCmpFunc_int64.l0_eq, t4, w64 (x := (((b - a) / 4 : Nat) : Int)) (by omega) (by omega), e2, wA (a := a) (b := (b - a) / 4 * 2) (by omega), e3, if_pos (by omega), hr]
      dsimp only [Option.bind_some]
      rw [wm, ho, w64 (x := (o : Int)) (by omega) (by omega), wn (j := i) (by omega), rdA (i := i) (by omega)]
      by_cases h2 : o ≥ b - a
      · rw [if_pos (by omega), wS (a := o) (b := b - a) (by omega) (by omega), wA (a := a) (b := o - (b - a)) (by omega), rdA (i := a + (o - (b - a))) (by omega)]
        simp only [List.length_set, Array.length_toList, Int.toNat_natCast, swpL, Nat.add_sub_cancel]
        obtain ⟨d', d1, d2⟩ := ih (i + 1) (Go.Sort.swp d i (a + (o - (b - a)))) r1 (by omega) (by omega) (by omega) (hd.swp (by omega) (by omega))
        refine ⟨d', ?_, Go.Sort.permIn_trans _ _ _ a b (Go.Sort.swp_permIn d a b i (a + (o - (b - a))) hi hib (by omega) (by omega) (by omega)) d2⟩
        (with_reducible repeat (first | refine go_pos (by first | assumption | omega | rfl | exact B_pos (by omega)) ?_ | refine go_neg (by first | assumption | omega | decide | exact B_not (by omega)) ?_ | refine go_bind (by first | assumption) ?_ | dsimp only))
        exact d1
      · rw [if_neg (by omega), wA (a := a) (b := o) (by omega), rdA (i := a + o) (by omega)]
        simp only [List.length_set, Array.length_toList, Int.toNat_natCast, swpL, Nat.add_sub_cancel]
        obtain ⟨d', d1, d2⟩ := ih (i + 1) (Go.Sort.swp d i (a + o)) r1 (by omega) (by omega) (by omega) (hd.swp (by omega) (by omega))
        refine ⟨d', ?_, Go.Sort.permIn_trans _ _ _ a b (Go.Sort.swp_permIn d a b i (a + o) hi hib (by omega) (by omega) (by omega)) d2⟩
        (with_reducible repeat (first | refine go_pos (by first | assumption | omega | rfl | exact B_pos (by omega)) ?_ | refine go_neg (by first | assumption | omega | decide | exact B_not (by omega)) ?_ | refine go_bind (by first | assumption) ?_ | dsimp only))
        exact d1
    · refine ⟨d, ?_, Go.Sort.permIn_refl d a b⟩
      rw [_root_.Go.Proofs.Ytjknpaplgclflaa.R.slices_breakPatternsCmpFunc_int64.l0_eq, t4, w64 (x := (((b - a) / 4 : Nat) : Int)) (by omega) (by omega), e2, wA (a := a) (b := (b - a) / 4 * 2) (by omega), e3, if_neg (by omega)]
theorem npow {L : Nat} (h0 : 0 < L) (h1 : L ≤ 1000000000) : ∃ m : Nat, _root_.Go.Proofs.Ytjknpaplgclflaa.R.slices_nextPowerOfTwo.f (L : Int) = some (m : Int) ∧ 1 ≤ m ∧ m ≤ 2 * L := by
  obtain ⟨b1, b2, b3⟩ := Lib.bitLenAux_bounds 64 L (by omega) (by omega)
  have e : Lib.bitLenAux 64 L - 1 + 1 = Lib.bitLenAux 64 L := by omega
  have hp : 2 ^ Lib.bitLenAux 64 L ≤ 2 * L := by rw [← e, Nat.pow_succ]; omega
  have hk : Lib.bitLenAux 64 L ≤ 64 := by
    have := Lib.bitLenAux_le 64 L 64 (by omega)
    exact this
  refine ⟨2 ^ Lib.bitLenAux 64 L, ?_, Nat.one_le_two_pow, hp⟩
  rw [_root_.Go.Proofs.Ytjknpaplgclflaa.R.slices_nextPowerOfTwo.f_eq, wr_id (by omega) (by omega)]
  unfold _root_.Go.Proofs.Ytjknpaplgclflaa.R.bits_Len.f
  rw [if_pos (by omega), Option.bind_some, if_neg (by omega)]
  congr 1
  show hid _ = _
  rw [hid_eq, Int.toNat_natCast]
  show wr .u64 (1 * 2 ^ (min ((Lib.bitLenAux 64 L : Int)).toNat 64)) = _
  rw [Int.toNat_natCast, Nat.min_eq_left hk, Int.one_mul, show (2 : Int) ^ Lib.bitLenAux 64 L = ((2 ^ Lib.bitLenAux 64 L : Nat) : Int) by rw [Int.natCast_pow]; rfl]
  exact wr_id (by omega) (by omega)
theorem brkF {N : Nat} (hN : N ≤ 1000000000) {a b : Nat} (hab : a < b) (hb : b ≤ N) {d : Array Value} (hd : Al H N d) :
    ∃ d', _root_.Go.Proofs.Ytjknpaplgclflaa.R.slices_breakPatternsCmpFunc_int64.f d.toList (a : Int) (b : Int) C = some d'.toList ∧ PermIn a b d d' := by
  rw [_root_.Go.Proofs.Ytjknpaplgclflaa.R.slices_breakPatternsCmpFunc_int64.f_eq, wS (a := b) (b := a) (by omega) (by omega)]
  by_cases h8 : 8 ≤ b - a
  · have t4 : ((b - a : Nat) : Int).tdiv 4 = ((((b - a) / 4 : Nat)) : Int) := by rw [Int.tdiv_eq_ediv_of_nonneg (by omega)]; omega
    have e2 : wrapI ((((b - a) / 4 : Nat) : Int) * 2) = (((b - a) / 4 * 2 : Nat) : Int) := by rw [w64 (by omega) (by omega)]; omega
    obtain ⟨m, n1, n2, n3⟩ := npow (L := b - a) (by omega) (by omega)
    rw [if_pos (by omega), n1, Option.bind_some, t4, w64 (x := (((b - a) / 4 : Nat) : Int)) (by omega) (by omega), e2, wA (a := a) (b := (b - a) / 4 * 2) (by omega), wP (j := a + (b - a) / 4 * 2) (by omega) (by omega)]
    exact brkL hN h8 hb n2 n3 _ (a + (b - a) / 4 * 2 - 1) d _ (Nat.le_refl _) (by omega) (by omega) hd
  · rw [if_neg (by omega)]
    exact ⟨d, rfl, Go.Sort.permIn_refl d a b⟩
end Go.Proofs.Ytjknpaplgclflaa.V
set_option linter.unusedVariables false
set_option linter.unusedSimpArgs false
set_option maxHeartbeats 8000000
set_option maxRecDepth 20000
namespace Go.Proofs.Ytjknpaplgclflaa.V
open Go Go.RowKit Go.Proofs.Ytjknpaplgclflaa.D Go.Proofs.Ytjknpaplgclflaa.P
open Go.Sort (swp insertionSort heapSort partition partitionEqual partialInsertionSort reverseRange SWO PermIn SortedIn)
variable {H : Value → Prop} {lt : Value → Value → Bool} {C : Value → Value → Option Int}
def Res (lt : Value → Value → Bool) (a b : Nat) (d : Array Value) (X : Option (List Value)) : Prop := ∃ d', X = some d'.toList ∧ PermIn a b d d' ∧ SortedIn lt a b d'
theorem Res.tr {a b : Nat} {d d1 : Array Value} {X : Option (List Value)} (h : Res lt a b d1 X) (hp : PermIn a b d d1) : Res lt a b d X := by
  obtain ⟨d', h1, h2, h3⟩ := h
  exact ⟨d', h1, Go.Sort.permIn_trans _ _ _ a b hp h2, h3⟩
theorem res_of {a b : Nat} {d : Array Value} {X Y : Option (List Value)} (h : X = Y) (k : Res lt a b d Y) : Res lt a b d X := by rw [h]; exact k
theorem pdqTail {N n : Nat} (hc : Cm H lt C) (hN : N ≤ 1000000000) {a b : Nat} (hb : b ≤ N)
    (IH : ∀ (a' b' : Nat) (lim : Int) (wb wp : Bool) (d : Array Value), b' - a' < b - a → a' ≤ b' → b' ≤ N → Al H N d → Go.Sort.Below lt a' b' d → Res lt a' b' d (_root_.Go.Proofs.Ytjknpaplgclflaa.R.slices_pdqsortCmpFunc_int64.l0 n (a' : Int) (b' : Int) lim C wb wp d.toList))
    (HF : ∀ (a' b' : Nat) (lim : Int) (d : Array Value), b' - a' < 2 ^ n → b' - a' < b - a → a' ≤ b' → b' ≤ N → Al H N d → Go.Sort.Below lt a' b' d → Res lt a' b' d (_root_.Go.Proofs.Ytjknpaplgclflaa.R.slices_pdqsortCmpFunc_int64.f n d.toList (a' : Int) (b' : Int) lim C))
    (hlen : 12 < b - a) (hfu : b - a < 2 ^ (n + 1)) {lim : Int} {piv : Nat} (p1 : a ≤ piv) (p2 : piv < b) {d3 : Array Value} (hd : Al H N d3) (hB : Go.Sort.Below lt a b d3) :
    (∃ (c : Int) (mid : Nat) (d4 : Array Value), 0 < a ∧ C d3[a - 1]! d3[piv]! = some c ∧ ¬ c < 0 ∧ _root_.Go.Proofs.Ytjknpaplgclflaa.R.slices_partitionEqualCmpFunc_int64.f d3.toList (a : Int) (b : Int) (piv : Int) C = some ((mid : Int), d4.toList) ∧
      ∀ wb wp, Res lt a b d3 (_root_.Go.Proofs.Ytjknpaplgclflaa.R.slices_pdqsortCmpFunc_int64.l0 n (mid : Int) (b : Int) lim C wb wp d4.toList)) ∨
    (∃ (mid : Nat) (ap : Bool) (d4 : Array Value), (a = 0 ∨ (0 < a ∧ ∃ c : Int, C d3[a - 1]! d3[piv]! = some c ∧ c < 0)) ∧ a ≤ mid ∧ mid < b ∧ _root_.Go.Proofs.Ytjknpaplgclflaa.R.slices_partitionCmpFunc_int64.f d3.toList (a : Int) (b : Int) (piv : Int) C = some ((mid : Int), ap, d4.toList) ∧
      ((mid - a < b - mid ∧ ∃ d5 : Array Value, _root_.Go.Proofs.Ytjknpaplgclflaa.R.slices_pdqsortCmpFunc_int64.f n d4.toList (a : Int) (mid : Int) lim C = some d5.toList ∧ ∀ wb wp, Res lt a b d3 (_root_.Go.Proofs.Ytjknpaplgclflaa.R.slices_pdqsortCmpFunc_int64.l0 n ((mid + 1 : Nat) : Int) (b : Int) lim C wb wp d5.toList)) ∨
       (¬ mid - a < b - mid ∧ ∃ d5 : Array Value, _root_.Go.Proofs.Ytjknpaplgclflaa.R.slices_pdqsortCmpFunc_int64.f n d4.toList ((mid + 1 : Nat) : Int) (b : Int) lim C = some d5.toList ∧ ∀ wb wp, Res lt a b d3 (_root_.Go.Proofs.Ytjknpaplgclflaa.R.slices_pdqsortCmpFunc_int64.l0 n (a : Int) (mid : Int) lim C wb wp d5.toList)))) := by
  have hs := hd.sz
  by_cases hq : 0 < a ∧ lt d3[a - 1]! d3[piv]! = false
  · obtain ⟨a0, hnl⟩ := hq
    obtain ⟨c, c1, c2⟩ := hc.cmp _ _ (hd.all (a - 1) (by omega)) (hd.all piv (by omega))
    have hc2 : ¬ c < 0 := fun k => by have := c2.1 k; rw [hnl] at this; cases this
    obtain ⟨mid, d4, hx⟩ : ∃ mid d4, partitionEqual lt d3 a b piv = (mid, d4) := ⟨_, _, rfl⟩
    obtain ⟨k1, k2, k3, k4, k5⟩ := Go.Sort.round_eq hc.swo (Go.Sort.partitionEqual_holds lt) a0 p1 p2 (by omega) hB hnl hx
    have e1 := peF hc hN p1 p2 hb hd
    rw [hx] at e1
    have hk := Go.Sort.partitionEqual_holds lt hc.swo d3 a b piv p1 p2 (by omega)
    have hp : PermIn a b d3 d4 := by
      have hB' : ∀ i, a ≤ i → i < b → lt d3[i]! d3[piv]! = false := fun i h1 h2 => by
        rcases hB with h | h
        · omega
        · exact hc.swo.ntrans _ _ _ (h i h1 h2) hnl
      have := (hk hB').2.2.1
      rw [hx] at this
      exact this
    refine .inl ⟨c, mid, d4, a0, c1, hc2, e1, fun wb wp => ?_⟩
    obtain ⟨d', r1, r2, r3⟩ := IH mid b lim wb wp d4 (by omega) k2 hb (hd.perm hb hp) k4
    obtain ⟨q1, q2⟩ := k5 d' r2 r3
    exact ⟨d', r1, q1, q2⟩
  · have hq' : a = 0 ∨ (0 < a ∧ ∃ c : Int, C d3[a - 1]! d3[piv]! = some c ∧ c < 0) := by
      by_cases a0 : a = 0
      · exact .inl a0
      · obtain ⟨c, c1, c2⟩ := hc.cmp _ _ (hd.all (a - 1) (by omega)) (hd.all piv (by omega))
        refine .inr ⟨by omega, c, c1, c2.2 ?_⟩
        cases h : lt d3[a - 1]! d3[piv]! with
        | true => rfl
        | false => exact absurd ⟨by omega, h⟩ hq
    obtain ⟨mid, ap, d4, hx⟩ : ∃ mid ap d4, partition lt d3 a b piv = (mid, ap, d4) := ⟨_, _, _, rfl⟩
    have rp := Go.Sort.round_part hc.swo (Go.Sort.partition_holds lt) p1 p2 (by omega) hB hx
    have e1 := partF hc hN p1 p2 hb hd
    rw [hx] at e1
    have hp : PermIn a b d3 d4 := by
      have := (Go.Sort.partition_holds lt hc.swo d3 a b piv p1 p2 (by omega)).2.2.1
      rw [hx] at this
      exact this
    have hd4 := hd.perm hb hp
    obtain ⟨k1, k2, k3, k4, k5, k6, k7⟩ := rp
    refine .inr ⟨mid, ap, d4, hq', k1, k2, e1, ?_⟩
    by_cases hl : mid - a < b - mid
    · obtain ⟨d5, f1, f2, f3⟩ := HF a mid lim d4 (by rw [Nat.pow_succ] at hfu; omega) (by omega) k1 (by omega) hd4 k4
      refine .inl ⟨hl, d5, f1, fun wb wp => ?_⟩
      obtain ⟨hB5, k8⟩ := k6 d5 f2 f3
      obtain ⟨d', r1, r2, r3⟩ := IH (mid + 1) b lim wb wp d5 (by omega) (by omega) hb (hd4.perm (by omega) f2) hB5
      exact ⟨d', r1, k8 d' r2 r3⟩
    · obtain ⟨d5, f1, f2, f3⟩ := HF (mid + 1) b lim d4 (by rw [Nat.pow_succ] at hfu; omega) (by omega) (by omega) hb hd4 k5
      refine .inr ⟨hl, d5, f1, fun wb wp => ?_⟩
      obtain ⟨hB5, k8⟩ := k7 d5 f2 f3
      obtain ⟨d', r1, r2, r3⟩ := IH a mid lim wb wp d5 (by omega) k1 (by omega) (hd4.perm hb f2) hB5
      exact ⟨d', r1, k8 d' r2 r3⟩
theorem pdqL {N : Nat} (hc : Cm H lt C) (hN : N ≤ 1000000000) : ∀ (n s a b : Nat) (lim : Int) (wb wp : Bool) (d : Array Value), b - a ≤ s → b - a < 2 ^ (n + 1) → a ≤ b → b ≤ N → Al H N d → Go.Sort.Below lt a b d →
    Res lt a b d (_root_.Go.Proofs.Ytjknpaplgclflaa.R.slices_pdqsortCmpFunc_int64.l0 n (a : Int) (b : Int) lim C wb wp d.toList) := by
  intro n
  induction n with
  | zero =>
    intro s a b lim wb wp d hs hfu hab hb hd hB
    obtain ⟨d', h1, h2, h3⟩ := insS hc hN hab hb hd
    refine ⟨d', ?_, h2, h3⟩
    rw [_root_.Go.Proofs.Ytjknpaplgclflaa.R.slices_pdqsortCmpFunc_int64.l0_eq, wS (a := b) (b := a) (by omega) (by omega), if_pos (by omega), map_id', h1]
    rfl
  | succ m ihm =>
    intro s
    induction s with
    | zero =>
      intro a b lim wb wp d hs hfu hab hb hd hB
      obtain ⟨d', h1, h2, h3⟩ := insS hc hN hab hb hd
      refine ⟨d', ?_, h2, h3⟩
      rw [_root_.Go.Proofs.Ytjknpaplgclflaa.R.slices_pdqsortCmpFunc_int64.l0_eq, wS (a := b) (b := a) (by omega) (by omega), if_pos (by omega), map_id', h1]
      rfl
    | succ s ihs =>
      intro a b lim wb wp d hs hfu hab hb hd hB
      by_cases h12 : b - a ≤ 12
      · obtain ⟨d', h1, h2, h3⟩ := insS hc hN hab hb hd
        refine ⟨d', ?_, h2, h3⟩
        rw [_root_.Go.Proofs.Ytjknpaplgclflaa.R.slices_pdqsortCmpFunc_int64.l0_eq, wS (a := b) (b := a) (by omega) (by omega), if_pos (by omega), map_id', h1]
        rfl
      have hab' : a < b := by omega
      by_cases hlim : lim = 0
      · obtain ⟨d', h1, h2, h3⟩ := heapS hc hN hab' hb hd
        refine ⟨d', ?_, h2, h3⟩
        rw [_root_.Go.Proofs.Ytjknpaplgclflaa.R.slices_pdqsortCmpFunc_int64.l0_eq, wS (a := b) (b := a) (by omega) (by omega), if_neg (by omega), if_pos hlim, map_id', h1]
        rfl
      have IH : ∀ (a' b' : Nat) (lim : Int) (wb wp : Bool) (d : Array Value), b' - a' < b - a → a' ≤ b' → b' ≤ N → Al H N d → Go.Sort.Below lt a' b' d → Res lt a' b' d (_root_.Go.Proofs.Ytjknpaplgclflaa.R.slices_pdqsortCmpFunc_int64.l0 (m + 1) (a' : Int) (b' : Int) lim C wb wp d.toList) := fun a' b' lim wb wp d h1 h2 h3 h4 h5 => ihs a' b' lim wb wp d (by omega) (by omega) h2 h3 h4 h5
      have HF : ∀ (a' b' : Nat) (lim : Int) (d : Array Value), b' - a' < 2 ^ (m + 1) → b' - a' < b - a → a' ≤ b' → b' ≤ N → Al H N d → Go.Sort.Below lt a' b' d → Res lt a' b' d (_root_.Go.Proofs.Ytjknpaplgclflaa.R.slices_pdqsortCmpFunc_int64.f (m + 1) d.toList (a' : Int) (b' : Int) lim C) := fun a' b' lim d h0 h1 h2 h3 h4 h5 => by
        rw [_root_.Go.Proofs.Ytjknpaplgclflaa.R.slices_pdqsortCmpFunc_int64.f_eq]
        exact ihm _ a' b' lim true true d (Nat.le_refl _) h0 h2 h3 h4 h5
      cases wb with
      | true =>
        obtain ⟨x, h, hx, x1, x2⟩ := pivF hc hN hab' hb hd
        by_cases hh : h = 2
        · obtain ⟨d2, v1, v2⟩ := revS (C := C) hN hab' hb hd
          have hd2 := hd.perm hb v2
          have hB2 := hB.perm (by rw [hd.sz]; exact hb) v2
          cases wp with
          | false =>
            have hs3 := hd2.sz
            rcases pdqTail hc hN hb IH HF (by omega) hfu (lim := lim) (piv := (b - 1 - (x - a))) (by omega) (by omega) hd2 hB2 with ⟨c, mid, d4, a0, c1, c2, e1, rec⟩ | ⟨mid, ap, d4, q, m1, m2, e1, r⟩
            · refine res_of (Y := _root_.Go.Proofs.Ytjknpaplgclflaa.R.slices_pdqsortCmpFunc_int64.l0 (m + 1) (mid : Int) (b : Int) lim C true false d4.toList) ?_ ((rec _ _).tr v2)
              rw [_root_.Go.Proofs.Ytjknpaplgclflaa.R.slices_pdqsortCmpFunc_int64.l0_eq, wS (a := b) (b := a) (by omega) (by omega), map_id', if_neg (c := ((b - a : Nat) : Int) ≤ 12) (by omega), if_neg (c := lim = 0) hlim, if_pos (c := (true = true)) rfl, hx, Option.bind_some]
              dsimp only
              simp only [wP (j := b) (by omega) (by omega), wS (a := x) (b := a) (by omega) (by omega), wS (a := b - 1) (b := x - a) (by omega) (by omega), ↓reduceIte]
              (with_reducible repeat (first | refine go_pos (by first | assumption | omega | rfl | exact B_pos (by omega)) ?_ | refine go_neg (by first | assumption | omega | decide | exact B_not (by omega)) ?_ | refine go_bind (by first | assumption) ?_ | dsimp only))
              simp only [wP (j := a) (by omega) (by omega), rdA (d := d2) (i := a - 1) (by omega), rdA (d := d2) (i := (b - 1 - (x - a))) (by omega), Array.length_toList, ↓reduceIte]
              (with_reducible repeat (first | refine go_pos (by first | assumption | omega | rfl | exact B_pos (by omega)) ?_ | refine go_neg (by first | assumption | omega | decide | exact B_not (by omega)) ?_ | refine go_bind (by first | assumption) ?_ | dsimp only))
            · rcases r with ⟨l1, d5, e2, rec⟩ | ⟨l1, d5, e2, rec⟩
              · refine res_of ?_ ((rec (decide (((mid - a : Nat) : Int) ≥ wrapI (((b - a : Nat) : Int).tdiv 8))) (decide (ap = true))).tr v2)
                rw [_root_.Go.Proofs.Ytjknpaplgclflaa.R.slices_pdqsortCmpFunc_int64.l0_eq, wS (a := b) (b := a) (by omega) (by omega), map_id', if_neg (c := ((b - a : Nat) : Int) ≤ 12) (by omega), if_neg (c := lim = 0) hlim, if_pos (c := (true = true)) rfl, hx, Option.bind_some]
                dsimp only
                simp only [wP (j := b) (by omega) (by omega), wS (a := x) (b := a) (by omega) (by omega), wS (a := b - 1) (b := x - a) (by omega) (by omega), ↓reduceIte]
                rcases q with q | ⟨q, c, c1, c2⟩
                · (with_reducible repeat (first | refine go_pos (by first | assumption | omega | rfl | exact B_pos (by omega)) ?_ | refine go_neg (by first | assumption | omega | decide | exact B_not (by omega)) ?_ | refine go_bind (by first | assumption) ?_ | dsimp only))
                  simp only [wn (j := mid) (by omega), wS (a := b) (b := mid) (by omega) (by omega), wS (a := mid) (b := a) (by omega) (by omega), ↓reduceIte]
                  (with_reducible repeat (first | refine go_pos (by first | assumption | omega | rfl | exact B_pos (by omega)) ?_ | refine go_neg (by first | assumption | omega | decide | exact B_not (by omega)) ?_ | refine go_bind (by first | assumption) ?_ | dsimp only))
                · (with_reducible repeat (first | refine go_pos (by first | assumption | omega | rfl | exact B_pos (by omega)) ?_ | refine go_neg (by first | assumption | omega | decide | exact B_not (by omega)) ?_ | refine go_bind (by first | assumption) ?_ | dsimp only))
                  simp only [wP (j := a) (by omega) (by omega), rdA (d := d2) (i := a - 1) (by omega), rdA (d := d2) (i := (b - 1 - (x - a))) (by omega), Array.length_toList, ↓reduceIte]
                  (with_reducible repeat (first | refine go_pos (by first | assumption | omega | rfl | exact B_pos (by omega)) ?_ | refine go_neg (by first | assumption | omega | decide | exact B_not (by omega)) ?_ | refine go_bind (by first | assumption) ?_ | dsimp only))
                  simp only [wn (j := mid) (by omega), wS (a := b) (b := mid) (by omega) (by omega), wS (a := mid) (b := a) (by omega) (by omega), ↓reduceIte]
                  (with_reducible repeat (first | refine go_pos (by first | assumption | omega | rfl | exact B_pos (by omega)) ?_ | refine go_neg (by first | assumption | omega | decide | exact B_not (by omega)) ?_ | refine go_bind (by first | assumption) ?_ | dsimp only))
              · refine res_of ?_ ((rec (decide (((b - mid : Nat) : Int) ≥ wrapI (((b - a : Nat) : Int).tdiv 8))) (decide (ap = true))).tr v2)
                rw [_root_.Go.Proofs.Ytjknpaplgclflaa.R.slices_pdqsortCmpFunc_int64.l0_eq, wS (a := b) (b := a) (by omega) (by omega), map_id', if_neg (c := ((b - a : Nat) : Int) ≤ 12) (by omega), if_neg (c := lim = 0) hlim, if_pos (c := (true = true)) rfl, hx, Option.bind_some]
                dsimp only
                simp only [wP (j := b) (by omega) (by omega), wS (a := x) (b := a) (by omega) (by omega), wS (a := b - 1) (b := x - a) (by omega) (by omega), ↓reduceIte]
                rcases q with q | ⟨q, c, c1, c2⟩
                · (with_reducible repeat (first | refine go_pos (by first | assumption | omega | rfl | exact B_pos (by omega)) ?_ | refine go_neg (by first | assumption | omega | decide | exact B_not (by omega)) ?_ | refine go_bind (by first | assumption) ?_ | dsimp only))
                  simp only [wn (j := mid) (by omega), wS (a := b) (b := mid) (by omega) (by omega), wS (a := mid) (b := a) (by omega) (by omega), ↓reduceIte]
                  (with_reducible repeat (first | refine go_pos (by first | assumption | omega | rfl | exact B_pos (by omega)) ?_ | refine go_neg (by first | assumption | omega | decide | exact B_not (by omega)) ?_ | refine go_bind (by first | assumption) ?_ | dsimp only))
                · (with_reducible repeat (first | refine go_pos (by first | assumption | omega | rfl | exact B_pos (by omega)) ?_ | refine go_neg (by first | assumption | omega | decide | exact B_not (by omega)) ?_ | refine go_bind (by first | assumption) ?_ | dsimp only))
                  simp only [wP (j := a) (by omega) (by omega), rdA (d := d2) (i := a - 1) (by omega), rdA (d := d2) (i := (b - 1 - (x - a))) (by omega), Array.length_toList, ↓reduceIte]
                  (with_reducible repeat (first | refine go_pos (by first | assumption | omega | rfl | exact B_pos (by omega)) ?_ | refine go_neg (by first | assumption | omega | decide | exact B_not (by omega)) ?_ | refine go_bind (by first | assumption) ?_ | dsimp only))
                  simp only [wn (j := mid) (by omega), wS (a := b) (b := mid) (by omega) (by omega), wS (a := mid) (b := a) (by omega) (by omega), ↓reduceIte]
                  (with_reducible repeat (first | refine go_pos (by first | assumption | omega | rfl | exact B_pos (by omega)) ?_ | refine go_neg (by first | assumption | omega | decide | exact B_not (by omega)) ?_ | refine go_bind (by first | assumption) ?_ | dsimp only))
          | true =>
            have hps := Go.Sort.partialInsertionSort_holds (lt := lt) hc.swo d2 a b hab' (by rw [hd2.sz]; exact hb) hB2
            have hpe := psF hc hN hab' hb hd2
            obtain ⟨d3, fl, h3⟩ : ∃ d3 fl, partialInsertionSort lt d2 a b = (d3, fl) := ⟨_, _, rfl⟩
            rw [h3] at hps hpe
            dsimp only at hps hpe
            have hp3 := Go.Sort.permIn_trans _ _ _ a b v2 hps.1
            have hd3 := hd2.perm hb hps.1
            have hB3 := hB2.perm (by rw [hd2.sz]; exact hb) hps.1
            cases fl with
            | true =>
              refine ⟨d3, ?_, hp3, hps.2 rfl⟩
              rw [_root_.Go.Proofs.Ytjknpaplgclflaa.R.slices_pdqsortCmpFunc_int64.l0_eq, wS (a := b) (b := a) (by omega) (by omega), map_id', if_neg (c := ((b - a : Nat) : Int) ≤ 12) (by omega), if_neg (c := lim = 0) hlim, if_pos (c := (true = true)) rfl, hx, Option.bind_some]
              dsimp only
              (with_reducible repeat (first | refine go_pos (by first | assumption | omega | rfl | exact B_pos (by omega)) ?_ | refine go_neg (by first | assumption | omega | decide | exact B_not (by omega)) ?_ | refine go_bind (by first | assumption) ?_ | dsimp only))
            | false =>
              have hs3 := hd3.sz
              rcases pdqTail hc hN hb IH HF (by omega) hfu (lim := lim) (piv := (b - 1 - (x - a))) (by omega) (by omega) hd3 hB3 with ⟨c, mid, d4, a0, c1, c2, e1, rec⟩ | ⟨mid, ap, d4, q, m1, m2, e1, r⟩
              · refine res_of (Y := _root_.Go.Proofs.Ytjknpaplgclflaa.R.slices_pdqsortCmpFunc_int64.l0 (m + 1) (mid : Int) (b : Int) lim C true true d4.toList) ?_ ((rec _ _).tr hp3)
                rw [_root_.Go.Proofs.Ytjknpaplgclflaa.R.slices_pdqsortCmpFunc_int64.l0_eq, wS (a := b) (b := a) (by omega) (by omega), map_id', if_neg (c := ((b - a : Nat) : Int) ≤ 12) (by omega), if_neg (c := lim = 0) hlim, if_pos (c := (true = true)) rfl, hx, Option.bind_some]
                dsimp only
                simp only [wP (j := b) (by omega) (by omega), wS (a := x) (b := a) (by omega) (by omega), wS (a := b - 1) (b := x - a) (by omega) (by omega), ↓reduceIte]
                (with_reducible repeat (first | refine go_pos (by first | assumption | omega | rfl | exact B_pos (by omega)) ?_ | refine go_neg (by first | assumption | omega | decide | exact B_not (by omega)) ?_ | refine go_bind (by first | assumption) ?_ | dsimp only))
                simp only [wP (j := a) (by omega) (by omega), rdA (d := d3) (i := a - 1) (by omega), rdA (d := d3) (i := (b - 1 - (x - a))) (by omega), Array.length_toList, ↓reduceIte]
                (with_reducible repeat (first | refine go_pos (by first | assumption | omega | rfl | exact B_pos (by omega)) ?_ | refine go_neg (by first | assumption | omega | decide | exact B_not (by omega)) ?_ | refine go_bind (by first | assumption) ?_ | dsimp only))
              · rcases r with ⟨l1, d5, e2, rec⟩ | ⟨l1, d5, e2, rec⟩
                · refine res_of ?_ ((rec (decide (((mid - a : Nat) : Int) ≥ wrapI (((b - a : Nat) : Int).tdiv 8))) (decide (ap = true))).tr hp3)
                  rw [_root_.Go.Proofs.Ytjknpaplgclflaa.R.slices_pdqsortCmpFunc_int64.l0_eq, wS (a := b) (b := a) (by omega) (by omega), map_id', if_neg (c := ((b - a : Nat) : Int) ≤ 12) (by omega), if_neg (c := lim = 0) hlim, if_pos (c := (true = true)) rfl, hx, Option.bind_some]
                  dsimp only
                  simp only [wP (j := b) (by omega) (by omega), wS (a := x) (b := a) (by omega) (by omega), wS (a := b - 1) (b := x - a) (by omega) (by omega), ↓reduceIte]
                  rcases q with q | ⟨q, c, c1, c2⟩
                  · (with_reducible repeat (first | refine go_pos (by first | assumption | omega | rfl | exact B_pos (by omega)) ?_ | refine go_neg (by first | assumption | omega | decide | exact B_not (by omega)) ?_ | refine go_bind (by first | assumption) ?_ | dsimp only))
                    simp only [wn (j := mid) (by omega), wS (a := b) (b := mid) (by omega) (by omega), wS (a := mid) (b := a) (by omega) (by omega), ↓reduceIte]
                    (with_reducible repeat (first | refine go_pos (by first | assumption | omega | rfl | exact B_pos (by omega)) ?_ | refine go_neg (by first | assumption | omega | decide | exact B_not (by omega)) ?_ | refine go_bind (by first | assumption) ?_ | dsimp only))
                  · (with_reducible repeat (first | refine go_pos (by first | assumption | omega | rfl | exact B_pos (by omega)) ?_ | refine go_neg (by first | assumption | omega | decide | exact B_not (by omega)) ?_ | refine go_bind (by first | assumption) ?_ | dsimp only))
                    simp only [wP (j := a) (by omega) (by omega), rdA (d := d3) (i := a - 1) (by omega), rdA (d := d3) (i := (b - 1 - (x - a))) (by omega), Array.length_toList, ↓reduceIte]
                    (with_reducible repeat (first | refine go_pos (by first | assumption | omega | rfl | exact B_pos (by omega)) ?_ | refine go_neg (by first | assumption | omega | decide | exact B_not (by omega)) ?_ | refine go_bind (by first | assumption) ?_ | dsimp only))
                    simp only [wn (j := mid) (by omega), wS (a := b) (b := mid) (by omega) (by omega), wS (a := mid) (b := a) (by omega) (by omega), ↓reduceIte]
                    (with_reducible repeat (first | refine go_pos (by first | assumption | omega | rfl | exact B_pos (by omega)) ?_ | refine go_neg (by first | assumption | omega | decide | exact B_not (by omega)) ?_ | refine go_bind (by first | assumption) ?_ | dsimp only))
                · refine res_of ?_ ((rec (decide (((b - mid : Nat) : Int) ≥ wrapI (((b - a : Nat) : Int).tdiv 8))) (decide (ap = true))).tr hp3)
                  rw [_root_.Go.Proofs.Ytjknpaplgclflaa.R.slices_pdqsortCmpFunc_int64.l0_eq, wS (a := b) (b := a) (by omega) (by omega), map_id', if_neg (c := ((b - a : Nat) : Int) ≤ 12) (by omega), if_neg (c := lim = 0) hlim, if_pos (c := (true = true)) rfl, hx, Option.bind_some]
                  dsimp only
                  simp only [wP (j := b) (by omega) (by omega), wS (a := x) (b := a) (by omega) (by omega), wS (a := b - 1) (b := x - a) (by omega) (by omega), ↓reduceIte]
                  rcases q with q | ⟨q, c, c1, c2⟩
                  · (with_reducible repeat (first | refine go_pos (by first | assumption | omega | rfl | exact B_pos (by omega)) ?_ | refine go_neg (by first | assumption | omega | decide | exact B_not (by omega)) ?_ | refine go_bind (by first | assumption) ?_ | dsimp only))
                    simp only [wn (j := mid) (by omega), wS (a := b) (b := mid) (by omega) (by omega), wS (a := mid) (b := a) (by omega) (by omega), ↓reduceIte]
                    (with_reducible repeat (first | refine go_pos (by first | assumption | omega | rfl | exact B_pos (by omega)) ?_ | refine go_neg (by first | assumption | omega | decide | exact B_not (by omega)) ?_ | refine go_bind (by first | assumption) ?_ | dsimp only))
                  · (with_reducible repeat (first | refine go_pos (by first | assumption | omega | rfl | exact B_pos (by omega)) ?_ | refine go_neg (by first | assumption | omega | decide | exact B_not (by omega)) ?_ | refine go_bind (by first | assumption) ?_ | dsimp only))
                    simp only [wP (j := a) (by omega) (by omega), rdA (d := d3) (i := a - 1) (by omega), rdA (d := d3) (i := (b - 1 - (x - a))) (by omega), Array.length_toList, ↓reduceIte]
                    (with_reducible repeat (first | refine go_pos (by first | assumption | omega | rfl | exact B_pos (by omega)) ?_ | refine go_neg (by first | assumption | omega | decide | exact B_not (by omega)) ?_ | refine go_bind (by first | assumption) ?_ | dsimp only))
                    simp only [wn (j := mid) (by omega), wS (a := b) (b := mid) (by omega) (by omega), wS (a := mid) (b := a) (by omega) (by omega), ↓reduceIte]
                    (with_reducible repeat (first | refine go_pos (by first | assumption | omega | rfl | exact B_pos (by omega)) ?_ | refine go_neg (by first | assumption | omega | decide | exact B_not (by omega)) ?_ | refine go_bind (by first | assumption) ?_ | dsimp only))
        · have hp0 := Go.Sort.permIn_refl d a b
          cases wp with
          | false =>
            have hs3 := hd.sz
            rcases pdqTail hc hN hb IH HF (by omega) hfu (lim := lim) (piv := x) x1 x2 hd hB with ⟨c, mid, d4, a0, c1, c2, e1, rec⟩ | ⟨mid, ap, d4, q, m1, m2, e1, r⟩
            · refine res_of (Y := _root_.Go.Proofs.Ytjknpaplgclflaa.R.slices_pdqsortCmpFunc_int64.l0 (m + 1) (mid : Int) (b : Int) lim C true false d4.toList) ?_ ((rec _ _).tr hp0)
              rw [_root_.Go.Proofs.Ytjknpaplgclflaa.R.slices_pdqsortCmpFunc_int64.l0_eq, wS (a := b) (b := a) (by omega) (by omega), map_id', if_neg (c := ((b - a : Nat) : Int) ≤ 12) (by omega), if_neg (c := lim = 0) hlim, if_pos (c := (true = true)) rfl, hx, Option.bind_some]
              dsimp only
              simp only [wP (j := b) (by omega) (by omega), wS (a := x) (b := a) (by omega) (by omega), wS (a := b - 1) (b := x - a) (by omega) (by omega), ↓reduceIte]
              (with_reducible repeat (first | refine go_pos (by first | assumption | omega | rfl | exact B_pos (by omega)) ?_ | refine go_neg (by first | assumption | omega | decide | exact B_not (by omega)) ?_ | refine go_bind (by first | assumption) ?_ | dsimp only))
              simp only [wP (j := a) (by omega) (by omega), rdA (d := d) (i := a - 1) (by omega), rdA (d := d) (i := x) (by omega), Array.length_toList, ↓reduceIte]
              (with_reducible repeat (first | refine go_pos (by first | assumption | omega | rfl | exact B_pos (by omega)) ?_ | refine go_neg (by first | assumption | omega | decide | exact B_not (by omega)) ?_ | refine go_bind (by first | assumption) ?_ | dsimp only))
            · rcases r with ⟨l1, d5, e2, rec⟩ | ⟨l1, d5, e2, rec⟩
              · refine res_of ?_ ((rec (decide (((mid - a : Nat) : Int) ≥ wrapI (((b - a : Nat) : Int).tdiv 8))) (decide (ap = true))).tr hp0)
                rw [_root_.Go.Proofs.Ytjknpaplgclflaa.R.slices_pdqsortCmpFunc_int64.l0_eq, wS (a := b) (b := a) (by omega) (by omega), map_id', if_neg (c := ((b - a : Nat) : Int) ≤ 12) (by omega), if_neg (c := lim = 0) hlim, if_pos (c := (true = true)) rfl, hx, Option.bind_some]
                dsimp only
                simp only [wP (j := b) (by omega) (by omega), wS (a := x) (b := a) (by omega) (by omega), wS (a := b - 1) (b := x - a) (by omega) (by omega), ↓reduceIte]
                rcases q with q | ⟨q, c, c1, c2⟩
                · (with_reducible repeat (first | refine go_pos (by first | assumption | omega | rfl | exact B_pos (by omega)) ?_ | refine go_neg (by first | assumption | omega | decide | exact B_not (by omega)) ?_ | refine go_bind (by first | assumption) ?_ | dsimp only))
                  simp only [wn (j := mid) (by omega), wS (a := b) (b := mid) (by omega) (by omega), wS (a := mid) (b := a) (by omega) (by omega), ↓reduceIte]
                  (with_reducible repeat (first | refine go_pos (by first | assumption | omega | rfl | exact B_pos (by omega)) ?_ | refine go_neg (by first | assumption | omega | decide | exact B_not (by omega)) ?_ | refine go_bind (by first | assumption) ?_ | dsimp only))
                · (with_reducible repeat (first | refine go_pos (by first | assumption | omega | rfl | exact B_pos (by omega)) ?_ | refine go_neg (by first | assumption | omega | decide | exact B_not (by omega)) ?_ | refine go_bind (by first | assumption) ?_ | dsimp only))
                  simp only [wP (j := a) (by omega) (by omega), rdA (d := d) (i := a - 1) (by omega), rdA (d := d) (i := x) (by omega), Array.length_toList, ↓reduceIte]
                  (with_reducible repeat (first | refine go_pos (by first | assumption | omega | rfl | exact B_pos (by omega)) ?_ | refine go_neg (by first | assumption | omega | decide | exact B_not (by omega)) ?_ | refine go_bind (by first | assumption) ?_ | dsimp only))
                  simp only [wn (j := mid) (by omega), wS (a := b) (b := mid) (by omega) (by omega), wS (a := mid) (b := a) (by omega) (by omega), ↓reduceIte]
                  (with_reducible repeat (first | refine go_pos (by first | assumption | omega | rfl | exact B_pos (by omega)) ?_ | refine go_neg (by first | assumption | omega | decide | exact B_not (by omega)) ?_ | refine go_bind (by first | assumption) ?_ | dsimp only))
              · refine res_of ?_ ((rec (decide (((b - mid : Nat) : Int) ≥ wrapI (((b - a : Nat) : Int).tdiv 8))) (decide (ap = true))).tr hp0)
                rw [_root_.Go.Proofs.Ytjknpaplgclflaa.R.slices_pdqsortCmpFunc_int64.l0_eq, wS (a := b) (b := a) (by omega) (by omega), map_id', if_neg (c := ((b - a : Nat) : Int) ≤ 12) (by omega), if_neg (c := lim = 0) hlim, if_pos (c := (true = true)) rfl, hx, Option.bind_some]
                dsimp only
                simp only [wP (j := b) (by omega) (by omega), wS (a := x) (b := a) (by omega) (by omega), wS (a := b - 1) (b := x - a) (by omega) (by omega), ↓reduceIte]
                rcases q with q | ⟨q, c, c1, c2⟩
                · (with_reducible repeat (first | refine go_pos (by first | assumption | omega | rfl | exact B_pos (by omega)) ?_ | refine go_neg (by first | assumption | omega | decide | exact B_not (by omega)) ?_ | refine go_bind (by first | assumption) ?_ | dsimp only))
                  simp only [wn (j := mid) (by omega), wS (a := b) (b := mid) (by omega) (by omega), wS (a := mid) (b := a) (by omega) (by omega), ↓reduceIte]
                  (with_reducible repeat (first | refine go_pos (by first | assumption | omega | rfl | exact B_pos (by omega)) ?_ | refine go_neg (by first | assumption | omega | decide | exact B_not (by omega)) ?_ | refine go_bind (by first | assumption) ?_ | dsimp only))
                · (with_reducible repeat (first | refine go_pos (by first | assumption | omega | rfl | exact B_pos (by omega)) ?_ | refine go_neg (by first | assumption | omega | decide | exact B_not (by omega)) ?_ | refine go_bind (by first | assumption) ?_ | dsimp only))
                  simp only [wP (j := a) (by omega) (by omega), rdA (d := d) (i := a - 1) (by omega), rdA (d := d) (i := x) (by omega), Array.length_toList, ↓reduceIte]
                  (with_reducible repeat (first | refine go_pos (by first | assumption | omega | rfl | exact B_pos (by omega)) ?_ | refine go_neg (by first | assumption | omega | decide | exact B_not (by omega)) ?_ | refine go_bind (by first | assumption) ?_ | dsimp only))
                  simp only [wn (j := mid) (by omega), wS (a := b) (b := mid) (by omega) (by omega), wS (a := mid) (b := a) (by omega) (by omega), ↓reduceIte]
                  (with_reducible repeat (first | refine go_pos (by first | assumption | omega | rfl | exact B_pos (by omega)) ?_ | refine go_neg (by first | assumption | omega | decide | exact B_not (by omega)) ?_ | refine go_bind (by first | assumption) ?_ | dsimp only))
          | true =>
            by_cases hh1 : h = 1
            · have hps := Go.Sort.partialInsertionSort_holds (lt := lt) hc.swo d a b hab' (by rw [hd.sz]; exact hb) hB
              have hpe := psF hc hN hab' hb hd
              obtain ⟨d3, fl, h3⟩ : ∃ d3 fl, partialInsertionSort lt d a b = (d3, fl) := ⟨_, _, rfl⟩
              rw [h3] at hps hpe
              dsimp only at hps hpe
              have hp3 := hps.1
              have hd3 := hd.perm hb hps.1
              have hB3 := hB.perm (by rw [hd.sz]; exact hb) hps.1
              cases fl with
              | true =>
                refine ⟨d3, ?_, hp3, hps.2 rfl⟩
                rw [_root_.Go.Proofs.Ytjknpaplgclflaa.R.slices_pdqsortCmpFunc_int64.l0_eq, wS (a := b) (b := a) (by omega) (by omega), map_id', if_neg (c := ((b - a : Nat) : Int) ≤ 12) (by omega), if_neg (c := lim = 0) hlim, if_pos (c := (true = true)) rfl, hx, Option.bind_some]
                dsimp only
                (with_reducible repeat (first | refine go_pos (by first | assumption | omega | rfl | exact B_pos (by omega)) ?_ | refine go_neg (by first | assumption | omega | decide | exact B_not (by omega)) ?_ | refine go_bind (by first | assumption) ?_ | dsimp only))
              | false =>
                have hs3 := hd3.sz
                rcases pdqTail hc hN hb IH HF (by omega) hfu (lim := lim) (piv := x) x1 x2 hd3 hB3 with ⟨c, mid, d4, a0, c1, c2, e1, rec⟩ | ⟨mid, ap, d4, q, m1, m2, e1, r⟩
                · refine res_of (Y := _root_.Go.Proofs.Ytjknpaplgclflaa.R.slices_pdqsortCmpFunc_int64.l0 (m + 1) (mid : Int) (b : Int) lim C true true d4.toList) ?_ ((rec _ _).tr hp3)
                  rw [_root_.Go.Proofs.Ytjknpaplgclflaa.R.slices_pdqsortCmpFunc_int64.l0_eq, wS (a := b) (b := a) (by omega) (by omega), map_id', if_neg (c := ((b - a : Nat) : Int) ≤ 12) (by omega), if_neg (c := lim = 0) hlim, if_pos (c := (true = true)) rfl, hx, Option.bind_some]
                  dsimp only
                  simp only [wP (j := b) (by omega) (by omega), wS (a := x) (b := a) (by omega) (by omega), wS (a := b - 1) (b := x - a) (by omega) (by omega), ↓reduceIte]
                  (with_reducible repeat (first | refine go_pos (by first | assumption | omega | rfl | exact B_pos (by omega)) ?_ | refine go_neg (by first | assumption | omega | decide | exact B_not (by omega)) ?_ | refine go_bind (by first | assumption) ?_ | dsimp only))
                  simp only [wP (j := a) (by omega) (by omega), rdA (d := d3) (i := a - 1) (by omega), rdA (d := d3) (i := x) (by omega), Array.length_toList, ↓reduceIte]
                  (with_reducible repeat (first | refine go_pos (by first | assumption | omega | rfl | exact B_pos (by omega)) ?_ | refine go_neg (by first | assumption | omega | decide | exact B_not (by omega)) ?_ | refine go_bind (by first | assumption) ?_ | dsimp only))
                · rcases r with ⟨l1, d5, e2, rec⟩ | ⟨l1, d5, e2, rec⟩
                  · refine res_of ?_ ((rec (decide (((mid - a : Nat) : Int) ≥ wrapI (((b - a : Nat) : Int).tdiv 8))) (decide (ap = true))).tr hp3)
                    rw [_root_.Go.Proofs.Ytjknpaplgclflaa.R.slices_pdqsortCmpFunc_int64.l0_eq, wS (a := b) (b := a) (by omega) (by omega), map_id', if_neg (c := ((b - a : Nat) : Int) ≤ 12) (by omega), if_neg (c := lim = 0) hlim, if_pos (c := (true = true)) rfl, hx, Option.bind_some]
                    dsimp only
                    simp only [wP (j := b) (by omega) (by omega), wS (a := x) (b := a) (by omega) (by omega), wS (a := b - 1) (b := x - a) (by omega) (by omega), ↓reduceIte]
                    rcases q with q | ⟨q, c, c1, c2⟩
                    · (with_reducible repeat (first | refine go_pos (by first | assumption | omega | rfl | exact B_pos (by omega)) ?_ | refine go_neg (by first | assumption | omega | decide | exact B_not (by omega)) ?_ | refine go_bind (by first | assumption) ?_ | dsimp only))
                      simp only [wn (j := mid) (by omega), wS (a := b) (b := mid) (by omega) (by omega), wS (a := mid) (b := a) (by omega) (by omega), ↓reduceIte]
                      (with_reducible repeat (first | refine go_pos (by first | assumption | omega | rfl | exact B_pos (by omega)) ?_ | refine go_neg (by first | assumption | omega | decide | exact B_not (by omega)) ?_ | refine go_bind (by first | assumption) ?_ | dsimp only))
                    · (with_reducible repeat (first | refine go_pos (by first | assumption | omega | rfl | exact B_pos (by omega)) ?_ | refine go_neg (by first | assumption | omega | decide | exact B_not (by omega)) ?_ | refine go_bind (by first | assumption) ?_ | dsimp only))
                      simp only [wP (j := a) (by omega) (by omega), rdA (d := d3) (i := a - 1) (by omega), rdA (d := d3) (i := x) (by omega), Array.length_toList, ↓reduceIte]
                      (with_reducible repeat (first | refine go_pos (by first | assumption | omega | rfl | exact B_pos (by omega)) ?_ | refine go_neg (by first | assumption | omega | decide | exact B_not (by omega)) ?_ | refine go_bind (by first | assumption) ?_ | dsimp only))
                      simp only [wn (j := mid) (by omega), wS (a := b) (b := mid) (by omega) (by omega), wS (a := mid) (b := a) (by omega) (by omega), ↓reduceIte]
                      (with_reducible repeat (first | refine go_pos (by first | assumption | omega | rfl | exact B_pos (by omega)) ?_ | refine go_neg (by first | assumption | omega | decide | exact B_not (by omega)) ?_ | refine go_bind (by first | assumption) ?_ | dsimp only))
                  · refine res_of ?_ ((rec (decide (((b - mid : Nat) : Int) ≥ wrapI (((b - a : Nat) : Int).tdiv 8))) (decide (ap = true))).tr hp3)
                    rw [_root_.Go.Proofs.Ytjknpaplgclflaa.R.slices_pdqsortCmpFunc_int64.l0_eq, wS (a := b) (b := a) (by omega) (by omega), map_id', if_neg (c := ((b - a : Nat) : Int) ≤ 12) (by omega), if_neg (c := lim = 0) hlim, if_pos (c := (true = true)) rfl, hx, Option.bind_some]
                    dsimp only
                    simp only [wP (j := b) (by omega) (by omega), wS (a := x) (b := a) (by omega) (by omega), wS (a := b - 1) (b := x - a) (by omega) (by omega), ↓reduceIte]
                    rcases q with q | ⟨q, c, c1, c2⟩
                    · (with_reducible repeat (first | refine go_pos (by first | assumption | omega | rfl | exact B_pos (by omega)) ?_ | refine go_neg (by first | assumption | omega | decide | exact B_not (by omega)) ?_ | refine go_bind (by first | assumption) ?_ | dsimp only))
                      simp only [wn (j := mid) (by omega), wS (a := b) (b := mid) (by omega) (by omega), wS (a := mid) (b := a) (by omega) (by omega), ↓reduceIte]
                      (with_reducible repeat (first | refine go_pos (by first | assumption | omega | rfl | exact B_pos (by omega)) ?_ | refine go_neg (by first | assumption | omega | decide | exact B_not (by omega)) ?_ | refine go_bind (by first | assumption) ?_ | dsimp only))
                    · (with_reducible repeat (first | refine go_pos (by first | assumption | omega | rfl | exact B_pos (by omega)) ?_ | refine go_neg (by first | assumption | omega | decide | exact B_not (by omega)) ?_ | refine go_bind (by first | assumption) ?_ | dsimp only))
                      simp only [wP (j := a) (by omega) (by omega), rdA (d := d3) (i := a - 1) (by omega), rdA (d := d3) (i := x) (by omega), Array.length_toList, ↓reduceIte]
                      (with_reducible repeat (first | refine go_pos (by first | assumption | omega | rfl | exact B_pos (by omega)) ?_ | refine go_neg (by first | assumption | omega | decide | exact B_not (by omega)) ?_ | refine go_bind (by first | assumption) ?_ | dsimp only))
                      simp only [wn (j := mid) (by omega), wS (a := b) (b := mid) (by omega) (by omega), wS (a := mid) (b := a) (by omega) (by omega), ↓reduceIte]
                      (with_reducible repeat (first | refine go_pos (by first | assumption | omega | rfl | exact B_pos (by omega)) ?_ | refine go_neg (by first | assumption | omega | decide | exact B_not (by omega)) ?_ | refine go_bind (by first | assumption) ?_ | dsimp only))
            · have hs3 := hd.sz
              rcases pdqTail hc hN hb IH HF (by omega) hfu (lim := lim) (piv := x) x1 x2 hd hB with ⟨c, mid, d4, a0, c1, c2, e1, rec⟩ | ⟨mid, ap, d4, q, m1, m2, e1, r⟩
              · refine res_of (Y := _root_.Go.Proofs.Ytjknpaplgclflaa.R.slices_pdqsortCmpFunc_int64.l0 (m + 1) (mid : Int) (b : Int) lim C true true d4.toList) ?_ ((rec _ _).tr hp0)
                rw [_root_.Go.Proofs.Ytjknpaplgclflaa.R.slices_pdqsortCmpFunc_int64.l0_eq, wS (a := b) (b := a) (by omega) (by omega), map_id', if_neg (c := ((b - a : Nat) : Int) ≤ 12) (by omega), if_neg (c := lim = 0) hlim, if_pos (c := (true = true)) rfl, hx, Option.bind_some]
                dsimp only
                simp only [wP (j := b) (by omega) (by omega), wS (a := x) (b := a) (by omega) (by omega), wS (a := b - 1) (b := x - a) (by omega) (by omega), ↓reduceIte]
                (with_reducible repeat (first | refine go_pos (by first | assumption | omega | rfl | exact B_pos (by omega)) ?_ | refine go_neg (by first | assumption | omega | decide | exact B_not (by omega)) ?_ | refine go_bind (by first | assumption) ?_ | dsimp only))
                simp only [wP (j := a) (by omega) (by omega), rdA (d := d) (i := a - 1) (by omega), rdA (d := d) (i := x) (by omega), Array.length_toList, ↓reduceIte]
                (with_reducible repeat (first | refine go_pos (by first | assumption | omega | rfl | exact B_pos (by omega)) ?_ | refine go_neg (by first | assumption | omega | decide | exact B_not (by omega)) ?_ | refine go_bind (by first | assumption) ?_ | dsimp only))
              · rcases r with ⟨l1, d5, e2, rec⟩ | ⟨l1, d5, e2, rec⟩
                · refine res_of ?_ ((rec (decide (((mid - a : Nat) : Int) ≥ wrapI (((b - a : Nat) : Int).tdiv 8))) (decide (ap = true))).tr hp0)
                  rw [_root_.Go.Proofs.Ytjknpaplgclflaa.R.slices_pdqsortCmpFunc_int64.l0_eq, wS (a := b) (b := a) (by omega) (by omega), map_id', if_neg (c := ((b - a : Nat) : Int) ≤ 12) (by omega), if_neg (c := lim = 0) hlim, if_pos (c := (true = true)) rfl, hx, Option.bind_some]
                  dsimp only
                  simp only [wP (j := b) (by omega) (by omega), wS (a := x) (b := a) (by omega) (by omega), wS (a := b - 1) (b := x - a) (by omega) (by omega), ↓reduceIte]
                  rcases q with q | ⟨q, c, c1, c2⟩
                  · (with_reducible repeat (first | refine go_pos (by first | assumption | omega | rfl | exact B_pos (by omega)) ?_ | refine go_neg (by first | assumption | omega | decide | exact B_not (by omega)) ?_ | refine go_bind (by first | assumption) ?_ | dsimp only))
                    simp only [wn (j := mid) (by omega), wS (a := b) (b := mid) (by omega) (by omega), wS (a := mid) (b := a) (by omega) (by omega), ↓reduceIte]
                    (with_reducible repeat (first | refine go_pos (by first | assumption | omega | rfl | exact B_pos (by omega)) ?_ | refine go_neg (by first | assumption | omega | decide | exact B_not (by omega)) ?_ | refine go_bind (by first | assumption) ?_ | dsimp only))
                  · (with_reducible repeat (first | refine go_pos (by first | assumption | omega | rfl | exact B_pos (by omega)) ?_ | refine go_neg (by first | assumption | omega | decide | exact B_not (by omega)) ?_ | refine go_bind (by first | assumption) ?_ | dsimp only))
                    simp only [wP (j := a) (by omega) (by omega), rdA (d := d) (i := a - 1) (by omega), rdA (d := d) (i := x) (by omega), Array.length_toList, ↓reduceIte]
                    (with_reducible repeat (first | refine go_pos (by first | assumption | omega | rfl | exact B_pos (by omega)) ?_ | refine go_neg (by first | assumption | omega | decide | exact B_not (by omega)) ?_ | refine go_bind (by first | assumption) ?_ | dsimp only))
                    simp only [wn (j := mid) (by omega), wS (a := b) (b := mid) (by omega) (by omega), wS (a := mid) (b := a) (by omega) (by omega), ↓reduceIte]
                    (with_reducible repeat (first | refine go_pos (by first | assumption | omega | rfl | exact B_pos (by omega)) ?_ | refine go_neg (by first | assumption | omega | decide | exact B_not (by omega)) ?_ | refine go_bind (by first | assumption) ?_ | dsimp only))
                · refine res_of ?_ ((rec (decide (((b - mid : Nat) : Int) ≥ wrapI (((b - a : Nat) : Int).tdiv 8))) (decide (ap = true))).tr hp0)
                  rw [_root_.Go.Proofs.Ytjknpaplgclflaa.R.slices_pdqsortCmpFunc_int64.l0_eq, wS (a := b) (b := a) (by omega) (by omega), map_id', if_neg (c := ((b - a : Nat) : Int) ≤ 12) (by omega), if_neg (c := lim = 0) hlim, if_pos (c := (true = true)) rfl, hx, Option.bind_some]
                  dsimp only
                  simp only [wP (j := b) (by omega) (by omega), wS (a := x) (b := a) (by omega) (by omega), wS (a := b - 1) (b := x - a) (by omega) (by omega), ↓reduceIte]
                  rcases q with q | ⟨q, c, c1, c2⟩
                  · (with_reducible repeat (first | refine go_pos (by first | assumption | omega | rfl | exact B_pos (by omega)) ?_ | refine go_neg (by first | assumption | omega | decide | exact B_not (by omega)) ?_ | refine go_bind (by first | assumption) ?_ | dsimp only))
                    simp only [wn (j := mid) (by omega), wS (a := b) (b := mid) (by omega) (by omega), wS (a := mid) (b := a) (by omega) (by omega), ↓reduceIte]
                    (with_reducible repeat (first | refine go_pos (by first | assumption | omega | rfl | exact B_pos (by omega)) ?_ | refine go_neg (by first | assumption | omega | decide | exact B_not (by omega)) ?_ | refine go_bind (by first | assumption) ?_ | dsimp only))
                  · (with_reducible repeat (first | refine go_pos (by first | assumption | omega | rfl | exact B_pos (by omega)) ?_ | refine go_neg (by first | assumption | omega | decide | exact B_not (by omega)) ?_ | refine go_bind (by first | assumption) ?_ | dsimp only))
                    simp only [wP (j := a) (by omega) (by omega), rdA (d := d) (i := a - 1) (by omega), rdA (d := d) (i := x) (by omega), Array.length_toList, ↓reduceIte]
                    (with_reducible repeat (first | refine go_pos (by first | assumption | omega | rfl | exact B_pos (by omega)) ?_ | refine go_neg (by first | assumption | omega | decide | exact B_not (by omega)) ?_ | refine go_bind (by first | assumption) ?_ | dsimp only))
                    simp only [wn (j := mid) (by omega), wS (a := b) (b := mid) (by omega) (by omega), wS (a := mid) (b := a) (by omega) (by omega), ↓reduceIte]
                    (with_reducible repeat (first | refine go_pos (by first | assumption | omega | rfl | exact B_pos (by omega)) ?_ | refine go_neg (by first | assumption | omega | decide | exact B_not (by omega)) ?_ | refine go_bind (by first | assumption) ?_ | dsimp only))
      | false =>
        obtain ⟨d1, hbk, b2⟩ := brkF (C := C) hN hab' hb hd
        have hd1 := hd.perm hb b2
        have hB1 := hB.perm (by rw [hd.sz]; exact hb) b2
        obtain ⟨x, h, hx, x1, x2⟩ := pivF hc hN hab' hb hd1
        by_cases hh : h = 2
        · obtain ⟨d2, v1, v2⟩ := revS (C := C) hN hab' hb hd1
          have hd2 := hd1.perm hb v2
          have hB2 := hB1.perm (by rw [hd1.sz]; exact hb) v2
          have hp2 := Go.Sort.permIn_trans _ _ _ a b b2 v2
          have hs3 := hd2.sz
          rcases pdqTail hc hN hb IH HF (by omega) hfu (lim := (wrapI (lim - 1))) (piv := (b - 1 - (x - a))) (by omega) (by omega) hd2 hB2 with ⟨c, mid, d4, a0, c1, c2, e1, rec⟩ | ⟨mid, ap, d4, q, m1, m2, e1, r⟩
          · refine res_of (Y := _root_.Go.Proofs.Ytjknpaplgclflaa.R.slices_pdqsortCmpFunc_int64.l0 (m + 1) (mid : Int) (b : Int) (wrapI (lim - 1)) C false wp d4.toList) ?_ ((rec _ _).tr hp2)
            rw [_root_.Go.Proofs.Ytjknpaplgclflaa.R.slices_pdqsortCmpFunc_int64.l0_eq, wS (a := b) (b := a) (by omega) (by omega), map_id', if_neg (c := ((b - a : Nat) : Int) ≤ 12) (by omega), if_neg (c := lim = 0) hlim, if_neg (c := (false = true)) (by decide), hbk, Option.bind_some, hx, Option.bind_some]
            dsimp only
            simp only [wP (j := b) (by omega) (by omega), wS (a := x) (b := a) (by omega) (by omega), wS (a := b - 1) (b := x - a) (by omega) (by omega), ↓reduceIte]
            (with_reducible repeat (first | refine go_pos (by first | assumption | omega | rfl | exact B_pos (by omega)) ?_ | refine go_neg (by first | assumption | omega | decide | exact B_not (by omega)) ?_ | refine go_bind (by first | assumption) ?_ | dsimp only))
            simp only [wP (j := a) (by omega) (by omega), rdA (d := d2) (i := a - 1) (by omega), rdA (d := d2) (i := (b - 1 - (x - a))) (by omega), Array.length_toList, ↓reduceIte]
            (with_reducible repeat (first | refine go_pos (by first | assumption | omega | rfl | exact B_pos (by omega)) ?_ | refine go_neg (by first | assumption | omega | decide | exact B_not (by omega)) ?_ | refine go_bind (by first | assumption) ?_ | dsimp only))
          · rcases r with ⟨l1, d5, e2, rec⟩ | ⟨l1, d5, e2, rec⟩
            · refine res_of ?_ ((rec (decide (((mid - a : Nat) : Int) ≥ wrapI (((b - a : Nat) : Int).tdiv 8))) (decide (ap = true))).tr hp2)
              rw [_root_.Go.Proofs.Ytjknpaplgclflaa.R.slices_pdqsortCmpFunc_int64.l0_eq, wS (a := b) (b := a) (by omega) (by omega), map_id', if_neg (c := ((b - a : Nat) : Int) ≤ 12) (by omega), if_neg (c := lim = 0) hlim, if_neg (c := (false = true)) (by decide), hbk, Option.bind_some, hx, Option.bind_some]
              dsimp only
              simp only [wP (j := b) (by omega) (by omega), wS (a := x) (b := a) (by omega) (by omega), wS (a := b - 1) (b := x - a) (by omega) (by omega), ↓reduceIte]
              rcases q with q | ⟨q, c, c1, c2⟩
              · (with_reducible repeat (first | refine go_pos (by first | assumption | omega | rfl | exact B_pos (by omega)) ?_ | refine go_neg (by first | assumption | omega | decide | exact B_not (by omega)) ?_ | refine go_bind (by first | assumption) ?_ | dsimp only))
                simp only [wn (j := mid) (by omega), wS (a := b) (b := mid) (by omega) (by omega), wS (a := mid) (b := a) (by omega) (by omega), ↓reduceIte]
                (with_reducible repeat (first | refine go_pos (by first | assumption | omega | rfl | exact B_pos (by omega)) ?_ | refine go_neg (by first | assumption | omega | decide | exact B_not (by omega)) ?_ | refine go_bind (by first | assumption) ?_ | dsimp only))
              · (with_reducible repeat (first | refine go_pos (by first | assumption | omega | rfl | exact B_pos (by omega)) ?_ | refine go_neg (by first | assumption | omega | decide | exact B_not (by omega)) ?_ | refine go_bind (by first | assumption) ?_ | dsimp only))
                simp only [wP (j := a) (by omega) (by omega), rdA (d := d2) (i := a - 1) (by omega), rdA (d := d2) (i := (b - 1 - (x - a))) (by omega), Array.length_toList, ↓reduceIte]
                (with_reducible repeat (first | refine go_pos (by first | assumption | omega | rfl | exact B_pos (by omega)) ?_ | refine go_neg (by first | assumption | omega | decide | exact B_not (by omega)) ?_ | refine go_bind (by first | assumption) ?_ | dsimp only))
                simp only [wn (j := mid) (by omega), wS (a := b) (b := mid) (by omega) (by omega), wS (a := mid) (b := a) (by omega) (by omega), ↓reduceIte]
                (with_reducible repeat (first | refine go_pos (by first | assumption | omega | rfl | exact B_pos (by omega)) ?_ | refine go_neg (by first | assumption | omega | decide | exact B_not (by omega)) ?_ | refine go_bind (by first | assumption) ?_ | dsimp only))
            · refine res_of ?_ ((rec (decide (((b - mid : Nat) : Int) ≥ wrapI (((b - a : Nat) : Int).tdiv 8))) (decide (ap = true))).tr hp2)
              rw [_root_.Go.Proofs.Ytjknpaplgclflaa.R.slices_pdqsortCmpFunc_int64.l0_eq, wS (a := b) (b := a) (by omega) (by omega), map_id', if_neg (c := ((b - a : Nat) : Int) ≤ 12) (by omega), if_neg (c := lim = 0) hlim, if_neg (c := (false = true)) (by decide), hbk, Option.bind_some, hx, Option.bind_some]
              dsimp only
              simp only [wP (j := b) (by omega) (by omega), wS (a := x) (b := a) (by omega) (by omega), wS (a := b - 1) (b := x - a) (by omega) (by omega), ↓reduceIte]
              rcases q with q | ⟨q, c, c1, c2⟩
              · (with_reducible repeat (first | refine go_pos (by first | assumption | omega | rfl | exact B_pos (by omega)) ?_ | refine go_neg (by first | assumption | omega | decide | exact B_not (by omega)) ?_ | refine go_bind (by first | assumption) ?_ | dsimp only))
                simp only [wn (j := mid) (by omega), wS (a := b) (b := mid) (by omega) (by omega), wS (a := mid) (b := a) (by omega) (by omega), ↓reduceIte]
                (with_reducible repeat (first | refine go_pos (by first | assumption | omega | rfl | exact B_pos (by omega)) ?_ | refine go_neg (by first | assumption | omega | decide | exact B_not (by omega)) ?_ | refine go_bind (by first | assumption) ?_ | dsimp only))
              · (with_reducible repeat (first | refine go_pos (by first | assumption | omega | rfl | exact B_pos (by omega)) ?_ | refine go_neg (by first | assumption | omega | decide | exact B_not (by omega)) ?_ | refine go_bind (by first | assumption) ?_ | dsimp only))
                simp only [wP (j := a) (by omega) (by omega), rdA (d := d2) (i := a - 1) (by omega), rdA (d := d2) (i := (b - 1 - (x - a))) (by omega), Array.length_toList, ↓reduceIte]
                (with_reducible repeat (first | refine go_pos (by first | assumption | omega | rfl | exact B_pos (by omega)) ?_ | refine go_neg (by first | assumption | omega | decide | exact B_not (by omega)) ?_ | refine go_bind (by first | assumption) ?_ | dsimp only))
                simp only [wn (j := mid) (by omega), wS (a := b) (b := mid) (by omega) (by omega), wS (a := mid) (b := a) (by omega) (by omega), ↓reduceIte]
                (with_reducible repeat (first | refine go_pos (by first | assumption | omega | rfl | exact B_pos (by omega)) ?_ | refine go_neg (by first | assumption | omega | decide | exact B_not (by omega)) ?_ | refine go_bind (by first | assumption) ?_ | dsimp only))
        · have hs3 := hd1.sz
          rcases pdqTail hc hN hb IH HF (by omega) hfu (lim := (wrapI (lim - 1))) (piv := x) x1 x2 hd1 hB1 with ⟨c, mid, d4, a0, c1, c2, e1, rec⟩ | ⟨mid, ap, d4, q, m1, m2, e1, r⟩
          · refine res_of (Y := _root_.Go.Proofs.Ytjknpaplgclflaa.R.slices_pdqsortCmpFunc_int64.l0 (m + 1) (mid : Int) (b : Int) (wrapI (lim - 1)) C false wp d4.toList) ?_ ((rec _ _).tr b2)
            rw [_root_.Go.Proofs.Ytjknpaplgclflaa.R.slices_pdqsortCmpFunc_int64.l0_eq, wS (a := b) (b := a) (by omega) (by omega), map_id', if_neg (c := ((b - a : Nat) : Int) ≤ 12) (by omega), if_neg (c := lim = 0) hlim, if_neg (c := (false = true)) (by decide), hbk, Option.bind_some, hx, Option.bind_some]
            dsimp only
            simp only [wP (j := b) (by omega) (by omega), wS (a := x) (b := a) (by omega) (by omega), wS (a := b - 1) (b := x - a) (by omega) (by omega), ↓reduceIte]
            (with_reducible repeat (first | refine go_pos (by first | assumption | omega | rfl | exact B_pos (by omega)) ?_ | refine go_neg (by first | assumption | omega | decide | exact B_not (by omega)) ?_ | refine go_bind (by first | assumption) ?_ | dsimp only))
            simp only [wP (j := a) (by omega) (by omega), rdA (d := d1) (i := a - 1) (by omega), rdA (d := d1) (i := x) (by omega), Array.length_toList, ↓reduceIte]
            (with_reducible repeat (first | refine go_pos (by first | assumption | omega | rfl | exact B_pos (by omega)) ?_ | refine go_neg (by first | assumption | omega | decide | exact B_not (by omega)) ?_ | refine go_bind (by first | assumption) ?_ | dsimp only))
          · rcases r with ⟨l1, d5, e2, rec⟩ | ⟨l1, d5, e2, rec⟩
            · refine res_of ?_ ((rec (decide (((mid - a : Nat) : Int) ≥ wrapI (((b - a : Nat) : Int).tdiv 8))) (decide (ap = true))).tr b2)
              rw [_root_.Go.Proofs.Ytjknpaplgclflaa.R.slices_pdqsortCmpFunc_int64.l0_eq, wS (a := b) (b := a) (by omega) (by omega), map_id', if_neg (c := ((b - a : Nat) : Int) ≤ 12) (by omega), if_neg (c := lim = 0) hlim, if_neg (c := (false = true)) (by decide), hbk, Option.bind_some, hx, Option.bind_some]
              dsimp only
              simp only [wP (j := b) (by omega) (by omega), wS (a := x) (b := a) (by omega) (by omega), wS (a := b - 1) (b := x - a) (by omega) (by omega), ↓reduceIte]
              rcases q with q | ⟨q, c, c1, c2⟩
              · (with_reducible repeat (first | refine go_pos (by first | assumption | omega | rfl | exact B_pos (by omega)) ?_ | refine go_neg (by first | assumption | omega | decide | exact B_not (by omega)) ?_ | refine go_bind (by first | assumption) ?_ | dsimp only))
                simp only [wn (j := mid) (by omega), wS (a := b) (b := mid) (by omega) (by omega), wS (a := mid) (b := a) (by omega) (by omega), ↓reduceIte]
                (with_reducible repeat (first | refine go_pos (by first | assumption | omega | rfl | exact B_pos (by omega)) ?_ | refine go_neg (by first | assumption | omega | decide | exact B_not (by omega)) ?_ | refine go_bind (by first | assumption) ?_ | dsimp only))
              · (with_reducible repeat (first | refine go_pos (by first | assumption | omega | rfl | exact B_pos (by omega)) ?_ | refine go_neg (by first | assumption | omega | decide | exact B_not (by omega)) ?_ | refine go_bind (by first | assumption) ?_ | dsimp only))
                simp only [wP (j := a) (by omega) (by omega), rdA (d := d1) (i := a - 1) (by omega), rdA (d := d1) (i := x) (by omega), Array.length_toList, ↓reduceIte]
                (with_reducible repeat (first | refine go_pos (by first | assumption | omega | rfl | exact B_pos (by omega)) ?_ | refine go_neg (by first | assumption | omega | decide | exact B_not (by omega)) ?_ | refine go_bind (by first | assumption) ?_ | dsimp only))
                simp only [wn (j := mid) (by omega), wS (a := b) (b := mid) (by omega) (by omega), wS (a := mid) (b := a) (by omega) (by omega), ↓reduceIte]
                (with_reducible repeat (first | refine go_pos (by first | assumption | omega | rfl | exact B_pos (by omega)) ?_ | refine go_neg (by first | assumption | omega | decide | exact B_not (by omega)) ?_ | refine go_bind (by first | assumption) ?_ | dsimp only))
            · refine res_of ?_ ((rec (decide (((b - mid : Nat) : Int) ≥ wrapI (((b - a : Nat) : Int).tdiv 8))) (decide (ap = true))).tr b2)
              rw [_root_.Go.Proofs.Ytjknpaplgclflaa.R.slices_pdqsortCmpFunc_int64.l0_eq, wS (a := b) (b := a) (by omega) (by omega), map_id', if_neg (c := ((b - a : Nat) : Int) ≤ 12) (by omega), if_neg (c := lim = 0) hlim, if_neg (c := (false = true)) (by decide), hbk, Option.bind_some, hx, Option.bind_some]
              dsimp only
              simp only [wP (j := b) (by omega) (by omega), wS (a := x) (b := a) (by omega) (by omega), wS (a := b - 1) (b := x - a) (by omega) (by omega), ↓reduceIte]
              rcases q with q | ⟨q, c, c1, c2⟩
              · (with_reducible repeat (first | refine go_pos (by first | assumption | omega | rfl | exact B_pos (by omega)) ?_ | refine go_neg (by first | assumption | omega | decide | exact B_not (by omega)) ?_ | refine go_bind (by first | assumption) ?_ | dsimp only))
                simp only [wn (j := mid) (by omega), wS (a := b) (b := mid) (by omega) (by omega), wS (a := mid) (b := a) (by omega) (by omega), ↓reduceIte]
                (with_reducible repeat (first | refine go_pos (by first | assumption | omega | rfl | exact B_pos (by omega)) ?_ | refine go_neg (by first | assumption | omega | decide | exact B_not (by omega)) ?_ | refine go_bind (by first | assumption) ?_ | dsimp only))
              · (with_reducible repeat (first | refine go_pos (by first | assumption | omega | rfl | exact B_pos (by omega)) ?_ | refine go_neg (by first | assumption | omega | decide | exact B_not (by omega)) ?_ | refine go_bind (by first | assumption) ?_ | dsimp only))
                simp only [wP (j := a) (by omega) (by omega), rdA (d := d1) (i := a - 1) (by omega), rdA (d := d1) (i := x) (by omega), Array.length_toList, ↓reduceIte]
                (with_reducible repeat (first | refine go_pos (by first | assumption | omega | rfl | exact B_pos (by omega)) ?_ | refine go_neg (by first | assumption | omega | decide | exact B_not (by omega)) ?_ | refine go_bind (by first | assumption) ?_ | dsimp only))
                simp only [wn (j := mid) (by omega), wS (a := b) (b := mid) (by omega) (by omega), wS (a := mid) (b := a) (by omega) (by omega), ↓reduceIte]
                (with_reducible repeat (first | refine go_pos (by first | assumption | omega | rfl | exact B_pos (by omega)) ?_ | refine go_neg (by first | assumption | omega | decide | exact B_not (by omega)) ?_ | refine go_bind (by first | assumption) ?_ | dsimp only))
theorem sortAll {H : Value → Prop} {L : Value → Value → Prop} {C : Value → Value → Option Int} (hC : Ord H L C) {xs : List Value} (hN : xs.length ≤ 1000000000) (hr : ∀ r ∈ xs, H r) :
    ∃ S, _root_.Go.Proofs.Ytjknpaplgclflaa.R.slices_SortFunc_int64.f xs C = some S ∧ S.Pairwise (fun r s => ¬ L s r) ∧ S.Perm xs := by
  classical
  obtain ⟨lt, hlt⟩ : ∃ lt : Value → Value → Bool, ∀ x y, lt x y = true ↔ (H x ∧ H y ∧ L x y) ∨ (H x ∧ ¬ H y) := ⟨fun x y => decide ((H x ∧ H y ∧ L x y) ∨ (H x ∧ ¬ H y)), fun x y => decide_eq_true_iff⟩
  have hnl : ∀ x y, lt x y = false ↔ ¬ ((H x ∧ H y ∧ L x y) ∨ (H x ∧ ¬ H y)) := fun x y => by rw [← hlt, Bool.not_eq_true]
  have hc : Cm H lt C := by
    refine ⟨⟨fun x => ?_, fun x y z h1 h2 => ?_, fun x y z h1 h2 => ?_⟩, fun x y hx hy => ?_⟩
    · rw [hnl]
      rintro (⟨h1, _, h3⟩ | ⟨h1, h2⟩)
      · exact hC.asy x x h3 h3
      · exact h2 h1
    · rw [hlt] at h1 h2 ⊢
      rcases h2 with ⟨hy, hz, h2⟩ | ⟨hy, hz⟩
      · rcases h1 with ⟨hx, _, h1⟩ | ⟨hx, h1⟩
        · refine .inl ⟨hx, hz, ?_⟩
          exact Classical.byContradiction fun k => hC.tr y z x hy hz hx (fun q => hC.asy _ _ h2 q) k h1
        · exact absurd hy h1
      · rcases h1 with ⟨hx, _, _⟩ | ⟨hx, h1⟩
        · exact .inr ⟨hx, hz⟩
        · exact absurd hy h1
    · rw [hnl] at h1 h2 ⊢
      rintro (⟨hx, hz, h3⟩ | ⟨hx, hz⟩)
      · by_cases hy : H y
        · exact hC.tr z y x hz hy hx (fun k => h2 (.inl ⟨hy, hz, k⟩)) (fun k => h1 (.inl ⟨hx, hy, k⟩)) h3
        · exact h1 (.inr ⟨hx, hy⟩)
      · by_cases hy : H y
        · exact h2 (.inr ⟨hy, hz⟩)
        · exact h1 (.inr ⟨hx, hy⟩)
    · obtain ⟨c, c1, c2⟩ := hC.cmp x y hx hy
      refine ⟨c, c1, c2.trans ?_⟩
      rw [hlt]
      exact ⟨fun k => .inl ⟨hx, hy, k⟩, fun k => k.elim (fun k => k.2.2) (fun k => absurd hy k.2)⟩
  have hd : Al H xs.length xs.toArray := ⟨by simp, fun i hi => by
    rw [getElem!_pos xs.toArray i (by simpa using hi)]
    exact hr _ (by simp)⟩
  have hb : ∃ t, _root_.Go.Proofs.Ytjknpaplgclflaa.R.bits_Len.f (wr .u64 (xs.length : Int)) = some t := by
    rw [wr_id (by omega) (by omega)]
    unfold _root_.Go.Proofs.Ytjknpaplgclflaa.R.bits_Len.f
    rw [if_pos (by omega)]
    exact ⟨_, rfl⟩
  obtain ⟨t, ht⟩ := hb
  obtain ⟨d', h1, h2, h3⟩ := pdqL hc hN 63 xs.length 0 xs.length t true true xs.toArray (by omega) (Nat.lt_of_le_of_lt (Nat.le_trans (Nat.sub_le _ _) hN) (by decide)) (by omega) (Nat.le_refl _) hd (.inl rfl)
  have hsz : d'.size = xs.length := by rw [h2.1]; simp
  refine ⟨d'.toList, ?_, ?_, ?_⟩
  · rw [_root_.Go.Proofs.Ytjknpaplgclflaa.R.slices_SortFunc_int64.f_eq, ht, Option.bind_some, map_id', fuel_eq, _root_.Go.Proofs.Ytjknpaplgclflaa.R.slices_pdqsortCmpFunc_int64.f_eq]
    rw [show (0 : Int) = ((0 : Nat) : Int) from rfl]
    have : xs.toArray.toList = xs := by simp
    rw [this] at h1
    rw [h1]
    rfl
  · rw [List.pairwise_iff_getElem]
    intro i j hi hj hij k
    have hi' : i < xs.length := by simpa [hsz] using hi
    have hj' : j < xs.length := by simpa [hsz] using hj
    have := h3 i j (Nat.zero_le _) hij hj'
    rw [getElem!_pos d' i (by omega), getElem!_pos d' j (by omega)] at this
    have hH := hd.perm (Nat.le_refl _) h2
    have a1 := hH.all i hi'
    have a2 := hH.all j hj'
    rw [getElem!_pos d' i (by omega)] at a1
    rw [getElem!_pos d' j (by omega)] at a2
    rw [hnl] at this
    exact this (.inl ⟨a2, a1, by simpa using k⟩)
  · have := h2.2.2
    have e1 : xs.toArray.extract 0 xs.length = xs.toArray := by simp
    have e2 : d'.extract 0 xs.length = d' := by rw [← hsz]; simp
    rw [e1, e2] at this
    simpa using this
end Go.Proofs.Ytjknpaplgclflaa.V
set_option linter.unusedVariables false
set_option linter.unusedSimpArgs false
set_option maxHeartbeats 4000000
set_option maxRecDepth 20000
namespace Go.Proofs.Ytjknpaplgclflaa.V
open Go Go.RowKit Go.Proofs.Ytjknpaplgclflaa.D Go.Proofs.Ytjknpaplgclflaa.P
def CrP (g : List (List Int)) (m : Int) (u r : List Int) (n : Nat) : Prop := ∀ x : Int, 0 ≤ x → x < n → ∀ y : Int, 0 ≤ y → y < n → T g x y < n → rd r (T g x y) = (rd r x + rd u x * rd r y) % m
theorem CrP.pre {g : List (List Int)} {m : Int} {u r r' : List Int} {n n' : Nat} (h : CrP g m u r n) (hn : n' ≤ n) (hg : Grp g) (hN : n ≤ g.length) (he : ∀ i : Int, 0 ≤ i → i < n' → rd r' i = rd r i) : CrP g m u r' n' := by
  intro x x0 x1 y y0 y1 ht
  have e := h x x0 (by omega) y y0 (by omega) (by omega)
  obtain ⟨t0, _⟩ := hg.ent x y x0 (by omega) y0 (by omega)
  rw [he x x0 x1, he y y0 y1, he _ t0 ht]
  exact e
theorem crP_crs {g : List (List Int)} (hg : Grp g) {m : Int} {u r : List Int} : CrP g m u r g.length ↔ Crs g m u r :=
  ⟨fun h x x0 x1 y y0 y1 => h x x0 x1 y y0 y1 (hg.ent x y x0 x1 y0 y1).2, fun h x x0 x1 y y0 y1 _ => h x x0 x1 y y0 y1⟩
theorem rd_rep (k : Nat) (z : Int) : rd (List.replicate k 0) z = 0 := by
  show (List.replicate k (0 : Int)).getD z.toNat 0 = 0
  rw [List.getD_eq_getElem?_getD, List.getElem?_replicate]
  split <;> rfl
theorem coM_crs {g : List (List Int)} (hg : Grp g) {m : Int} {u h : List Int} (hm : Mdl g m u) (hl : h.length = nB g 1) (ha : AllIn m h) : coM g m u 1 (V h) ↔ Crs g m u (0 :: h) := by
  have m2 := hm.m2
  obtain ⟨c1, c2⟩ := nA_bd hg (e := 2) (by omega)
  have hc : Co g m 2 (List.replicate (nB g 2) 0) := ⟨by omega, by rw [List.length_replicate]; exact c2, allIn_of fun x hx => by rw [List.eq_of_mem_replicate hx]; omega⟩
  have e := ext_iff hg (v := List.replicate (nB g 2) 0) (w := List.replicate (nB g 2) 0) hm hc hl ha List.length_replicate (fun i hi => by rw [rd_rep]; exact ⟨0, by omega⟩)
  have hz : ∀ x y, At g (List.replicate (nB g 2) 0) [x, y] = 0 := fun x y => by
    unfold At
    by_cases k : NoUnit [x, y]
    · rw [ite_pos k, rd_rep]
    · rw [ite_neg k]
  have e1 : ConP g m u (List.replicate (nB g 2) 0) (0 :: h) g.length ↔ Crs g m u (0 :: h) := by
    rw [← crP_crs hg]
    constructor
    · intro q x x0 x1 y y0 y1 t
      have := q x x0 x1 y y0 y1 t
      rw [hz, Int.add_zero] at this
      exact this.symm
    · intro q x x0 x1 y y0 y1 t
      rw [hz, Int.add_zero]
      exact (q x x0 x1 y y0 y1 t).symm
  rw [← e1, e]
  have hp : ∀ i : Nat, V (List.replicate (nB g 2) 0 ++ h) i = pad (nB g 2) (V h) i := fun i => by
    unfold pad
    by_cases k : i < nB g 2
    · rw [if_pos k]
      show rd (List.replicate (nB g 2) 0 ++ h) (i : Int) = 0
      rw [rd_app_left (by rw [List.length_replicate]; exact k), rd_rep]
    · rw [if_neg k]
      show rd (List.replicate (nB g 2) 0 ++ h) (i : Int) = _
      rw [rd_app_right (by rw [List.length_replicate]; omega), List.length_replicate]
      rfl
  exact ⟨fun q => .alike (show Sp m _ _ _ from q) fun i _ => dvd_same (hp i).symm, fun q => .alike (show Sp m _ _ _ from q) fun i _ => dvd_same (hp i)⟩
theorem fm_len {α : Type} {F : α → List (List Int)} {c : Nat} (h : ∀ x, (F x).length = c) : ∀ l : List α, (l.flatMap F).length = l.length * c := by
  intro l
  induction l with
  | nil => simp
  | cons x l ih => rw [List.flatMap_cons, List.length_append, ih, h, List.length_cons, Nat.succ_mul]; omega
noncomputable def muls (m : Int) (r : List Int) (k : Nat) (x : List Int) : List (List Int) := (List.range (m / rd r (k : Int)).toNat).map fun c : Nat => mix m 1 x (c : Int) r
noncomputable def allL (m : Int) (p : List (List Int)) (W : Nat) : Nat → List (List Int)
  | 0 => [List.replicate W 0]
  | k + 1 => ite_ (row p (k : Int) = []) (allL m p W k) ((allL m p W k).flatMap (muls m (row p (k : Int)) k))
theorem muls_len (m : Int) (r : List Int) (k : Nat) (x : List Int) : (muls m r k x).length = (m / rd r (k : Int)).toNat := by simp [muls]
theorem allL_none {m : Int} {p : List (List Int)} {W k : Nat} (h : row p (k : Int) = []) : allL m p W (k + 1) = allL m p W k := by
  conv => lhs; unfold allL
  exact ite_pos h _ _
theorem allL_some {m : Int} {p : List (List Int)} {W k : Nat} (h : ¬ row p (k : Int) = []) : allL m p W (k + 1) = (allL m p W k).flatMap (muls m (row p (k : Int)) k) := by
  conv => lhs; unfold allL
  exact ite_neg h _ _
theorem piv_bd {m : Int} (m2 : 2 ≤ m) {W : Nat} {p : List (List Int)} (ht : PTab m W p) {k : Nat} (hk : k < W) (hr : ¬ row p (k : Int) = []) : 0 < rd (row p (k : Int)) (k : Int) ∧ rd (row p (k : Int)) (k : Int) < m ∧ 1 ≤ m / rd (row p (k : Int)) (k : Int) ∧ m / rd (row p (k : Int)) (k : Int) ≤ m := by
  have hP := ht.prow hk hr
  obtain ⟨a0, a1⟩ := hP.ent (k : Int) (by omega) (by rw [hP.len]; omega)
  have p0 := hP.pos
  exact ⟨p0, a1, (Int.le_ediv_iff_mul_le p0).2 (by omega), Int.ediv_le_self _ (by omega)⟩
theorem allL_len {m : Int} (m2 : 2 ≤ m) (m12 : m ≤ 12) {W : Nat} {p : List (List Int)} (ht : PTab m W p) : ∀ k, k ≤ W → (allL m p W k).length ≤ 12 ^ k ∧ 0 < (allL m p W k).length := by
  intro k
  induction k with
  | zero => intro _; simp [allL]
  | succ k ih =>
    intro hk
    obtain ⟨h1, h2⟩ := ih (by omega)
    rw [Nat.pow_succ]
    by_cases hr : row p (k : Int) = []
    · rw [allL_none hr]; omega
    · obtain ⟨b0, b1, b2, b3⟩ := piv_bd m2 ht (show k < W by omega) hr
      rw [allL_some hr, fm_len (muls_len m (row p (k : Int)) k)]
      exact ⟨Nat.mul_le_mul h1 (by omega), Nat.mul_pos h2 (by omega)⟩
theorem allL_in {m : Int} (m2 : 2 ≤ m) {W : Nat} {p : List (List Int)} {M : Vc → Prop} (hM : Lead m W p M) : ∀ k, k ≤ W → ∀ r ∈ allL m p W k, r.length = W ∧ AllIn m r ∧ M (V r) := by
  intro k
  induction k with
  | zero =>
    intro _ r hr
    obtain rfl : r = List.replicate W 0 := by simpa [allL] using hr
    refine ⟨List.length_replicate, allIn_of fun x hx => by rw [List.eq_of_mem_replicate hx]; omega, ?_⟩
    exact hM.sub.alike _ _ hM.sub.zero fun i _ => dvd_same (rd_rep W (i : Int)).symm
  | succ k ih =>
    intro hk r hr
    have ih := ih (by omega)
    by_cases hn : row p (k : Int) = []
    · rw [allL_none hn] at hr; exact ih r hr
    · rw [allL_some hn, List.mem_flatMap] at hr
      obtain ⟨x, hx, hr⟩ := hr
      obtain ⟨c, _, rfl⟩ := List.mem_map.1 hr
      obtain ⟨x1, x2, x3⟩ := ih x hx
      refine ⟨by rw [mix_length, x1], mix_in (by omega), ?_⟩
      refine hM.sub.alike _ _ (hM.sub.lin _ _ x3 (hM.own k (by omega) hn) (c : Int)) fun i hi => ?_
      have := mix_dvd (m := m) (x := 1) (a := x) (y := (c : Int)) (b := row p (k : Int)) (i := i) (by omega)
      rwa [Int.one_mul] at this
theorem allL_has {m : Int} (m2 : 2 ≤ m) {W : Nat} {p : List (List Int)} {M : Vc → Prop} (hM : Lead m W p M) {x : List Int} (hx : x.length = W) (ha : AllIn m x) (hxM : M (V x)) : ∀ k, k ≤ W → ∃ y ∈ allL m p W k, ∀ i : Nat, i < k → rd y (i : Int) = rd x (i : Int) := by
  intro k
  induction k with
  | zero => intro _; exact ⟨List.replicate W 0, by simp [allL], fun i hi => by omega⟩
  | succ k ih =>
    intro hk
    obtain ⟨y, hy, he⟩ := ih (by omega)
    obtain ⟨y1, y2, y3⟩ := allL_in m2 hM k (by omega) y hy
    have hd : M fun i => V x i + (-1) * V y i := hM.sub.lin _ _ hxM y3 (-1)
    have hdv := hM.lead _ hd k (by omega) fun i hi => by
      show m ∣ rd x (i : Int) + -1 * rd y (i : Int)
      rw [he i hi]; exact ⟨0, by omega⟩
    have hdv : dv m p k ∣ rd x (k : Int) + -1 * rd y (k : Int) := hdv
    obtain ⟨a0, a1⟩ := ha (k : Int) (by omega) (by omega)
    obtain ⟨b0, b1⟩ := y2 (k : Int) (by omega) (by omega)
    by_cases hn : row p (k : Int) = []
    · rw [allL_none hn]
      refine ⟨y, hy, fun i hi => ?_⟩
      by_cases e : i = k
      · subst e
        rw [show dv m p i = m from if_pos hn] at hdv
        have hd2 : m ∣ rd x (i : Int) - rd y (i : Int) := by rwa [show rd x (i : Int) - rd y (i : Int) = rd x (i : Int) + -1 * rd y (i : Int) by omega]
        have := Int.emod_eq_emod_iff_emod_sub_eq_zero.2 (Int.emod_eq_zero_of_dvd hd2)
        rw [Int.emod_eq_of_lt a0 a1, Int.emod_eq_of_lt b0 b1] at this
        exact this.symm
      · exact he i (by omega)
    · have hP := hM.tab.prow (show k < W by omega) hn
      obtain ⟨p0, p1, p2, p3⟩ := piv_bd m2 hM.tab (show k < W by omega) hn
      have hdd : dv m p k = rd (row p (k : Int)) (k : Int) := if_neg hn
      obtain ⟨_, _, hdm⟩ := dv_bd (show 0 < m by omega) hM.tab (show k < W by omega)
      rw [hdd] at hdv hdm
      obtain ⟨q, hq⟩ := hdv
      obtain ⟨s, hs⟩ := hdm
      have hms : m / rd (row p (k : Int)) (k : Int) = s := by
        conv => lhs; rw [hs]
        exact Int.mul_ediv_cancel_left _ (by omega)
      rw [hms] at p2
      have c0 := Int.emod_nonneg q (show s ≠ 0 by omega)
      have c1 := Int.emod_lt_of_pos q (show 0 < s by omega)
      rw [allL_some hn]
      refine ⟨mix m 1 y (((q % s).toNat : Nat) : Int) (row p (k : Int)), List.mem_flatMap.2 ⟨y, hy, List.mem_map.2 ⟨(q % s).toNat, List.mem_range.2 (by rw [hms]; omega), rfl⟩⟩, fun i hi => ?_⟩
      rw [mix_rd (by omega), Int.toNat_of_nonneg c0, Int.one_mul]
      by_cases e : i = k
      · subst e
        have e1 : rd y (i : Int) + q % s * rd (row p (i : Int)) (i : Int) = rd x (i : Int) + m * (-(q / s)) := by
          have h1 := Int.mul_ediv_add_emod q s
          have h2 : rd (row p (i : Int)) (i : Int) * q = rd (row p (i : Int)) (i : Int) * (s * (q / s)) + rd (row p (i : Int)) (i : Int) * (q % s) := by rw [← Int.mul_add, h1]
          rw [← Int.mul_assoc, ← hs] at h2
          rw [Int.mul_comm (q % s), Int.mul_neg]
          omega
        rw [e1, Int.add_mul_emod_self_left, Int.emod_eq_of_lt a0 a1]
      · rw [hP.zero i (by omega), Int.mul_zero, Int.add_zero, he i (by omega)]
        obtain ⟨d0, d1⟩ := ha (i : Int) (by omega) (by omega)
        exact Int.emod_eq_of_lt d0 d1
theorem allL_dif {m : Int} (m2 : 2 ≤ m) {W : Nat} {p : List (List Int)} {M : Vc → Prop} (hM : Lead m W p M) : ∀ k, k ≤ W → (allL m p W k).Pairwise fun r s => ∃ i : Nat, i < k ∧ rd r (i : Int) ≠ rd s (i : Int) := by
  intro k
  induction k with
  | zero => intro _; exact List.pairwise_singleton _ _
  | succ k ih =>
    intro hk
    have ih := ih (by omega)
    by_cases hn : row p (k : Int) = []
    · rw [allL_none hn]
      exact ih.imp fun ⟨i, hi, h⟩ => ⟨i, by omega, h⟩
    · have hP := hM.tab.prow (show k < W by omega) hn
      obtain ⟨p0, p1, p2, p3⟩ := piv_bd m2 hM.tab (show k < W by omega) hn
      obtain ⟨_, _, hdm⟩ := dv_bd (show 0 < m by omega) hM.tab (show k < W by omega)
      rw [show dv m p k = rd (row p (k : Int)) (k : Int) from if_neg hn] at hdm
      obtain ⟨s, hs⟩ := hdm
      have hms : m / rd (row p (k : Int)) (k : Int) = s := by
        conv => lhs; rw [hs]
        exact Int.mul_ediv_cancel_left _ (by omega)
      rw [allL_some hn, List.pairwise_flatMap]
      constructor
      · intro x hx
        obtain ⟨x1, x2, x3⟩ := allL_in m2 hM k (by omega) x hx
        unfold muls
        rw [List.pairwise_map]
        refine (List.pairwise_lt_range).imp_of_mem fun {c c'} hc hc' hcc => ⟨k, by omega, fun e => ?_⟩
        have lc := List.mem_range.1 hc
        have lc' := List.mem_range.1 hc'
        rw [mix_rd (by omega), mix_rd (by omega)] at e
        have hd := Int.emod_eq_emod_iff_emod_sub_eq_zero.1 e
        have hd := Int.dvd_of_emod_eq_zero hd
        have e2 : 1 * rd x (k : Int) + (c : Int) * rd (row p (k : Int)) (k : Int) - (1 * rd x (k : Int) + (c' : Int) * rd (row p (k : Int)) (k : Int)) = -(((c' : Int) - c) * rd (row p (k : Int)) (k : Int)) := by rw [Int.sub_mul]; omega
        rw [e2] at hd
        have hd := (Int.dvd_neg).1 hd
        have b1 : 0 < ((c' : Int) - c) * rd (row p (k : Int)) (k : Int) := Int.mul_pos (by omega) p0
        have b2 : ((c' : Int) - c) * rd (row p (k : Int)) (k : Int) < m := by
          have : ((c' : Int) - c) < s := by omega
          have := Int.mul_lt_mul_of_pos_right this p0
          rw [Int.mul_comm s, ← hs] at this
          exact this
        have := Int.le_of_dvd b1 hd
        omega
      · refine ih.imp_of_mem fun {x x'} hx hx' ⟨i, hi, hne⟩ r hr s' hs' => ⟨i, by omega, ?_⟩
        obtain ⟨c, _, rfl⟩ := List.mem_map.1 hr
        obtain ⟨c', _, rfl⟩ := List.mem_map.1 hs'
        obtain ⟨x1, x2, _⟩ := allL_in m2 hM k (by omega) x hx
        obtain ⟨y1, y2, _⟩ := allL_in m2 hM k (by omega) x' hx'
        obtain ⟨a0, a1⟩ := x2 (i : Int) (by omega) (by omega)
        obtain ⟨b0, b1⟩ := y2 (i : Int) (by omega) (by omega)
        rw [mix_rd (by omega), mix_rd (by omega), hP.zero i hi, Int.mul_zero, Int.mul_zero, Int.add_zero, Int.add_zero, Int.one_mul, Int.one_mul, Int.emod_eq_of_lt a0 a1, Int.emod_eq_of_lt b0 b1]
        exact hne
theorem spanL {m : Int} (m2 : 2 ≤ m) (m12 : m ≤ 12) {W : Nat} (hW : W ≤ 8) {p : List (List Int)} {M : Vc → Prop} (hM : Lead m W p M) :
    impl_span_all.f m p = (slices_SortFunc_int64.f (allL m p W W) (fun z0 z1 => (slices_Compare_int64.f z0 z1).map fun z => z)).bind fun t => some (t, m, p) := by
  have hl := hM.tab.len
  have l2 : ∀ x : List Int, ([x] : List (List Int)).length = 1 := fun _ => rfl
  have big : ∀ k, k ≤ 8 → (12 : Nat) ^ k ≤ 429981696 := fun k hk => Nat.le_trans (Nat.pow_le_pow_right (by omega) hk) (by decide)
  have main := up W (fun k => impl_span_all.l0 (W : Int) (k : Int) m p (allL m p W k)) (fun k hk => by
    obtain ⟨n1, n2⟩ := allL_len m2 m12 hM.tab k (by omega)
    have hb := big k (by omega)
    by_cases hn : row p (k : Int) = []
    · have e0 : (row p (k : Int)).length = 0 := by rw [hn]; rfl
      rw [allL_none hn, impl_span_all.l0_eq, wn (j := k) (by omega)]
      ((with_reducible repeat (first | refine go_pos (by first | assumption | omega | rfl | exact B_pos (by omega)) ?_ | refine go_neg (by first | assumption | omega | decide | exact B_not (by omega)) ?_ | refine go_bind (by first | assumption) ?_ | dsimp only)); first | done | (with_reducible rfl) | simp (disch := omega) only [w64] | (show False; done))
    · have hP := hM.tab.prow hk hn
      have pl := hP.len
      obtain ⟨p0, p1, p2, p3⟩ := piv_bd m2 hM.tab hk hn
      have wq : wrapI (Int.tdiv m (rd (row p (k : Int)) (k : Int))) = (((m / rd (row p (k : Int)) (k : Int)).toNat : Nat) : Int) := by
        rw [tdiv_nn (by omega), w64 (by omega) (by omega)]; omega
      rw [allL_some hn]
      obtain ⟨old, ho⟩ : ∃ old, old = allL m p W k := ⟨_, rfl⟩
      obtain ⟨rw_, hrw⟩ : ∃ rw_, rw_ = row p (k : Int) := ⟨_, rfl⟩
      obtain ⟨cnt, hcnt⟩ : ∃ cnt, cnt = (m / rd (row p (k : Int)) (k : Int)).toNat := ⟨_, rfl⟩
      rw [← hcnt] at wq
      have hcl : cnt ≤ 12 := by omega
      have n1' : old.length ≤ 12 ^ k := by rw [ho]; exact n1
      have outer := up old.length (fun j => impl_span_all.l1 (k : Int) rw_ (W : Int) (k : Int) old (old.length : Int) (j : Int) m p ((old.take j).flatMap (muls m rw_ k))) (fun j hj => by
        have hx : row old (j : Int) = old[j] := row_get hj
        have hmem : old[j] ∈ allL m p W k := by rw [← ho]; exact List.getElem_mem hj
        obtain ⟨x1, x2, x3⟩ := allL_in m2 hM k (by omega) old[j] hmem
        have ml : ((old.take j).flatMap (muls m rw_ k)).length = j * cnt := by
          rw [fm_len (muls_len m rw_ k), List.length_take, Nat.min_eq_left (by omega), hrw, hcnt]
        have mb : j * cnt ≤ 429981696 * 12 := Nat.mul_le_mul (by rw [← ho] at n1; omega) hcl
        have inner := up cnt (fun c => impl_span_all.l2 (k : Int) rw_ old[j] (W : Int) (k : Int) old (old.length : Int) (j : Int) (cnt : Int) (c : Int) m p ((old.take j).flatMap (muls m rw_ k) ++ (List.range c).map fun c : Nat => mix m 1 old[j] (c : Int) rw_)) (fun c hc => by
          have hcb := combined m2 m12 (p := p) (x := 1) (y := (c : Int)) (a := old[j]) (b := rw_) x2 (hrw ▸ hP.ent) (by rw [hrw]; omega) (by omega) (by omega) (by omega) (by omega) (by omega)
          have cl : ((old.take j).flatMap (muls m rw_ k) ++ (List.range c).map fun c : Nat => mix m 1 old[j] (c : Int) rw_).length = j * cnt + c := by
            rw [List.length_append, ml, List.length_map, List.length_range]
          rw [List.range_succ, List.map_append, List.map_singleton, ← List.append_assoc, impl_span_all.l2_eq, wn (j := c) (by omega), hcb, Option.bind_some, cl, l2]
          ((with_reducible repeat (first | refine go_pos (by first | assumption | omega | rfl | exact B_pos (by omega)) ?_ | refine go_neg (by first | assumption | omega | decide | exact B_not (by omega)) ?_ | refine go_bind (by first | assumption) ?_ | dsimp only)); first | done | (with_reducible rfl) | simp (disch := omega) only [w64] | (show False; done)))
        have e1 : (old.take (j + 1)).flatMap (muls m rw_ k) = (old.take j).flatMap (muls m rw_ k) ++ (List.range cnt).map fun c : Nat => mix m 1 old[j] (c : Int) rw_ := by
          rw [List.take_succ_eq_append_getElem hj, List.flatMap_append, List.flatMap_singleton, hcnt, ← hrw]
          rfl
        simp only [Int.natCast_zero, List.range_zero, List.map_nil, List.append_nil] at inner
        have hrl : rw_.length = W := by rw [hrw]; exact pl
        have wq' : wrapI (Int.tdiv m (rd rw_ (k : Int))) = (cnt : Int) := by rw [hrw]; exact wq
        have hr0 : ¬ rd rw_ (k : Int) = 0 := by rw [hrw]; omega
        rw [e1, impl_span_all.l1_eq, hx, wq', inner, impl_span_all.l2_eq, wn (j := j) (by omega)]
        ((with_reducible repeat (first | refine go_pos (by first | assumption | omega | rfl | exact B_pos (by omega)) ?_ | refine go_neg (by first | assumption | omega | decide | exact B_not (by omega)) ?_ | refine go_bind (by first | assumption) ?_ | dsimp only)); first | done | (with_reducible rfl) | simp (disch := omega) only [w64] | (show False; done)))
      simp only [Int.natCast_zero, List.take_zero, List.flatMap_nil, List.take_length] at outer
      rw [← ho, ← hrw, impl_span_all.l0_eq, ← hrw]
      have hrl : rw_.length = W := by rw [hrw]; exact pl
      have fin : impl_span_all.l1 (k : Int) rw_ (W : Int) (k : Int) old (old.length : Int) (old.length : Int) m p (old.flatMap (muls m rw_ k)) = impl_span_all.l0 (W : Int) ((k + 1 : Nat) : Int) m p (old.flatMap (muls m rw_ k)) := by
        rw [impl_span_all.l1_eq, if_neg (by omega), wn (j := k) (by omega)]
      (with_reducible repeat (first | refine go_pos (by first | assumption | omega | rfl | exact B_pos (by omega)) ?_ | refine go_neg (by first | assumption | omega | decide | exact B_not (by omega)) ?_ | refine go_bind (by first | assumption) ?_ | dsimp only))
      rw [outer, fin])
  rw [impl_span_all.f_eq, if_pos rfl, if_pos (by omega), if_pos (by omega)]
  simp only [Int.natCast_zero] at main
  have e0 : ([List.replicate ((p.length : Int)).toNat (0 : Int)] : List (List Int)) = allL m p W 0 := by rw [hl, Int.toNat_natCast]; rfl
  rw [e0, hl, main, impl_span_all.l0_eq, if_neg (by omega)]
theorem spanAll {m : Int} (m2 : 2 ≤ m) (m12 : m ≤ 12) {W : Nat} (hW : W ≤ 8) {p : List (List Int)} {M : Vc → Prop} (hM : Lead m W p M) :
    ∃ S, impl_span_all.f m p = some (S, m, p) ∧ S.Pairwise (fun r s => Ll W r s) ∧ (∀ r, r ∈ S ↔ r.length = W ∧ AllIn m r ∧ M (V r)) ∧ S.length ≤ 12 ^ W := by
  obtain ⟨n1, n2⟩ := allL_len m2 m12 hM.tab W (Nat.le_refl _)
  have hb : (12 : Nat) ^ W ≤ 429981696 := Nat.le_trans (Nat.pow_le_pow_right (by omega) hW) (by decide)
  have hin := allL_in m2 hM W (Nat.le_refl _)
  obtain ⟨S, s1, s2, s3⟩ := sort_good (f := _root_.Go.Proofs.Ytjknpaplgclflaa.R.slices_SortFunc_int64.f) (xs := allL m p W W) (W := W) (fun r hr => (hin r hr).1) (C := fun z0 z1 => (slices_Compare_int64.f z0 z1).map fun z => z) (fun x y hx hy => by
    obtain ⟨c, c1, c2, _⟩ := Compare_ hx hy (by omega)
    exact ⟨c, by show Option.map _ (slices_Compare_int64.f x y) = _; rw [c1]; rfl, c2⟩) (fun H L c' hs ho hl hH => sortAll ho (by omega) hH)
  have e1 : slices_SortFunc_int64.f (allL m p W W) (fun z0 z1 => (slices_Compare_int64.f z0 z1).map fun z => z) = some S := s1
  have hW' : ∀ r ∈ S, r.length = W := fun r hr => (hin r (s3.mem_iff.1 hr)).1
  have hdif : S.Pairwise fun r s => ∃ i : Nat, i < W ∧ rd r (i : Int) ≠ rd s (i : Int) :=
    (s3.pairwise_iff (fun {r s} ⟨i, hi, h⟩ => ⟨i, hi, fun e => h e.symm⟩)).2 (allL_dif m2 hM W (Nat.le_refl _))
  refine ⟨S, ?_, ?_, fun r => ?_, by rw [s3.length_eq]; exact n1⟩
  · rw [spanL m2 m12 hW hM, e1]; rfl
  · refine (s2.and hdif).imp fun {r s} ⟨h, i, hi, hne⟩ => ?_
    rcases Ll.tri W r s with q | q | q
    · exact q
    · exact absurd (q i hi) hne
    · exact absurd q h
  · rw [s3.mem_iff]
    refine ⟨hin r, fun ⟨h1, h2, h3⟩ => ?_⟩
    obtain ⟨y, hy, he⟩ := allL_has m2 hM h1 h2 h3 W (Nat.le_refl _)
    rwa [eq_of_all (W := W) h1 (hin y hy).1 fun i hi => (he i hi).symm]
end Go.Proofs.Ytjknpaplgclflaa.V
set_option linter.unusedVariables false
set_option linter.unusedSimpArgs false
set_option maxHeartbeats 4000000
set_option maxRecDepth 20000
namespace Go.Proofs.Ytjknpaplgclflaa.V
open Go Go.RowKit Go.Proofs.Ytjknpaplgclflaa.D Go.Proofs.Ytjknpaplgclflaa.P
structure ExC (g : List (List Int)) (m : Int) (u list r : List Int) : Prop where
  len : r.length = g.length
  ent : AllIn m r
  con : Crs g m u r
  pre : r.take list.length = list
theorem crs_w {g : List (List Int)} (hg : Grp g) {m : Int} {u r : List Int} (hm : Mdl g m u) (ha : AllIn m r) {x y : Int} (x0 : 0 ≤ x) (x1 : x < r.length) (y0 : 0 ≤ y) (y1 : y < r.length) (hr : r.length ≤ g.length) :
    spec_l01Mod.f (wrapI (rd r x + wrapI (rd u x * rd r y))) m = some ((rd r x + rd u x * rd r y) % m) := by
  have m2 := hm.m2; have m12 := hm.m12
  obtain ⟨a0, a1⟩ := ha x x0 x1
  obtain ⟨b0, b1⟩ := ha y y0 y1
  obtain ⟨c0, c1⟩ := small_prod hm x0 (by omega) b0 b1
  rw [w64 (x := rd u x * rd r y) (by omega) (by omega), w64 (x := rd r x + rd u x * rd r y) (by omega) (by omega)]
  exact ModW (by omega) (by omega) (by omega) (by omega)
theorem Search_test {g : List (List Int)} (hg : Grp g) {m : Int} {u : List Int} (hm : Mdl g m u) (k : Nat) (list0 : List Int) {L : Nat} {c : Int} {r2 : List (List Int)} {r3 : List Int} (ha : AllIn m r3) (hL : r3.length = L + 1) (hl : L + 1 ≤ g.length) :
    spec_l05Search.l1 k list0 (L : Int) c true 0 g m u r2 r3 = ite_ (CrP g m u r3 r3.length) ((spec_l05Search.f k g m u r3).bind fun t92 => if r2.length + t92.length ≤ 5864062014805 then (spec_l05Search.l0 k list0 (L : Int) (wrapI (c + 1)) g m u (r2 ++ t92)) else none) (spec_l05Search.l0 k list0 (L : Int) (wrapI (c + 1)) g m u r2) := by
  have n8 := hg.n8
  have m2 := hm.m2; have m12 := hm.m12
  have hlu := hm.len
  have bad1 : ∀ x : Int, spec_l05Search.l1 k list0 (L : Int) c false x g m u r2 r3 = spec_l05Search.l0 k list0 (L : Int) (wrapI (c + 1)) g m u r2 := fun x => by
    rw [spec_l05Search.l1_eq, if_neg (c := (false = true)) (by decide), if_neg (c := (false = true)) (by decide)]
    split <;> rfl
  have bad2 : ∀ x y : Int, spec_l05Search.l2 k list0 (L : Int) c false x y g m u r2 r3 = spec_l05Search.l0 k list0 (L : Int) (wrapI (c + 1)) g m u r2 := fun x y => by
    rw [spec_l05Search.l2_eq, if_neg (c := (false = true)) (by decide), bad1]
    split <;> rfl
  have outer := scan (L + 1) (fun x => spec_l05Search.l1 k list0 (L : Int) c true x g m u r2 r3) (fun x => ∀ y : Int, 0 ≤ y → y < ((L + 1 : Nat) : Int) → T g x y < ((L + 1 : Nat) : Int) → rd r3 (T g x y) = (rd r3 x + rd u x * rd r3 y) % m) (spec_l05Search.l0 k list0 (L : Int) (wrapI (c + 1)) g m u r2) (fun x x0 x1 _ => by
    have rx := hg.row x x0 (by omega)
    have inner := scanI (L + 1) (fun y => spec_l05Search.l2 k list0 (L : Int) c true x y g m u r2 r3) (fun y => T g x y < ((L + 1 : Nat) : Int) → rd r3 (T g x y) = (rd r3 x + rd u x * rd r3 y) % m) (spec_l05Search.l0 k list0 (L : Int) (wrapI (c + 1)) g m u r2) (spec_l05Search.l1 k list0 (L : Int) c true (x + 1) g m u r2 r3) (fun y y0 y1 _ => by
      obtain ⟨t0, t1⟩ := hg.ent x y x0 (by omega) y0 (by omega)
      have ew := crs_w hg hm ha x0 (by omega) y0 (by omega) (by omega)
      refine ⟨fun h => ?_, fun h => ?_⟩
      · by_cases ht : T g x y < ((L + 1 : Nat) : Int)
        · have h := h ht
          rw [spec_l05Search.l2_eq, w64 (x := y + 1) (by omega) (by omega)]
          (with_reducible repeat (first | refine go_pos (by first | assumption | omega | rfl | exact B_pos (by omega)) ?_ | refine go_neg (by first | assumption | omega | decide | exact B_not (by omega)) ?_ | refine go_bind (by first | assumption) ?_ | dsimp only))
          rw [decide_eq_true h]
        · rw [spec_l05Search.l2_eq, w64 (x := y + 1) (by omega) (by omega)]
          clear ew
          ((with_reducible repeat (first | refine go_pos (by first | assumption | omega | rfl | exact B_pos (by omega)) ?_ | refine go_neg (by first | assumption | omega | decide | exact B_not (by omega)) ?_ | refine go_bind (by first | assumption) ?_ | dsimp only)); first | done | (with_reducible rfl) | simp (disch := omega) only [w64] | (show False; done))
      · have ht : T g x y < ((L + 1 : Nat) : Int) := by
          by_cases q : T g x y < ((L + 1 : Nat) : Int)
          · exact q
          · exact absurd (fun k => absurd k q) h
        have h : ¬ rd r3 (T g x y) = (rd r3 x + rd u x * rd r3 y) % m := fun k => h fun _ => k
        rw [spec_l05Search.l2_eq]
        (with_reducible repeat (first | refine go_pos (by first | assumption | omega | rfl | exact B_pos (by omega)) ?_ | refine go_neg (by first | assumption | omega | decide | exact B_not (by omega)) ?_ | refine go_bind (by first | assumption) ?_ | dsimp only))
        rw [decide_eq_false h, bad2]) (fun _ => by
          rw [spec_l05Search.l2_eq, w64 (x := x + 1) (by omega) (by omega)]
          (with_reducible repeat (first | refine go_pos (by first | assumption | omega | rfl | exact B_pos (by omega)) ?_ | refine go_neg (by first | assumption | omega | decide | exact B_not (by omega)) ?_ | refine go_bind (by first | assumption) ?_ | dsimp only)))
    refine ⟨fun h => ?_, fun h => ?_⟩ <;> rw [spec_l05Search.l1_eq] <;> (with_reducible repeat (first | refine go_pos (by first | assumption | omega | rfl | exact B_pos (by omega)) ?_ | refine go_neg (by first | assumption | omega | decide | exact B_not (by omega)) ?_ | refine go_bind (by first | assumption) ?_ | dsimp only))
    · exact inner.1 h
    · exact inner.2 h)
  rcases outer with ⟨h1, h2⟩ | ⟨j, j0, j1, _, h1, _, h2⟩
  · rw [ite_pos (show CrP g m u r3 r3.length from by rw [hL]; exact h1), h2, spec_l05Search.l1_eq]
    (with_reducible repeat (first | refine go_pos (by first | assumption | omega | rfl | exact B_pos (by omega)) ?_ | refine go_neg (by first | assumption | omega | decide | exact B_not (by omega)) ?_ | refine go_bind (by first | assumption) ?_ | dsimp only))
  · rw [ite_neg (show ¬ CrP g m u r3 r3.length from fun q => h1 (by rw [hL] at q; exact q j j0 j1))]
    exact h2
theorem pow_step {a b : Nat} (h : a = b + 1) : (12 : Nat) ^ a = 12 * 12 ^ b := by rw [h, Nat.pow_succ, Nat.mul_comm]
theorem Search_ {g : List (List Int)} (hg : Grp g) {m : Int} {u : List Int} (hm : Mdl g m u) : ∀ (k : Nat) (list : List Int), AllIn m list → list.length ≤ g.length → g.length < list.length + k → CrP g m u list list.length →
    ∃ A, spec_l05Search.f k g m u list = some A ∧ A.Pairwise (fun r s => Ll g.length r s) ∧ (∀ r, r ∈ A ↔ ExC g m u list r) ∧ A.length ≤ 12 ^ (g.length - list.length) := by
  have n8 := hg.n8
  have m2 := hm.m2; have m12 := hm.m12
  intro k
  induction k with
  | zero => intro list _ hl hk _; omega
  | succ k ih =>
    intro list ha hl hk hC
    rw [spec_l05Search.f_eq, spec_l01N.f_eq, Option.bind_some]
    by_cases hN : (list.length : Int) = (g.length : Int)
    · rw [if_pos hN]
      have hN' : list.length = g.length := by omega
      refine ⟨[list], rfl, List.pairwise_singleton _ _, fun r => ?_, by simp [hN']⟩
      rw [List.mem_singleton]
      constructor
      · rintro rfl
        exact ⟨hN', ha, (crP_crs hg).1 (by rw [← hN']; exact hC), List.take_length⟩
      · intro hr
        have := hr.pre
        rw [List.take_of_length_le (by rw [hr.len]; omega)] at this
        exact this
    rw [if_neg hN]
    have hp12 := pow_step (show g.length - list.length = (g.length - (list.length + 1)) + 1 by omega)
    obtain ⟨P, hP⟩ : ∃ P, P = (12 : Nat) ^ (g.length - (list.length + 1)) := ⟨_, rfl⟩
    have hPb : P ≤ 429981696 := by rw [hP]; exact Nat.le_trans (Nat.pow_le_pow_right (by omega) (show g.length - (list.length + 1) ≤ 8 by omega)) (by decide)
    rw [← hP] at hp12
    have up1 : ∀ r' , ExC g m u list r' → ExC g m u (list ++ [rd r' (list.length : Int)]) r' ∧ 0 ≤ rd r' (list.length : Int) ∧ rd r' (list.length : Int) < m := fun r' hr => by
      have rl := hr.len
      obtain ⟨b0, b1⟩ := hr.ent (list.length : Int) (by omega) (by omega)
      refine ⟨⟨hr.len, hr.ent, hr.con, ?_⟩, b0, b1⟩
      rw [List.length_append, List.length_singleton, take_rd (by omega), hr.pre]
    have down : ∀ c r', ExC g m u (list ++ [c]) r' → ExC g m u list r' ∧ rd r' (list.length : Int) = c := fun c r' hr => by
      have hp := hr.pre
      have rl := hr.len
      rw [List.length_append, List.length_singleton, take_rd (by omega)] at hp
      obtain ⟨h1, h2⟩ := List.append_inj' hp rfl
      exact ⟨⟨hr.len, hr.ent, hr.con, h1⟩, by simpa using h2⟩
    have loop : ∀ (n : Nat) (c : Int) (r2 : List (List Int)), 0 ≤ c → c + n = m → r2.Pairwise (fun r s => Ll g.length r s) → (∀ r, r ∈ r2 ↔ ExC g m u list r ∧ rd r (list.length : Int) < c) → r2.length ≤ c.toNat * P →
        ∃ A, spec_l05Search.l0 k list (list.length : Int) c g m u r2 = some A ∧ A.Pairwise (fun r s => Ll g.length r s) ∧ (∀ r, r ∈ A ↔ ExC g m u list r) ∧ A.length ≤ m.toNat * P := by
      intro n
      induction n with
      | zero =>
        intro c r2 c0 hcm h1 h2 h3
        refine ⟨r2, ?_, h1, fun r => ?_, by rw [show m.toNat = c.toNat by omega]; exact h3⟩
        · rw [spec_l05Search.l0_eq, if_neg (by omega)]
        · rw [h2]
          exact ⟨fun h => h.1, fun h => ⟨h, by have := (up1 r h).2.2; omega⟩⟩
      | succ n ihn =>
        intro c r2 c0 hcm h1 h2 h3
        have hO := Own_ list (by omega)
        have l1 : ([c] : List Int).length = 1 := rfl
        have e1 : (list ++ [c]).length = list.length + 1 := by simp
        have ha' := ha.append (allIn_one c0 (show c < m by omega))
        have ht := Search_test hg hm k list (L := list.length) (c := c) (r2 := r2) ha' e1 (by omega)
        have hcP : c.toNat * P ≤ 12 * 429981696 := Nat.mul_le_mul (by omega) hPb
        have wc : wrapI (c + 1) = c + 1 := w64 (by omega) (by omega)
        rw [wc] at ht
        have ec : (c + 1).toNat = c.toNat + 1 := by omega
        by_cases hq : CrP g m u (list ++ [c]) (list ++ [c]).length
        · obtain ⟨A', a1, a2, a3, a4⟩ := ih (list ++ [c]) ha' (by omega) (by omega) hq
          rw [e1, ← hP] at a4
          rw [ite_pos hq, a1, Option.bind_some, if_pos (by omega)] at ht
          obtain ⟨A, b1, b2, b3, b4⟩ := ihn (c + 1) (r2 ++ A') (by omega) (by omega) (by
            rw [List.pairwise_append]
            refine ⟨h1, a2, fun r hr s hs => ?_⟩
            obtain ⟨r1, r3⟩ := (h2 r).1 hr
            obtain ⟨s1, s3⟩ := down c s ((a3 s).1 hs)
            refine ⟨list.length, by omega, fun i hi => ?_, by omega⟩
            rw [← take_rdi r1.pre (i := (i : Int)) (by omega) (by omega), ← take_rdi s1.pre (i := (i : Int)) (by omega) (by omega)]) (fun r => by
            rw [List.mem_append, h2, a3]
            constructor
            · rintro (⟨h, hc⟩ | h)
              · exact ⟨h, by omega⟩
              · obtain ⟨s1, s2⟩ := down c r h
                exact ⟨s1, by omega⟩
            · rintro ⟨h, hc⟩
              by_cases q : rd r (list.length : Int) = c
              · have := (up1 r h).1
                rw [q] at this
                exact .inr this
              · exact .inl ⟨h, by omega⟩) (by rw [List.length_append, ec, Nat.succ_mul]; omega)
          refine ⟨A, ?_, b2, b3, b4⟩
          rw [spec_l05Search.l0_eq, l1, hO, Option.bind_some, ht, if_pos (by omega), if_pos (by omega)]
          exact b1
        · rw [ite_neg hq] at ht
          obtain ⟨A, b1, b2, b3, b4⟩ := ihn (c + 1) r2 (by omega) (by omega) h1 (fun r => by
            rw [h2]
            constructor
            · rintro ⟨h, hc⟩; exact ⟨h, by omega⟩
            · rintro ⟨h, hc⟩
              refine ⟨h, ?_⟩
              by_cases q : rd r (list.length : Int) = c
              · have h5 := (up1 r h).1
                rw [q] at h5
                refine absurd ?_ hq
                exact ((crP_crs hg).2 h5.con).pre (by omega) hg (Nat.le_refl _) fun i i0 i1 => take_rdi h5.pre i0 i1
              · omega) (by rw [ec, Nat.succ_mul]; omega)
          refine ⟨A, ?_, b2, b3, b4⟩
          rw [spec_l05Search.l0_eq, l1, hO, Option.bind_some, ht, if_pos (by omega), if_pos (by omega)]
          exact b1
    obtain ⟨A, a1, a2, a3, a4⟩ := loop m.toNat 0 [] (by omega) (by omega) List.Pairwise.nil (fun r => ⟨fun h => (by cases h), fun ⟨h, hc⟩ => (by have := (up1 r h).2.1; omega)⟩) (by simp)
    refine ⟨A, a1, a2, a3, ?_⟩
    rw [hp12]
    exact Nat.le_trans a4 (Nat.mul_le_mul_right P (by omega))
theorem crossedMaps_ {g : List (List Int)} (hg : Grp g) {m : Int} {u : List Int} (hm : Mdl g m u) : ∃ A, impl_crossedMaps.f g m u = some A ∧ A.Pairwise (fun r s => Ll g.length r s) ∧ (∀ r, r ∈ A ↔ ExC g m u [] r) ∧ A.length ≤ 429981696 := by
  have n8 := hg.n8; have n1 := hg.n1
  have m2 := hm.m2; have m12 := hm.m12
  obtain ⟨b1, b2⟩ := nA_bd hg (e := 1) (by omega)
  have hN1 : (nB g 1 : Int) = g.length - 1 := by rw [b2]; show ((g.length : Int) - 1) ^ 1 = _; rw [Int.pow_succ, Int.pow_zero]; omega
  obtain ⟨q, q1, q2⟩ := cocycles_ hg hm (n := 1) (by omega)
  obtain ⟨S, s1, s2, s3, s4⟩ := spanAll m2 m12 (show nB g 1 ≤ 8 by omega) q2
  have hb : S.length ≤ 429981696 := Nat.le_trans s4 (Nat.le_trans (Nat.pow_le_pow_right (by omega) (show nB g 1 ≤ 8 by omega)) (by decide))
  refine ⟨S.map (0 :: ·), ?_, ?_, fun r => ?_, by rw [List.length_map]; exact hb⟩
  · have main := up S.length (fun j => impl_crossedMaps.l0 S (S.length : Int) (j : Int) ((S.take j).map (0 :: ·))) (fun j hj => by
      have hx : row S (j : Int) = S[j] := row_get hj
      have hxl : S[j].length = nB g 1 := ((s3 _).1 (List.getElem_mem hj)).1
      have hc := concat2 (a := [0]) (b := S[j]) (by simp) (by omega)
      have l1 : ((S.take j).map (0 :: · : List Int → List Int)).length = j := by rw [List.length_map, List.length_take]; omega
      have l2 : ∀ x : List Int, ([x] : List (List Int)).length = 1 := fun _ => rfl
      rw [List.take_succ_eq_append_getElem hj, List.map_append, List.map_singleton, impl_crossedMaps.l0_eq, hx, hc, Option.bind_some, l1, l2, wn (j := j) (by omega)]
      (with_reducible repeat (first | refine go_pos (by first | assumption | omega | rfl | exact B_pos (by omega)) ?_ | refine go_neg (by first | assumption | omega | decide | exact B_not (by omega)) ?_ | refine go_bind (by first | assumption) ?_ | dsimp only))
      rfl)
    simp only [Int.natCast_zero, List.take_zero, List.map_nil, List.take_length] at main
    have q1' : impl_cocycles.f g m u 1 = some (m, q) := q1
    rw [impl_crossedMaps.f_eq, q1', Option.bind_some, s1, Option.bind_some]
    show impl_crossedMaps.l0 S (S.length : Int) 0 [] = _
    rw [main, impl_crossedMaps.l0_eq, if_neg (by omega)]
  · rw [List.pairwise_map]
    refine s2.imp fun {r s} ⟨j, hj, h1, h2⟩ => ⟨j + 1, by omega, fun i hi => ?_, ?_⟩
    · cases i with
      | zero => rfl
      | succ i => exact h1 i (by omega)
    · exact h2
  · rw [List.mem_map]
    constructor
    · rintro ⟨h, hh, rfl⟩
      obtain ⟨h1, h2, h3⟩ := (s3 h).1 hh
      refine ⟨by rw [List.length_cons]; omega, allIn_of fun z hz => ?_, (coM_crs hg hm h1 h2).1 h3, by simp⟩
      rcases List.mem_cons.1 hz with rfl | hz
      · omega
      · exact h2.mem hz
    · intro hr
      have rl := hr.len
      have h0 := hr.con 0 (by omega) (by omega) 0 (by omega) (by omega)
      rw [hg.one 0 (by omega) (by omega), hm.one hg, Int.one_mul] at h0
      obtain ⟨a0, a1⟩ := hr.ent 0 (by omega) (by omega)
      cases r with
      | nil => simp at rl; omega
      | cons z h =>
        have e : rd (z :: h) 0 = z := rfl
        rw [e] at h0 a0 a1
        have hz : z = 0 := by
          have := Int.emod_emod_of_dvd (z + z) (Int.dvd_refl m)
          have h3 : m ∣ (z + z) - z := Int.dvd_of_emod_eq_zero (Int.emod_eq_emod_iff_emod_sub_eq_zero.1 (by rw [← h0, Int.emod_eq_of_lt a0 a1]))
          rw [show z + z - z = z by omega] at h3
          have := Int.emod_eq_zero_of_dvd h3
          rwa [Int.emod_eq_of_lt a0 a1] at this
        subst hz
        rw [List.length_cons] at rl
        have hin : AllIn m h := allIn_of fun x hx => hr.ent.mem (List.mem_cons_of_mem _ hx)
        exact ⟨h, (s3 h).2 ⟨by omega, hin, (coM_crs hg hm (by omega) hin).2 hr.con⟩, rfl⟩
theorem crossedAll {g : List (List Int)} (hg : Grp g) {m : Int} {u : List Int} (hm : Mdl g m u) : ∃ A, impl_crossedMaps.f g m u = some A ∧ spec_l05Search.f fuel g m u [] = some A ∧ A.Pairwise (fun r s => Ll g.length r s) ∧ (∀ r, r ∈ A ↔ ExC g m u [] r) ∧ A.length ≤ 429981696 := by
  have n8 := hg.n8
  obtain ⟨A, a1, a2, a3, a4⟩ := crossedMaps_ hg hm
  obtain ⟨A', b1, b2, b3, _⟩ := Search_ hg hm fuel [] (allIn_of fun x hx => by cases hx) (by simp) (by rw [fuel_eq]; simp; omega) (fun x x0 x1 => by simp at x1; omega)
  obtain rfl : A = A' := strict_uniq (fun r => (a3 r).trans (b3 r).symm) a2 b2
  exact ⟨A, a1, b1, a2, a3, a4⟩
end Go.Proofs.Ytjknpaplgclflaa.V
set_option linter.unusedVariables false
set_option linter.unusedSimpArgs false
set_option maxHeartbeats 2000000
set_option maxRecDepth 20000
namespace Go.Proofs.Ytjknpaplgclflaa.V
open Go.RowKit Go.Proofs.Ytjknpaplgclflaa.D Go.Proofs.Ytjknpaplgclflaa.P
theorem same_CrossedMaps (g : List (List Int)) (m : Int) (u : List Int) (hl : g.length ≤ maxLen) (hr : ∀ r ∈ g, r.length ≤ maxLen) (hu : u.length ≤ maxLen) :
    ∃ (R : List (List Int)) (c : Int), spec_CrossedMaps.f g m u = some (R, c) ∧ impl_CrossedMaps.f g m u = some (R, c) ∧ R.length ≤ 1000000000 ∧ ∀ r ∈ R, r.length ≤ 1048576 := by
  have hA := moduleCode1 g hl hr m u hu
  have hS := Is_ g
  by_cases h : GM g m u
  · obtain ⟨hg, hm⟩ := h
    have hM := Is02 hg m u hu
    have n8 := hg.n8; have hlu := hm.len
    rw [ite_pos ⟨hg, hm⟩] at hA
    rw [B_pos hm] at hM
    rw [B_pos hg] at hS
    obtain ⟨A, a1, a2, a3, a4, a5⟩ := crossedAll hg hm
    refine ⟨A, 0, ?_, ?_, by omega, fun r hr' => ?_⟩
    · rw [spec_CrossedMaps.f_eq, hS, Option.bind_some, if_pos rfl, hM, Option.bind_some, if_pos rfl, a2]; rfl
    · rw [impl_CrossedMaps.f_eq, hA, Option.bind_some, if_pos rfl, a1]; rfl
    · have := ((a4 r).1 hr').len
      omega
  · rw [ite_neg h] at hA
    refine ⟨[], 1, ?_, ?_, by simp, fun r hr' => by cases hr'⟩
    · by_cases h1 : Grp g
      · have hM := Is02 h1 m u hu
        rw [B_neg fun k => h ⟨h1, k⟩] at hM
        rw [B_pos h1] at hS
        rw [spec_CrossedMaps.f_eq, hS, Option.bind_some, if_pos rfl, hM, Option.bind_some, if_neg (by decide)]
      · rw [B_neg h1] at hS
        rw [spec_CrossedMaps.f_eq, hS, Option.bind_some, if_neg (by decide)]
    · rw [impl_CrossedMaps.f_eq, hA, Option.bind_some, if_neg (by decide)]
end Go.Proofs.Ytjknpaplgclflaa.V
set_option linter.unusedVariables false
set_option linter.unusedSimpArgs false
set_option maxHeartbeats 4000000
set_option maxRecDepth 20000
namespace Go.Proofs.Ytjknpaplgclflaa.Pure
open Go.RowKit Go.Proofs.Ytjknpaplgclflaa.D Go.Proofs.Ytjknpaplgclflaa.P Go.Proofs.Ytjknpaplgclflaa.V
theorem FnExactCrossedMaps_pure : ∀ (g0 : List (List Int)) (m1 : Int) (u1 : List Int), g0.length ≤ maxLen → (∀ r ∈ g0, r.length ≤ maxLen ∧ ∀ x ∈ r, (Lit.int .i64 x).wf = true) → (Lit.int .i64 m1).wf = true → u1.length ≤ maxLen → (∀ x ∈ u1, (Lit.int .i64 x).wf = true) → laws_FnExactCrossedMaps.f g0 m1 u1 = some true := by
  intro g0 m1 u1 hl0 hq0 hw1 hu1 hx1
  have hr0 : ∀ r ∈ g0, r.length ≤ maxLen := fun r h => (hq0 r h).1
  rw [laws_FnExactCrossedMaps.f_eq]
  obtain ⟨t0, e0, z0⟩ := szGroup g0 1048576 hl0 hr0 (by omega) (by omega)
  rcases z0 with z0 | ⟨ta0, tb0, kl0, kr0⟩
  · ((with_reducible repeat (first | refine go_pos (by first | assumption | omega | rfl | exact B_pos (by omega)) ?_ | refine go_neg (by first | assumption | omega | decide | exact B_not (by omega)) ?_ | refine go_bind (by first | assumption) ?_ | dsimp only)); first | done | (with_reducible rfl) | simp (disch := omega) only [w64] | (show False; done))
  obtain ⟨t1, e1, z1⟩ := szModule m1 u1 t0 hu1 (by omega) (by omega)
  rcases z1 with z1 | ⟨ta1, tb1, ku1⟩
  · ((with_reducible repeat (first | refine go_pos (by first | assumption | omega | rfl | exact B_pos (by omega)) ?_ | refine go_neg (by first | assumption | omega | decide | exact B_not (by omega)) ?_ | refine go_bind (by first | assumption) ?_ | dsimp only)); first | done | (with_reducible rfl) | simp (disch := omega) only [w64] | (show False; done))
  obtain ⟨R0, c1, hS, hI, rb0, rc0⟩ := same_CrossedMaps g0 m1 u1 hl0 hr0 hu1
  have eT0 := toGroup g0 kl0 kr0
  have eS0 := same_Group g0 hl0 hr0
  have eN0 := tot_small kl0 kr0
  have eK0 := markGroup g0 (1) (by omega) (by omega) (by omega)
  have eT1 := toModule m1 u1 ku1
  have eS1 := same_Module m1 u1 hu1
  have eK1 := markModule m1 u1 (1 + tot g0) (by omega) (by omega)
  have rS0 := same_Rows R0 (le_maxLen (by omega)) (fun r h => le_maxLen (by have := rc0 r h; omega))
  have rN0 := tot_small9 rb0 rc0
  have rK0 := markSS R0 (1) (by omega) (by omega) (by omega)
  have rH0 := heldSS R0 (1) (by omega) (by omega) (by omega)
  ((with_reducible repeat (first | refine go_pos (by first | assumption | omega | rfl | exact B_pos (by omega)) ?_ | refine go_neg (by first | assumption | omega | decide | exact B_not (by omega)) ?_ | refine go_bind (by first | assumption) ?_ | dsimp only)); first | done | (with_reducible rfl) | simp (disch := omega) only [w64] | (show False; done))
end Go.Proofs.Ytjknpaplgclflaa.Pure
namespace Go.Proofs.Ytjknpaplgclflaa.shut
theorem mayEnter : Try.pinned.checked.prog.mayEnter = true := by kernel_rfl
theorem lifted : (Rows.fnExactPrincipalMapsRow.lifted == Try.pinned.checked.prog.liftsFinal) = true := by kernel_rfl
theorem make : (Try.pinned.checked.prog.make == some Rows.fnExactPrincipalMapsRow.make) = true := by kernel_rfl
end Go.Proofs.Ytjknpaplgclflaa.shut
