/- What the proof of the law CrossedClasses stands on, part 10: words, each Go function's Lean function, and that the Go code comes to its answers; no condition. (Packed by wip/myprint/pack.py out of what the kit's printer wrote, its words among it, partly by our patches of it, and out of texts of this session.) -/
import Derived.Test.YtjknpaplgclflaaRows
import Derived.WalkKit
import Derived.ProofKit
import Derived.KernelRfl
import Derived.Test.YtjknpaplgclflaaKCrossedClasses3
import Derived.Test.YtjknpaplgclflaaKCrossedClasses4
import Derived.Test.YtjknpaplgclflaaKCrossedClasses6
import Derived.Test.YtjknpaplgclflaaKCrossedClasses7
import Derived.Test.YtjknpaplgclflaaKCrossedClasses8
import Derived.Test.YtjknpaplgclflaaKCrossedClasses9
set_option linter.unusedVariables false
set_option linter.unusedSimpArgs false
set_option maxHeartbeats 8000000
set_option maxRecDepth 20000
namespace Go.Proofs.Ytjknpaplgclflaa.V
open Go Go.RowKit Go.Proofs.Ytjknpaplgclflaa.D Go.Proofs.Ytjknpaplgclflaa.P
open Go.Sort (swp insertionSort heapSort partition partitionEqual partialInsertionSort reverseRange SWO PermIn SortedIn)
variable {H : Value → Prop} {lt : Value → Value → Bool} {C : Value → Value → Option Int}
def Res (lt : Value → Value → Bool) (a b : Nat) (d : Array Value) (X : Option (List Value)) : Prop := ∃ d', X = some d'.toList ∧ PermIn a b d d' ∧ SortedIn lt a b d'
theorem Res.tr {a b : Nat} {d d1 : Array Value} {X : Option (List Value)} (h : Res lt a b d1 X) (hp : PermIn a b d d1) : Res lt a b d X := by
 obtain ⟨d', h1, h2, h3⟩ := h
 exact ⟨d', h1, Go.Sort.permIn_trans _ _ _ a b hp h2, h3⟩
theorem res_of {a b : Nat} {d : Array Value} {X Y : Option (List Value)} (h : X = Y) (k : Res lt a b d Y) : Res lt a b d X := by rw [h]; exact k
theorem pdqTail {N n : Nat} (hc : Cm H lt C) (hN : N ≤ 1000000000) {a b : Nat} (hb : b ≤ N)
    (IH : ∀ (a' b' : Nat) (lim : Int) (wb wp : Bool) (d : Array Value), b' - a' < b - a → a' ≤ b' → b' ≤ N → Al H N d → Go.Sort.Below lt a' b' d → Res lt a' b' d (_root_.Go.Proofs.Ytjknpaplgclflaa.R.slices_pdqsortCmpFunc_int64.l0 n (a' : Int) (b' : Int) lim C wb wp d.toList))
    (HF : ∀ (a' b' : Nat) (lim : Int) (d : Array Value), b' - a' < 2 ^ n → b' - a' < b - a → a' ≤ b' → b' ≤ N → Al H N d → Go.Sort.Below lt a' b' d → Res lt a' b' d (_root_.Go.Proofs.Ytjknpaplgclflaa.R.slices_pdqsortCmpFunc_int64.f n d.toList (a' : Int) (b' : Int) lim C))
    (hlen : 12 < b - a) (hfu : b - a < 2 ^ (n + 1)) {lim : Int} {piv : Nat} (p1 : a ≤ piv) (p2 : piv < b) {d3 : Array Value} (hd : Al H N d3) (hB : Go.Sort.Below lt a b d3) :
    (∃ (c : Int) (mid : Nat) (d4 : Array Value), 0 < a ∧ C d3[a - 1]! d3[piv]! = some c ∧ ¬ c < 0 ∧ _root_.Go.Proofs.Ytjknpaplgclflaa.R.slices_partitionEqualCmpFunc_int64.f d3.toList (a : Int) (b : Int) (piv : Int) C = some ((mid : Int), d4.toList) ∧
      ∀ wb wp, Res lt a b d3 (_root_.Go.Proofs.Ytjknpaplgclflaa.R.slices_pdqsortCmpFunc_int64.l0 n (mid : Int) (b : Int) lim C wb wp d4.toList)) ∨
    (∃ (mid : Nat) (ap : Bool) (d4 : Array Value), (a = 0 ∨ (0 < a ∧ ∃ c : Int, C d3[a - 1]! d3[piv]! = some c ∧ c < 0)) ∧ a ≤ mid ∧ mid < b ∧ _root_.Go.Proofs.Ytjknpaplgclflaa.R.slices_partitionCmpFunc_int64.f d3.toList (a : Int) (b : Int) (piv : Int) C = some ((mid : Int), ap, d4.toList) ∧
      ((mid - a < b - mid ∧ ∃ d5 : Array Value, _root_.Go.Proofs.Ytjknpaplgclflaa.R.slices_pdqsortCmpFunc_int64.f n d4.toList (a : Int) (mid : Int) lim C = some d5.toList ∧ ∀ wb wp, Res lt a b d3 (_root_.Go.Proofs.Ytjknpaplgclflaa.R.slices_pdqsortCmpFunc_int64.l0 n ((mid + 1 : Nat) : Int) (b : Int) lim C wb wp d5.toList)) ∨
       (¬ mid - a < b - mid ∧ ∃ d5 : Array Value, _root_.Go.Proofs.Ytjknpaplgclflaa.R.slices_pdqsortCmpFunc_int64.f n d4.toList ((mid + 1 : Nat) : Int) (b : Int) lim C = some d5.toList ∧ ∀ wb wp, Res lt a b d3 (_root_.Go.Proofs.Ytjknpaplgclflaa.R.slices_pdqsortCmpFunc_int64.l0 n (a : Int) (mid : Int) lim C wb wp d5.toList)))) := by
  have hs := hd.sz
  by_cases hq : 0 < a ∧ lt d3[a - 1]! d3[piv]! = false
  · obtain ⟨a0, hnl⟩ := hq
    obtain ⟨c, c1, c2⟩ := hc.cmp _ _ (hd.all (a - 1) (by omega)) (hd.all piv (by omega))
    have hc2 : ¬ c < 0 := fun k => by have := c2.1 k; rw [hnl] at this; cases this
    obtain ⟨mid, d4, hx⟩ : ∃ mid d4, partitionEqual lt d3 a b piv = (mid, d4) := ⟨_, _, rfl⟩
    obtain ⟨k1, k2, k3, k4, k5⟩ := Go.Sort.round_eq hc.swo (Go.Sort.partitionEqual_holds lt) a0 p1 p2 (by omega) hB hnl hx
    have e1 := peF hc hN p1 p2 hb hd
    rw [hx] at e1
    have hk := Go.Sort.partitionEqual_holds lt hc.swo d3 a b piv p1 p2 (by omega)
    have hp : PermIn a b d3 d4 := by
      have hB' : ∀ i, a ≤ i → i < b → lt d3[i]! d3[piv]! = false := fun i h1 h2 => by
        rcases hB with h | h
        · omega
        · exact hc.swo.ntrans _ _ _ (h i h1 h2) hnl
      have := (hk hB').2.2.1
      rw [hx] at this
      exact this
    refine .inl ⟨c, mid, d4, a0, c1, hc2, e1, fun wb wp => ?_⟩
    obtain ⟨d', r1, r2, r3⟩ := IH mid b lim wb wp d4 (by omega) k2 hb (hd.perm hb hp) k4
    obtain ⟨q1, q2⟩ := k5 d' r2 r3
    exact ⟨d', r1, q1, q2⟩
  · have hq' : a = 0 ∨ (0 < a ∧ ∃ c : Int, C d3[a - 1]! d3[piv]! = some c ∧ c < 0) := by
      by_cases a0 : a = 0
      · exact .inl a0
      · obtain ⟨c, c1, c2⟩ := hc.cmp _ _ (hd.all (a - 1) (by omega)) (hd.all piv (by omega))
        refine .inr ⟨by omega, c, c1, c2.2 ?_⟩
        cases h : lt d3[a - 1]! d3[piv]! with
        | true => rfl
        | false => exact absurd ⟨by omega, h⟩ hq
    obtain ⟨mid, ap, d4, hx⟩ : ∃ mid ap d4, partition lt d3 a b piv = (mid, ap, d4) := ⟨_, _, _, rfl⟩
    have rp := Go.Sort.round_part hc.swo (Go.Sort.partition_holds lt) p1 p2 (by omega) hB hx
    have e1 := partF hc hN p1 p2 hb hd
    rw [hx] at e1
    have hp : PermIn a b d3 d4 := by
      have := (Go.Sort.partition_holds lt hc.swo d3 a b piv p1 p2 (by omega)).2.2.1
      rw [hx] at this
      exact this
    have hd4 := hd.perm hb hp
    obtain ⟨k1, k2, k3, k4, k5, k6, k7⟩ := rp
    refine .inr ⟨mid, ap, d4, hq', k1, k2, e1, ?_⟩
    by_cases hl : mid - a < b - mid
    · obtain ⟨d5, f1, f2, f3⟩ := HF a mid lim d4 (by rw [Nat.pow_succ] at hfu; omega) (by omega) k1 (by omega) hd4 k4
      refine .inl ⟨hl, d5, f1, fun wb wp => ?_⟩
      obtain ⟨hB5, k8⟩ := k6 d5 f2 f3
      obtain ⟨d', r1, r2, r3⟩ := IH (mid + 1) b lim wb wp d5 (by omega) (by omega) hb (hd4.perm (by omega) f2) hB5
      exact ⟨d', r1, k8 d' r2 r3⟩
    · obtain ⟨d5, f1, f2, f3⟩ := HF (mid + 1) b lim d4 (by rw [Nat.pow_succ] at hfu; omega) (by omega) (by omega) hb hd4 k5
      refine .inr ⟨hl, d5, f1, fun wb wp => ?_⟩
      obtain ⟨hB5, k8⟩ := k7 d5 f2 f3
      obtain ⟨d', r1, r2, r3⟩ := IH a mid lim wb wp d5 (by omega) k1 (by omega) (hd4.perm hb f2) hB5
      exact ⟨d', r1, k8 d' r2 r3⟩
theorem pdqL {N : Nat} (hc : Cm H lt C) (hN : N ≤ 1000000000) : ∀ (n s a b : Nat) (lim : Int) (wb wp : Bool) (d : Array Value), b - a ≤ s → b - a < 2 ^ (n + 1) → a ≤ b → b ≤ N → Al H N d → Go.Sort.Below lt a b d →
  Res lt a b d (_root_.Go.Proofs.Ytjknpaplgclflaa.R.slices_pdqsortCmpFunc_int64.l0 n (a : Int) (b : Int) lim C wb wp d.toList) := by
 intro n
 induction n with
 | zero =>
  intro s a b lim wb wp d hs hfu hab hb hd hB
  obtain ⟨d', h1, h2, h3⟩ := insS hc hN hab hb hd
  refine ⟨d', ?_, h2, h3⟩
  rw [_root_.Go.Proofs.Ytjknpaplgclflaa.R.slices_pdqsortCmpFunc_int64.l0_eq, wS (a := b) (b := a) (by omega) (by omega), if_pos (by omega), map_id', h1]
  rfl
 | succ m ihm =>
  intro s
  induction s with
  | zero =>
   intro a b lim wb wp d hs hfu hab hb hd hB
   obtain ⟨d', h1, h2, h3⟩ := insS hc hN hab hb hd
   refine ⟨d', ?_, h2, h3⟩
   rw [_root_.Go.Proofs.Ytjknpaplgclflaa.R.slices_pdqsortCmpFunc_int64.l0_eq, wS (a := b) (b := a) (by omega) (by omega), if_pos (by omega), map_id', h1]
   rfl
  | succ s ihs =>
   intro a b lim wb wp d hs hfu hab hb hd hB
   by_cases h12 : b - a ≤ 12
   ·
    obtain ⟨d', h1, h2, h3⟩ := insS hc hN hab hb hd
    refine ⟨d', ?_, h2, h3⟩
    rw [_root_.Go.Proofs.Ytjknpaplgclflaa.R.slices_pdqsortCmpFunc_int64.l0_eq, wS (a := b) (b := a) (by omega) (by omega), if_pos (by omega), map_id', h1]
    rfl
   have hab' : a < b := by omega
   by_cases hlim : lim = 0
   ·
    obtain ⟨d', h1, h2, h3⟩ := heapS hc hN hab' hb hd
    refine ⟨d', ?_, h2, h3⟩
    rw [_root_.Go.Proofs.Ytjknpaplgclflaa.R.slices_pdqsortCmpFunc_int64.l0_eq, wS (a := b) (b := a) (by omega) (by omega), if_neg (by omega), if_pos hlim, map_id', h1]
    rfl
   have IH : ∀ (a' b' : Nat) (lim : Int) (wb wp : Bool) (d : Array Value), b' - a' < b - a → a' ≤ b' → b' ≤ N → Al H N d → Go.Sort.Below lt a' b' d → Res lt a' b' d (_root_.Go.Proofs.Ytjknpaplgclflaa.R.slices_pdqsortCmpFunc_int64.l0 (m + 1) (a' : Int) (b' : Int) lim C wb wp d.toList) := fun a' b' lim wb wp d h1 h2 h3 h4 h5 => ihs a' b' lim wb wp d (by omega) (by omega) h2 h3 h4 h5
   have HF : ∀ (a' b' : Nat) (lim : Int) (d : Array Value), b' - a' < 2 ^ (m + 1) → b' - a' < b - a → a' ≤ b' → b' ≤ N → Al H N d → Go.Sort.Below lt a' b' d → Res lt a' b' d (_root_.Go.Proofs.Ytjknpaplgclflaa.R.slices_pdqsortCmpFunc_int64.f (m + 1) d.toList (a' : Int) (b' : Int) lim C) := fun a' b' lim d h0 h1 h2 h3 h4 h5 => by
    rw [_root_.Go.Proofs.Ytjknpaplgclflaa.R.slices_pdqsortCmpFunc_int64.f_eq]
    exact ihm _ a' b' lim true true d (Nat.le_refl _) h0 h2 h3 h4 h5
   cases wb with
   | true =>
    obtain ⟨x, h, hx, x1, x2⟩ := pivF hc hN hab' hb hd
    by_cases hh : h = 2
    ·
     obtain ⟨d2, v1, v2⟩ := revS (C := C) hN hab' hb hd
     have hd2 := hd.perm hb v2
     have hB2 := hB.perm (by rw [hd.sz]; exact hb) v2
     cases wp with
     | false =>
      have hs3 := hd2.sz
      rcases pdqTail hc hN hb IH HF (by omega) hfu (lim := lim) (piv := (b - 1 - (x - a))) (by omega) (by omega) hd2 hB2 with ⟨c, mid, d4, a0, c1, c2, e1, rec⟩ | ⟨mid, ap, d4, q, m1, m2, e1, r⟩
      ·
       refine res_of (Y := _root_.Go.Proofs.Ytjknpaplgclflaa.R.slices_pdqsortCmpFunc_int64.l0 (m + 1) (mid : Int) (b : Int) lim C true false d4.toList) ?_ ((rec _ _).tr v2)
       rw [_root_.Go.Proofs.Ytjknpaplgclflaa.R.slices_pdqsortCmpFunc_int64.l0_eq, wS (a := b) (b := a) (by omega) (by omega), map_id', if_neg (c := ((b - a : Nat) : Int) ≤ 12) (by omega), if_neg (c := lim = 0) hlim, if_pos (c := (true = true)) rfl, hx, Option.bind_some]
       dsimp only
       simp only [wP (j := b) (by omega) (by omega), wS (a := x) (b := a) (by omega) (by omega), wS (a := b - 1) (b := x - a) (by omega) (by omega), ↓reduceIte]
       (with_reducible repeat (first | refine go_pos (by first | assumption | omega | rfl | exact B_pos (by omega)) ?_ | refine go_neg (by first | assumption | omega | decide | exact B_not (by omega)) ?_ | refine go_bind (by first | assumption) ?_ | dsimp only))
       simp only [wP (j := a) (by omega) (by omega), rdA (d := d2) (i := a - 1) (by omega), rdA (d := d2) (i := (b - 1 - (x - a))) (by omega), Array.length_toList, ↓reduceIte]
       (with_reducible repeat (first | refine go_pos (by first | assumption | omega | rfl | exact B_pos (by omega)) ?_ | refine go_neg (by first | assumption | omega | decide | exact B_not (by omega)) ?_ | refine go_bind (by first | assumption) ?_ | dsimp only))
      ·
       rcases r with ⟨l1, d5, e2, rec⟩ | ⟨l1, d5, e2, rec⟩
       ·
        refine res_of ?_ ((rec (decide (((mid - a : Nat) : Int) ≥ wrapI (((b - a : Nat) : Int).tdiv 8))) (decide (ap = true))).tr v2)
        rw [_root_.Go.Proofs.Ytjknpaplgclflaa.R.slices_pdqsortCmpFunc_int64.l0_eq, wS (a := b) (b := a) (by omega) (by omega), map_id', if_neg (c := ((b - a : Nat) : Int) ≤ 12) (by omega), if_neg (c := lim = 0) hlim, if_pos (c := (true = true)) rfl, hx, Option.bind_some]
        dsimp only
        simp only [wP (j := b) (by omega) (by omega), wS (a := x) (b := a) (by omega) (by omega), wS (a := b - 1) (b := x - a) (by omega) (by omega), ↓reduceIte]
        rcases q with q | ⟨q, c, c1, c2⟩
        ·
         (with_reducible repeat (first | refine go_pos (by first | assumption | omega | rfl | exact B_pos (by omega)) ?_ | refine go_neg (by first | assumption | omega | decide | exact B_not (by omega)) ?_ | refine go_bind (by first | assumption) ?_ | dsimp only))
         simp only [wn (j := mid) (by omega), wS (a := b) (b := mid) (by omega) (by omega), wS (a := mid) (b := a) (by omega) (by omega), ↓reduceIte]
         (with_reducible repeat (first | refine go_pos (by first | assumption | omega | rfl | exact B_pos (by omega)) ?_ | refine go_neg (by first | assumption | omega | decide | exact B_not (by omega)) ?_ | refine go_bind (by first | assumption) ?_ | dsimp only))
        ·
         (with_reducible repeat (first | refine go_pos (by first | assumption | omega | rfl | exact B_pos (by omega)) ?_ | refine go_neg (by first | assumption | omega | decide | exact B_not (by omega)) ?_ | refine go_bind (by first | assumption) ?_ | dsimp only))
         simp only [wP (j := a) (by omega) (by omega), rdA (d := d2) (i := a - 1) (by omega), rdA (d := d2) (i := (b - 1 - (x - a))) (by omega), Array.length_toList, ↓reduceIte]
         (with_reducible repeat (first | refine go_pos (by first | assumption | omega | rfl | exact B_pos (by omega)) ?_ | refine go_neg (by first | assumption | omega | decide | exact B_not (by omega)) ?_ | refine go_bind (by first | assumption) ?_ | dsimp only))
         simp only [wn (j := mid) (by omega), wS (a := b) (b := mid) (by omega) (by omega), wS (a := mid) (b := a) (by omega) (by omega), ↓reduceIte]
         (with_reducible repeat (first | refine go_pos (by first | assumption | omega | rfl | exact B_pos (by omega)) ?_ | refine go_neg (by first | assumption | omega | decide | exact B_not (by omega)) ?_ | refine go_bind (by first | assumption) ?_ | dsimp only))
       ·
        refine res_of ?_ ((rec (decide (((b - mid : Nat) : Int) ≥ wrapI (((b - a : Nat) : Int).tdiv 8))) (decide (ap = true))).tr v2)
        rw [_root_.Go.Proofs.Ytjknpaplgclflaa.R.slices_pdqsortCmpFunc_int64.l0_eq, wS (a := b) (b := a) (by omega) (by omega), map_id', if_neg (c := ((b - a : Nat) : Int) ≤ 12) (by omega), if_neg (c := lim = 0) hlim, if_pos (c := (true = true)) rfl, hx, Option.bind_some]
        dsimp only
        simp only [wP (j := b) (by omega) (by omega), wS (a := x) (b := a) (by omega) (by omega), wS (a := b - 1) (b := x - a) (by omega) (by omega), ↓reduceIte]
        rcases q with q | ⟨q, c, c1, c2⟩
        ·
         (with_reducible repeat (first | refine go_pos (by first | assumption | omega | rfl | exact B_pos (by omega)) ?_ | refine go_neg (by first | assumption | omega | decide | exact B_not (by omega)) ?_ | refine go_bind (by first | assumption) ?_ | dsimp only))
         simp only [wn (j := mid) (by omega), wS (a := b) (b := mid) (by omega) (by omega), wS (a := mid) (b := a) (by omega) (by omega), ↓reduceIte]
         (with_reducible repeat (first | refine go_pos (by first | assumption | omega | rfl | exact B_pos (by omega)) ?_ | refine go_neg (by first | assumption | omega | decide | exact B_not (by omega)) ?_ | refine go_bind (by first | assumption) ?_ | dsimp only))
        ·
         (with_reducible repeat (first | refine go_pos (by first | assumption | omega | rfl | exact B_pos (by omega)) ?_ | refine go_neg (by first | assumption | omega | decide | exact B_not (by omega)) ?_ | refine go_bind (by first | assumption) ?_ | dsimp only))
         simp only [wP (j := a) (by omega) (by omega), rdA (d := d2) (i := a - 1) (by omega), rdA (d := d2) (i := (b - 1 - (x - a))) (by omega), Array.length_toList, ↓reduceIte]
         (with_reducible repeat (first | refine go_pos (by first | assumption | omega | rfl | exact B_pos (by omega)) ?_ | refine go_neg (by first | assumption | omega | decide | exact B_not (by omega)) ?_ | refine go_bind (by first | assumption) ?_ | dsimp only))
         simp only [wn (j := mid) (by omega), wS (a := b) (b := mid) (by omega) (by omega), wS (a := mid) (b := a) (by omega) (by omega), ↓reduceIte]
         (with_reducible repeat (first | refine go_pos (by first | assumption | omega | rfl | exact B_pos (by omega)) ?_ | refine go_neg (by first | assumption | omega | decide | exact B_not (by omega)) ?_ | refine go_bind (by first | assumption) ?_ | dsimp only))
     | true =>
      have hps := Go.Sort.partialInsertionSort_holds (lt := lt) hc.swo d2 a b hab' (by rw [hd2.sz]; exact hb) hB2
      have hpe := psF hc hN hab' hb hd2
      obtain ⟨d3, fl, h3⟩ : ∃ d3 fl, partialInsertionSort lt d2 a b = (d3, fl) := ⟨_, _, rfl⟩
      rw [h3] at hps hpe
      dsimp only at hps hpe
      have hp3 := Go.Sort.permIn_trans _ _ _ a b v2 hps.1
      have hd3 := hd2.perm hb hps.1
      have hB3 := hB2.perm (by rw [hd2.sz]; exact hb) hps.1
      cases fl with
      | true =>
       refine ⟨d3, ?_, hp3, hps.2 rfl⟩
       rw [_root_.Go.Proofs.Ytjknpaplgclflaa.R.slices_pdqsortCmpFunc_int64.l0_eq, wS (a := b) (b := a) (by omega) (by omega), map_id', if_neg (c := ((b - a : Nat) : Int) ≤ 12) (by omega), if_neg (c := lim = 0) hlim, if_pos (c := (true = true)) rfl, hx, Option.bind_some]
       dsimp only
       (with_reducible repeat (first | refine go_pos (by first | assumption | omega | rfl | exact B_pos (by omega)) ?_ | refine go_neg (by first | assumption | omega | decide | exact B_not (by omega)) ?_ | refine go_bind (by first | assumption) ?_ | dsimp only))
      | false =>
       have hs3 := hd3.sz
       rcases pdqTail hc hN hb IH HF (by omega) hfu (lim := lim) (piv := (b - 1 - (x - a))) (by omega) (by omega) hd3 hB3 with ⟨c, mid, d4, a0, c1, c2, e1, rec⟩ | ⟨mid, ap, d4, q, m1, m2, e1, r⟩
       ·
        refine res_of (Y := _root_.Go.Proofs.Ytjknpaplgclflaa.R.slices_pdqsortCmpFunc_int64.l0 (m + 1) (mid : Int) (b : Int) lim C true true d4.toList) ?_ ((rec _ _).tr hp3)
        rw [_root_.Go.Proofs.Ytjknpaplgclflaa.R.slices_pdqsortCmpFunc_int64.l0_eq, wS (a := b) (b := a) (by omega) (by omega), map_id', if_neg (c := ((b - a : Nat) : Int) ≤ 12) (by omega), if_neg (c := lim = 0) hlim, if_pos (c := (true = true)) rfl, hx, Option.bind_some]
        dsimp only
        simp only [wP (j := b) (by omega) (by omega), wS (a := x) (b := a) (by omega) (by omega), wS (a := b - 1) (b := x - a) (by omega) (by omega), ↓reduceIte]
        (with_reducible repeat (first | refine go_pos (by first | assumption | omega | rfl | exact B_pos (by omega)) ?_ | refine go_neg (by first | assumption | omega | decide | exact B_not (by omega)) ?_ | refine go_bind (by first | assumption) ?_ | dsimp only))
        simp only [wP (j := a) (by omega) (by omega), rdA (d := d3) (i := a - 1) (by omega), rdA (d := d3) (i := (b - 1 - (x - a))) (by omega), Array.length_toList, ↓reduceIte]
        (with_reducible repeat (first | refine go_pos (by first | assumption | omega | rfl | exact B_pos (by omega)) ?_ | refine go_neg (by first | assumption | omega | decide | exact B_not (by omega)) ?_ | refine go_bind (by first | assumption) ?_ | dsimp only))
       ·
        rcases r with ⟨l1, d5, e2, rec⟩ | ⟨l1, d5, e2, rec⟩
        ·
         refine res_of ?_ ((rec (decide (((mid - a : Nat) : Int) ≥ wrapI (((b - a : Nat) : Int).tdiv 8))) (decide (ap = true))).tr hp3)
         rw [_root_.Go.Proofs.Ytjknpaplgclflaa.R.slices_pdqsortCmpFunc_int64.l0_eq, wS (a := b) (b := a) (by omega) (by omega), map_id', if_neg (c := ((b - a : Nat) : Int) ≤ 12) (by omega), if_neg (c := lim = 0) hlim, if_pos (c := (true = true)) rfl, hx, Option.bind_some]
         dsimp only
         simp only [wP (j := b) (by omega) (by omega), wS (a := x) (b := a) (by omega) (by omega), wS (a := b - 1) (b := x - a) (by omega) (by omega), ↓reduceIte]
         rcases q with q | ⟨q, c, c1, c2⟩
         ·
          (with_reducible repeat (first | refine go_pos (by first | assumption | omega | rfl | exact B_pos (by omega)) ?_ | refine go_neg (by first | assumption | omega | decide | exact B_not (by omega)) ?_ | refine go_bind (by first | assumption) ?_ | dsimp only))
          simp only [wn (j := mid) (by omega), wS (a := b) (b := mid) (by omega) (by omega), wS (a := mid) (b := a) (by omega) (by omega), ↓reduceIte]
          (with_reducible repeat (first | refine go_pos (by first | assumption | omega | rfl | exact B_pos (by omega)) ?_ | refine go_neg (by first | assumption | omega | decide | exact B_not (by omega)) ?_ | refine go_bind (by first | assumption) ?_ | dsimp only))
         ·
          (with_reducible repeat (first | refine go_pos (by first | assumption | omega | rfl | exact B_pos (by omega)) ?_ | refine go_neg (by first | assumption | omega | decide | exact B_not (by omega)) ?_ | refine go_bind (by first | assumption) ?_ | dsimp only))
          simp only [wP (j := a) (by omega) (by omega), rdA (d := d3) (i := a - 1) (by omega), rdA (d := d3) (i := (b - 1 - (x - a))) (by omega), Array.length_toList, ↓reduceIte]
          (with_reducible repeat (first | refine go_pos (by first | assumption | omega | rfl | exact B_pos (by omega)) ?_ | refine go_neg (by first | assumption | omega | decide | exact B_not (by omega)) ?_ | refine go_bind (by first | assumption) ?_ | dsimp only))
          simp only [wn (j := mid) (by omega), wS (a := b) (b := mid) (by omega) (by omega), wS (a := mid) (b := a) (by omega) (by omega), ↓reduceIte]
          (with_reducible repeat (first | refine go_pos (by first | assumption | omega | rfl | exact B_pos (by omega)) ?_ | refine go_neg (by first | assumption | omega | decide | exact B_not (by omega)) ?_ | refine go_bind (by first | assumption) ?_ | dsimp only))
        ·
         refine res_of ?_ ((rec (decide (((b - mid : Nat) : Int) ≥ wrapI (((b - a : Nat) : Int).tdiv 8))) (decide (ap = true))).tr hp3)
         rw [_root_.Go.Proofs.Ytjknpaplgclflaa.R.slices_pdqsortCmpFunc_int64.l0_eq, wS (a := b) (b := a) (by omega) (by omega), map_id', if_neg (c := ((b - a : Nat) : Int) ≤ 12) (by omega), if_neg (c := lim = 0) hlim, if_pos (c := (true = true)) rfl, hx, Option.bind_some]
         dsimp only
         simp only [wP (j := b) (by omega) (by omega), wS (a := x) (b := a) (by omega) (by omega), wS (a := b - 1) (b := x - a) (by omega) (by omega), ↓reduceIte]
         rcases q with q | ⟨q, c, c1, c2⟩
         ·
          (with_reducible repeat (first | refine go_pos (by first | assumption | omega | rfl | exact B_pos (by omega)) ?_ | refine go_neg (by first | assumption | omega | decide | exact B_not (by omega)) ?_ | refine go_bind (by first | assumption) ?_ | dsimp only))
          simp only [wn (j := mid) (by omega), wS (a := b) (b := mid) (by omega) (by omega), wS (a := mid) (b := a) (by omega) (by omega), ↓reduceIte]
          (with_reducible repeat (first | refine go_pos (by first | assumption | omega | rfl | exact B_pos (by omega)) ?_ | refine go_neg (by first | assumption | omega | decide | exact B_not (by omega)) ?_ | refine go_bind (by first | assumption) ?_ | dsimp only))
         ·
          (with_reducible repeat (first | refine go_pos (by first | assumption | omega | rfl | exact B_pos (by omega)) ?_ | refine go_neg (by first | assumption | omega | decide | exact B_not (by omega)) ?_ | refine go_bind (by first | assumption) ?_ | dsimp only))
          simp only [wP (j := a) (by omega) (by omega), rdA (d := d3) (i := a - 1) (by omega), rdA (d := d3) (i := (b - 1 - (x - a))) (by omega), Array.length_toList, ↓reduceIte]
          (with_reducible repeat (first | refine go_pos (by first | assumption | omega | rfl | exact B_pos (by omega)) ?_ | refine go_neg (by first | assumption | omega | decide | exact B_not (by omega)) ?_ | refine go_bind (by first | assumption) ?_ | dsimp only))
          simp only [wn (j := mid) (by omega), wS (a := b) (b := mid) (by omega) (by omega), wS (a := mid) (b := a) (by omega) (by omega), ↓reduceIte]
          (with_reducible repeat (first | refine go_pos (by first | assumption | omega | rfl | exact B_pos (by omega)) ?_ | refine go_neg (by first | assumption | omega | decide | exact B_not (by omega)) ?_ | refine go_bind (by first | assumption) ?_ | dsimp only))
    ·
     have hp0 := Go.Sort.permIn_refl d a b
     cases wp with
     | false =>
      have hs3 := hd.sz
      rcases pdqTail hc hN hb IH HF (by omega) hfu (lim := lim) (piv := x) x1 x2 hd hB with ⟨c, mid, d4, a0, c1, c2, e1, rec⟩ | ⟨mid, ap, d4, q, m1, m2, e1, r⟩
      ·
       refine res_of (Y := _root_.Go.Proofs.Ytjknpaplgclflaa.R.slices_pdqsortCmpFunc_int64.l0 (m + 1) (mid : Int) (b : Int) lim C true false d4.toList) ?_ ((rec _ _).tr hp0)
       rw [_root_.Go.Proofs.Ytjknpaplgclflaa.R.slices_pdqsortCmpFunc_int64.l0_eq, wS (a := b) (b := a) (by omega) (by omega), map_id', if_neg (c := ((b - a : Nat) : Int) ≤ 12) (by omega), if_neg (c := lim = 0) hlim, if_pos (c := (true = true)) rfl, hx, Option.bind_some]
       dsimp only
       simp only [wP (j := b) (by omega) (by omega), wS (a := x) (b := a) (by omega) (by omega), wS (a := b - 1) (b := x - a) (by omega) (by omega), ↓reduceIte]
       (with_reducible repeat (first | refine go_pos (by first | assumption | omega | rfl | exact B_pos (by omega)) ?_ | refine go_neg (by first | assumption | omega | decide | exact B_not (by omega)) ?_ | refine go_bind (by first | assumption) ?_ | dsimp only))
       simp only [wP (j := a) (by omega) (by omega), rdA (d := d) (i := a - 1) (by omega), rdA (d := d) (i := x) (by omega), Array.length_toList, ↓reduceIte]
       (with_reducible repeat (first | refine go_pos (by first | assumption | omega | rfl | exact B_pos (by omega)) ?_ | refine go_neg (by first | assumption | omega | decide | exact B_not (by omega)) ?_ | refine go_bind (by first | assumption) ?_ | dsimp only))
      ·
       rcases r with ⟨l1, d5, e2, rec⟩ | ⟨l1, d5, e2, rec⟩
       ·
        refine res_of ?_ ((rec (decide (((mid - a : Nat) : Int) ≥ wrapI (((b - a : Nat) : Int).tdiv 8))) (decide (ap = true))).tr hp0)
        rw [_root_.Go.Proofs.Ytjknpaplgclflaa.R.slices_pdqsortCmpFunc_int64.l0_eq, wS (a := b) (b := a) (by omega) (by omega), map_id', if_neg (c := ((b - a : Nat) : Int) ≤ 12) (by omega), if_neg (c := lim = 0) hlim, if_pos (c := (true = true)) rfl, hx, Option.bind_some]
        dsimp only
        simp only [wP (j := b) (by omega) (by omega), wS (a := x) (b := a) (by omega) (by omega), wS (a := b - 1) (b := x - a) (by omega) (by omega), ↓reduceIte]
        rcases q with q | ⟨q, c, c1, c2⟩
        ·
         (with_reducible repeat (first | refine go_pos (by first | assumption | omega | rfl | exact B_pos (by omega)) ?_ | refine go_neg (by first | assumption | omega | decide | exact B_not (by omega)) ?_ | refine go_bind (by first | assumption) ?_ | dsimp only))
         simp only [wn (j := mid) (by omega), wS (a := b) (b := mid) (by omega) (by omega), wS (a := mid) (b := a) (by omega) (by omega), ↓reduceIte]
         (with_reducible repeat (first | refine go_pos (by first | assumption | omega | rfl | exact B_pos (by omega)) ?_ | refine go_neg (by first | assumption | omega | decide | exact B_not (by omega)) ?_ | refine go_bind (by first | assumption) ?_ | dsimp only))
        ·
         (with_reducible repeat (first | refine go_pos (by first | assumption | omega | rfl | exact B_pos (by omega)) ?_ | refine go_neg (by first | assumption | omega | decide | exact B_not (by omega)) ?_ | refine go_bind (by first | assumption) ?_ | dsimp only))
         simp only [wP (j := a) (by omega) (by omega), rdA (d := d) (i := a - 1) (by omega), rdA (d := d) (i := x) (by omega), Array.length_toList, ↓reduceIte]
         (with_reducible repeat (first | refine go_pos (by first | assumption | omega | rfl | exact B_pos (by omega)) ?_ | refine go_neg (by first | assumption | omega | decide | exact B_not (by omega)) ?_ | refine go_bind (by first | assumption) ?_ | dsimp only))
         simp only [wn (j := mid) (by omega), wS (a := b) (b := mid) (by omega) (by omega), wS (a := mid) (b := a) (by omega) (by omega), ↓reduceIte]
         (with_reducible repeat (first | refine go_pos (by first | assumption | omega | rfl | exact B_pos (by omega)) ?_ | refine go_neg (by first | assumption | omega | decide | exact B_not (by omega)) ?_ | refine go_bind (by first | assumption) ?_ | dsimp only))
       ·
        refine res_of ?_ ((rec (decide (((b - mid : Nat) : Int) ≥ wrapI (((b - a : Nat) : Int).tdiv 8))) (decide (ap = true))).tr hp0)
        rw [_root_.Go.Proofs.Ytjknpaplgclflaa.R.slices_pdqsortCmpFunc_int64.l0_eq, wS (a := b) (b := a) (by omega) (by omega), map_id', if_neg (c := ((b - a : Nat) : Int) ≤ 12) (by omega), if_neg (c := lim = 0) hlim, if_pos (c := (true = true)) rfl, hx, Option.bind_some]
        dsimp only
        simp only [wP (j := b) (by omega) (by omega), wS (a := x) (b := a) (by omega) (by omega), wS (a := b - 1) (b := x - a) (by omega) (by omega), ↓reduceIte]
        rcases q with q | ⟨q, c, c1, c2⟩
        ·
         (with_reducible repeat (first | refine go_pos (by first | assumption | omega | rfl | exact B_pos (by omega)) ?_ | refine go_neg (by first | assumption | omega | decide | exact B_not (by omega)) ?_ | refine go_bind (by first | assumption) ?_ | dsimp only))
         simp only [wn (j := mid) (by omega), wS (a := b) (b := mid) (by omega) (by omega), wS (a := mid) (b := a) (by omega) (by omega), ↓reduceIte]
         (with_reducible repeat (first | refine go_pos (by first | assumption | omega | rfl | exact B_pos (by omega)) ?_ | refine go_neg (by first | assumption | omega | decide | exact B_not (by omega)) ?_ | refine go_bind (by first | assumption) ?_ | dsimp only))
        ·
         (with_reducible repeat (first | refine go_pos (by first | assumption | omega | rfl | exact B_pos (by omega)) ?_ | refine go_neg (by first | assumption | omega | decide | exact B_not (by omega)) ?_ | refine go_bind (by first | assumption) ?_ | dsimp only))
         simp only [wP (j := a) (by omega) (by omega), rdA (d := d) (i := a - 1) (by omega), rdA (d := d) (i := x) (by omega), Array.length_toList, ↓reduceIte]
         (with_reducible repeat (first | refine go_pos (by first | assumption | omega | rfl | exact B_pos (by omega)) ?_ | refine go_neg (by first | assumption | omega | decide | exact B_not (by omega)) ?_ | refine go_bind (by first | assumption) ?_ | dsimp only))
         simp only [wn (j := mid) (by omega), wS (a := b) (b := mid) (by omega) (by omega), wS (a := mid) (b := a) (by omega) (by omega), ↓reduceIte]
         (with_reducible repeat (first | refine go_pos (by first | assumption | omega | rfl | exact B_pos (by omega)) ?_ | refine go_neg (by first | assumption | omega | decide | exact B_not (by omega)) ?_ | refine go_bind (by first | assumption) ?_ | dsimp only))
     | true =>
      by_cases hh1 : h = 1
      ·
       have hps := Go.Sort.partialInsertionSort_holds (lt := lt) hc.swo d a b hab' (by rw [hd.sz]; exact hb) hB
       have hpe := psF hc hN hab' hb hd
       obtain ⟨d3, fl, h3⟩ : ∃ d3 fl, partialInsertionSort lt d a b = (d3, fl) := ⟨_, _, rfl⟩
       rw [h3] at hps hpe
       dsimp only at hps hpe
       have hp3 := hps.1
       have hd3 := hd.perm hb hps.1
       have hB3 := hB.perm (by rw [hd.sz]; exact hb) hps.1
       cases fl with
       | true =>
        refine ⟨d3, ?_, hp3, hps.2 rfl⟩
        rw [_root_.Go.Proofs.Ytjknpaplgclflaa.R.slices_pdqsortCmpFunc_int64.l0_eq, wS (a := b) (b := a) (by omega) (by omega), map_id', if_neg (c := ((b - a : Nat) : Int) ≤ 12) (by omega), if_neg (c := lim = 0) hlim, if_pos (c := (true = true)) rfl, hx, Option.bind_some]
        dsimp only
        (with_reducible repeat (first | refine go_pos (by first | assumption | omega | rfl | exact B_pos (by omega)) ?_ | refine go_neg (by first | assumption | omega | decide | exact B_not (by omega)) ?_ | refine go_bind (by first | assumption) ?_ | dsimp only))
       | false =>
        have hs3 := hd3.sz
        rcases pdqTail hc hN hb IH HF (by omega) hfu (lim := lim) (piv := x) x1 x2 hd3 hB3 with ⟨c, mid, d4, a0, c1, c2, e1, rec⟩ | ⟨mid, ap, d4, q, m1, m2, e1, r⟩
        ·
         refine res_of (Y := _root_.Go.Proofs.Ytjknpaplgclflaa.R.slices_pdqsortCmpFunc_int64.l0 (m + 1) (mid : Int) (b : Int) lim C true true d4.toList) ?_ ((rec _ _).tr hp3)
         rw [_root_.Go.Proofs.Ytjknpaplgclflaa.R.slices_pdqsortCmpFunc_int64.l0_eq, wS (a := b) (b := a) (by omega) (by omega), map_id', if_neg (c := ((b - a : Nat) : Int) ≤ 12) (by omega), if_neg (c := lim = 0) hlim, if_pos (c := (true = true)) rfl, hx, Option.bind_some]
         dsimp only
         simp only [wP (j := b) (by omega) (by omega), wS (a := x) (b := a) (by omega) (by omega), wS (a := b - 1) (b := x - a) (by omega) (by omega), ↓reduceIte]
         (with_reducible repeat (first | refine go_pos (by first | assumption | omega | rfl | exact B_pos (by omega)) ?_ | refine go_neg (by first | assumption | omega | decide | exact B_not (by omega)) ?_ | refine go_bind (by first | assumption) ?_ | dsimp only))
         simp only [wP (j := a) (by omega) (by omega), rdA (d := d3) (i := a - 1) (by omega), rdA (d := d3) (i := x) (by omega), Array.length_toList, ↓reduceIte]
         (with_reducible repeat (first | refine go_pos (by first | assumption | omega | rfl | exact B_pos (by omega)) ?_ | refine go_neg (by first | assumption | omega | decide | exact B_not (by omega)) ?_ | refine go_bind (by first | assumption) ?_ | dsimp only))
        ·
         rcases r with ⟨l1, d5, e2, rec⟩ | ⟨l1, d5, e2, rec⟩
         ·
          refine res_of ?_ ((rec (decide (((mid - a : Nat) : Int) ≥ wrapI (((b - a : Nat) : Int).tdiv 8))) (decide (ap = true))).tr hp3)
          rw [_root_.Go.Proofs.Ytjknpaplgclflaa.R.slices_pdqsortCmpFunc_int64.l0_eq, wS (a := b) (b := a) (by omega) (by omega), map_id', if_neg (c := ((b - a : Nat) : Int) ≤ 12) (by omega), if_neg (c := lim = 0) hlim, if_pos (c := (true = true)) rfl, hx, Option.bind_some]
          dsimp only
          simp only [wP (j := b) (by omega) (by omega), wS (a := x) (b := a) (by omega) (by omega), wS (a := b - 1) (b := x - a) (by omega) (by omega), ↓reduceIte]
          rcases q with q | ⟨q, c, c1, c2⟩
          ·
           (with_reducible repeat (first | refine go_pos (by first | assumption | omega | rfl | exact B_pos (by omega)) ?_ | refine go_neg (by first | assumption | omega | decide | exact B_not (by omega)) ?_ | refine go_bind (by first | assumption) ?_ | dsimp only))
           simp only [wn (j := mid) (by omega), wS (a := b) (b := mid) (by omega) (by omega), wS (a := mid) (b := a) (by omega) (by omega), ↓reduceIte]
           (with_reducible repeat (first | refine go_pos (by first | assumption | omega | rfl | exact B_pos (by omega)) ?_ | refine go_neg (by first | assumption | omega | decide | exact B_not (by omega)) ?_ | refine go_bind (by first | assumption) ?_ | dsimp only))
          ·
           (with_reducible repeat (first | refine go_pos (by first | assumption | omega | rfl | exact B_pos (by omega)) ?_ | refine go_neg (by first | assumption | omega | decide | exact B_not (by omega)) ?_ | refine go_bind (by first | assumption) ?_ | dsimp only))
           simp only [wP (j := a) (by omega) (by omega), rdA (d := d3) (i := a - 1) (by omega), rdA (d := d3) (i := x) (by omega), Array.length_toList, ↓reduceIte]
           (with_reducible repeat (first | refine go_pos (by first | assumption | omega | rfl | exact B_pos (by omega)) ?_ | refine go_neg (by first | assumption | omega | decide | exact B_not (by omega)) ?_ | refine go_bind (by first | assumption) ?_ | dsimp only))
           simp only [wn (j := mid) (by omega), wS (a := b) (b := mid) (by omega) (by omega), wS (a := mid) (b := a) (by omega) (by omega), ↓reduceIte]
           (with_reducible repeat (first | refine go_pos (by first | assumption | omega | rfl | exact B_pos (by omega)) ?_ | refine go_neg (by first | assumption | omega | decide | exact B_not (by omega)) ?_ | refine go_bind (by first | assumption) ?_ | dsimp only))
         ·
          refine res_of ?_ ((rec (decide (((b - mid : Nat) : Int) ≥ wrapI (((b - a : Nat) : Int).tdiv 8))) (decide (ap = true))).tr hp3)
          rw [_root_.Go.Proofs.Ytjknpaplgclflaa.R.slices_pdqsortCmpFunc_int64.l0_eq, wS (a := b) (b := a) (by omega) (by omega), map_id', if_neg (c := ((b - a : Nat) : Int) ≤ 12) (by omega), if_neg (c := lim = 0) hlim, if_pos (c := (true = true)) rfl, hx, Option.bind_some]
          dsimp only
          simp only [wP (j := b) (by omega) (by omega), wS (a := x) (b := a) (by omega) (by omega), wS (a := b - 1) (b := x - a) (by omega) (by omega), ↓reduceIte]
          rcases q with q | ⟨q, c, c1, c2⟩
          ·
           (with_reducible repeat (first | refine go_pos (by first | assumption | omega | rfl | exact B_pos (by omega)) ?_ | refine go_neg (by first | assumption | omega | decide | exact B_not (by omega)) ?_ | refine go_bind (by first | assumption) ?_ | dsimp only))
           simp only [wn (j := mid) (by omega), wS (a := b) (b := mid) (by omega) (by omega), wS (a := mid) (b := a) (by omega) (by omega), ↓reduceIte]
           (with_reducible repeat (first | refine go_pos (by first | assumption | omega | rfl | exact B_pos (by omega)) ?_ | refine go_neg (by first | assumption | omega | decide | exact B_not (by omega)) ?_ | refine go_bind (by first | assumption) ?_ | dsimp only))
          ·
           (with_reducible repeat (first | refine go_pos (by first | assumption | omega | rfl | exact B_pos (by omega)) ?_ | refine go_neg (by first | assumption | omega | decide | exact B_not (by omega)) ?_ | refine go_bind (by first | assumption) ?_ | dsimp only))
           simp only [wP (j := a) (by omega) (by omega), rdA (d := d3) (i := a - 1) (by omega), rdA (d := d3) (i := x) (by omega), Array.length_toList, ↓reduceIte]
           (with_reducible repeat (first | refine go_pos (by first | assumption | omega | rfl | exact B_pos (by omega)) ?_ | refine go_neg (by first | assumption | omega | decide | exact B_not (by omega)) ?_ | refine go_bind (by first | assumption) ?_ | dsimp only))
           simp only [wn (j := mid) (by omega), wS (a := b) (b := mid) (by omega) (by omega), wS (a := mid) (b := a) (by omega) (by omega), ↓reduceIte]
           (with_reducible repeat (first | refine go_pos (by first | assumption | omega | rfl | exact B_pos (by omega)) ?_ | refine go_neg (by first | assumption | omega | decide | exact B_not (by omega)) ?_ | refine go_bind (by first | assumption) ?_ | dsimp only))
      ·
       have hs3 := hd.sz
       rcases pdqTail hc hN hb IH HF (by omega) hfu (lim := lim) (piv := x) x1 x2 hd hB with ⟨c, mid, d4, a0, c1, c2, e1, rec⟩ | ⟨mid, ap, d4, q, m1, m2, e1, r⟩
       ·
        refine res_of (Y := _root_.Go.Proofs.Ytjknpaplgclflaa.R.slices_pdqsortCmpFunc_int64.l0 (m + 1) (mid : Int) (b : Int) lim C true true d4.toList) ?_ ((rec _ _).tr hp0)
        rw [_root_.Go.Proofs.Ytjknpaplgclflaa.R.slices_pdqsortCmpFunc_int64.l0_eq, wS (a := b) (b := a) (by omega) (by omega), map_id', if_neg (c := ((b - a : Nat) : Int) ≤ 12) (by omega), if_neg (c := lim = 0) hlim, if_pos (c := (true = true)) rfl, hx, Option.bind_some]
        dsimp only
        simp only [wP (j := b) (by omega) (by omega), wS (a := x) (b := a) (by omega) (by omega), wS (a := b - 1) (b := x - a) (by omega) (by omega), ↓reduceIte]
        (with_reducible repeat (first | refine go_pos (by first | assumption | omega | rfl | exact B_pos (by omega)) ?_ | refine go_neg (by first | assumption | omega | decide | exact B_not (by omega)) ?_ | refine go_bind (by first | assumption) ?_ | dsimp only))
        simp only [wP (j := a) (by omega) (by omega), rdA (d := d) (i := a - 1) (by omega), rdA (d := d) (i := x) (by omega), Array.length_toList, ↓reduceIte]
        (with_reducible repeat (first | refine go_pos (by first | assumption | omega | rfl | exact B_pos (by omega)) ?_ | refine go_neg (by first | assumption | omega | decide | exact B_not (by omega)) ?_ | refine go_bind (by first | assumption) ?_ | dsimp only))
       ·
        rcases r with ⟨l1, d5, e2, rec⟩ | ⟨l1, d5, e2, rec⟩
        ·
         refine res_of ?_ ((rec (decide (((mid - a : Nat) : Int) ≥ wrapI (((b - a : Nat) : Int).tdiv 8))) (decide (ap = true))).tr hp0)
         rw [_root_.Go.Proofs.Ytjknpaplgclflaa.R.slices_pdqsortCmpFunc_int64.l0_eq, wS (a := b) (b := a) (by omega) (by omega), map_id', if_neg (c := ((b - a : Nat) : Int) ≤ 12) (by omega), if_neg (c := lim = 0) hlim, if_pos (c := (true = true)) rfl, hx, Option.bind_some]
         dsimp only
         simp only [wP (j := b) (by omega) (by omega), wS (a := x) (b := a) (by omega) (by omega), wS (a := b - 1) (b := x - a) (by omega) (by omega), ↓reduceIte]
         rcases q with q | ⟨q, c, c1, c2⟩
         ·
          (with_reducible repeat (first | refine go_pos (by first | assumption | omega | rfl | exact B_pos (by omega)) ?_ | refine go_neg (by first | assumption | omega | decide | exact B_not (by omega)) ?_ | refine go_bind (by first | assumption) ?_ | dsimp only))
          simp only [wn (j := mid) (by omega), wS (a := b) (b := mid) (by omega) (by omega), wS (a := mid) (b := a) (by omega) (by omega), ↓reduceIte]
          (with_reducible repeat (first | refine go_pos (by first | assumption | omega | rfl | exact B_pos (by omega)) ?_ | refine go_neg (by first | assumption | omega | decide | exact B_not (by omega)) ?_ | refine go_bind (by first | assumption) ?_ | dsimp only))
         ·
          (with_reducible repeat (first | refine go_pos (by first | assumption | omega | rfl | exact B_pos (by omega)) ?_ | refine go_neg (by first | assumption | omega | decide | exact B_not (by omega)) ?_ | refine go_bind (by first | assumption) ?_ | dsimp only))
          simp only [wP (j := a) (by omega) (by omega), rdA (d := d) (i := a - 1) (by omega), rdA (d := d) (i := x) (by omega), Array.length_toList, ↓reduceIte]
          (with_reducible repeat (first | refine go_pos (by first | assumption | omega | rfl | exact B_pos (by omega)) ?_ | refine go_neg (by first | assumption | omega | decide | exact B_not (by omega)) ?_ | refine go_bind (by first | assumption) ?_ | dsimp only))
          simp only [wn (j := mid) (by omega), wS (a := b) (b := mid) (by omega) (by omega), wS (a := mid) (b := a) (by omega) (by omega), ↓reduceIte]
          (with_reducible repeat (first | refine go_pos (by first | assumption | omega | rfl | exact B_pos (by omega)) ?_ | refine go_neg (by first | assumption | omega | decide | exact B_not (by omega)) ?_ | refine go_bind (by first | assumption) ?_ | dsimp only))
        ·
         refine res_of ?_ ((rec (decide (((b - mid : Nat) : Int) ≥ wrapI (((b - a : Nat) : Int).tdiv 8))) (decide (ap = true))).tr hp0)
         rw [_root_.Go.Proofs.Ytjknpaplgclflaa.R.slices_pdqsortCmpFunc_int64.l0_eq, wS (a := b) (b := a) (by omega) (by omega), map_id', if_neg (c := ((b - a : Nat) : Int) ≤ 12) (by omega), if_neg (c := lim = 0) hlim, if_pos (c := (true = true)) rfl, hx, Option.bind_some]
         dsimp only
         simp only [wP (j := b) (by omega) (by omega), wS (a := x) (b := a) (by omega) (by omega), wS (a := b - 1) (b := x - a) (by omega) (by omega), ↓reduceIte]
         rcases q with q | ⟨q, c, c1, c2⟩
         ·
          (with_reducible repeat (first | refine go_pos (by first | assumption | omega | rfl | exact B_pos (by omega)) ?_ | refine go_neg (by first | assumption | omega | decide | exact B_not (by omega)) ?_ | refine go_bind (by first | assumption) ?_ | dsimp only))
          simp only [wn (j := mid) (by omega), wS (a := b) (b := mid) (by omega) (by omega), wS (a := mid) (b := a) (by omega) (by omega), ↓reduceIte]
          (with_reducible repeat (first | refine go_pos (by first | assumption | omega | rfl | exact B_pos (by omega)) ?_ | refine go_neg (by first | assumption | omega | decide | exact B_not (by omega)) ?_ | refine go_bind (by first | assumption) ?_ | dsimp only))
         ·
          (with_reducible repeat (first | refine go_pos (by first | assumption | omega | rfl | exact B_pos (by omega)) ?_ | refine go_neg (by first | assumption | omega | decide | exact B_not (by omega)) ?_ | refine go_bind (by first | assumption) ?_ | dsimp only))
          simp only [wP (j := a) (by omega) (by omega), rdA (d := d) (i := a - 1) (by omega), rdA (d := d) (i := x) (by omega), Array.length_toList, ↓reduceIte]
          (with_reducible repeat (first | refine go_pos (by first | assumption | omega | rfl | exact B_pos (by omega)) ?_ | refine go_neg (by first | assumption | omega | decide | exact B_not (by omega)) ?_ | refine go_bind (by first | assumption) ?_ | dsimp only))
          simp only [wn (j := mid) (by omega), wS (a := b) (b := mid) (by omega) (by omega), wS (a := mid) (b := a) (by omega) (by omega), ↓reduceIte]
          (with_reducible repeat (first | refine go_pos (by first | assumption | omega | rfl | exact B_pos (by omega)) ?_ | refine go_neg (by first | assumption | omega | decide | exact B_not (by omega)) ?_ | refine go_bind (by first | assumption) ?_ | dsimp only))
   | false =>
    obtain ⟨d1, hbk, b2⟩ := brkF (C := C) hN hab' hb hd
    have hd1 := hd.perm hb b2
    have hB1 := hB.perm (by rw [hd.sz]; exact hb) b2
    obtain ⟨x, h, hx, x1, x2⟩ := pivF hc hN hab' hb hd1
    by_cases hh : h = 2
    ·
     obtain ⟨d2, v1, v2⟩ := revS (C := C) hN hab' hb hd1
     have hd2 := hd1.perm hb v2
     have hB2 := hB1.perm (by rw [hd1.sz]; exact hb) v2
     have hp2 := Go.Sort.permIn_trans _ _ _ a b b2 v2
     have hs3 := hd2.sz
     rcases pdqTail hc hN hb IH HF (by omega) hfu (lim := (wrapI (lim - 1))) (piv := (b - 1 - (x - a))) (by omega) (by omega) hd2 hB2 with ⟨c, mid, d4, a0, c1, c2, e1, rec⟩ | ⟨mid, ap, d4, q, m1, m2, e1, r⟩
     ·
      refine res_of (Y := _root_.Go.Proofs.Ytjknpaplgclflaa.R.slices_pdqsortCmpFunc_int64.l0 (m + 1) (mid : Int) (b : Int) (wrapI (lim - 1)) C false wp d4.toList) ?_ ((rec _ _).tr hp2)
      rw [_root_.Go.Proofs.Ytjknpaplgclflaa.R.slices_pdqsortCmpFunc_int64.l0_eq, wS (a := b) (b := a) (by omega) (by omega), map_id', if_neg (c := ((b - a : Nat) : Int) ≤ 12) (by omega), if_neg (c := lim = 0) hlim, if_neg (c := (false = true)) (by decide), hbk, Option.bind_some, hx, Option.bind_some]
      dsimp only
      simp only [wP (j := b) (by omega) (by omega), wS (a := x) (b := a) (by omega) (by omega), wS (a := b - 1) (b := x - a) (by omega) (by omega), ↓reduceIte]
      (with_reducible repeat (first | refine go_pos (by first | assumption | omega | rfl | exact B_pos (by omega)) ?_ | refine go_neg (by first | assumption | omega | decide | exact B_not (by omega)) ?_ | refine go_bind (by first | assumption) ?_ | dsimp only))
      simp only [wP (j := a) (by omega) (by omega), rdA (d := d2) (i := a - 1) (by omega), rdA (d := d2) (i := (b - 1 - (x - a))) (by omega), Array.length_toList, ↓reduceIte]
      (with_reducible repeat (first | refine go_pos (by first | assumption | omega | rfl | exact B_pos (by omega)) ?_ | refine go_neg (by first | assumption | omega | decide | exact B_not (by omega)) ?_ | refine go_bind (by first | assumption) ?_ | dsimp only))
     ·
      rcases r with ⟨l1, d5, e2, rec⟩ | ⟨l1, d5, e2, rec⟩
      ·
       refine res_of ?_ ((rec (decide (((mid - a : Nat) : Int) ≥ wrapI (((b - a : Nat) : Int).tdiv 8))) (decide (ap = true))).tr hp2)
       rw [_root_.Go.Proofs.Ytjknpaplgclflaa.R.slices_pdqsortCmpFunc_int64.l0_eq, wS (a := b) (b := a) (by omega) (by omega), map_id', if_neg (c := ((b - a : Nat) : Int) ≤ 12) (by omega), if_neg (c := lim = 0) hlim, if_neg (c := (false = true)) (by decide), hbk, Option.bind_some, hx, Option.bind_some]
       dsimp only
       simp only [wP (j := b) (by omega) (by omega), wS (a := x) (b := a) (by omega) (by omega), wS (a := b - 1) (b := x - a) (by omega) (by omega), ↓reduceIte]
       rcases q with q | ⟨q, c, c1, c2⟩
       ·
        (with_reducible repeat (first | refine go_pos (by first | assumption | omega | rfl | exact B_pos (by omega)) ?_ | refine go_neg (by first | assumption | omega | decide | exact B_not (by omega)) ?_ | refine go_bind (by first | assumption) ?_ | dsimp only))
        simp only [wn (j := mid) (by omega), wS (a := b) (b := mid) (by omega) (by omega), wS (a := mid) (b := a) (by omega) (by omega), ↓reduceIte]
        (with_reducible repeat (first | refine go_pos (by first | assumption | omega | rfl | exact B_pos (by omega)) ?_ | refine go_neg (by first | assumption | omega | decide | exact B_not (by omega)) ?_ | refine go_bind (by first | assumption) ?_ | dsimp only))
       ·
        (with_reducible repeat (first | refine go_pos (by first | assumption | omega | rfl | exact B_pos (by omega)) ?_ | refine go_neg (by first | assumption | omega | decide | exact B_not (by omega)) ?_ | refine go_bind (by first | assumption) ?_ | dsimp only))
        simp only [wP (j := a) (by omega) (by omega), rdA (d := d2) (i := a - 1) (by omega), rdA (d := d2) (i := (b - 1 - (x - a))) (by omega), Array.length_toList, ↓reduceIte]
        (with_reducible repeat (first | refine go_pos (by first | assumption | omega | rfl | exact B_pos (by omega)) ?_ | refine go_neg (by first | assumption | omega | decide | exact B_not (by omega)) ?_ | refine go_bind (by first | assumption) ?_ | dsimp only))
        simp only [wn (j := mid) (by omega), wS (a := b) (b := mid) (by omega) (by omega), wS (a := mid) (b := a) (by omega) (by omega), ↓reduceIte]
        (with_reducible repeat (first | refine go_pos (by first | assumption | omega | rfl | exact B_pos (by omega)) ?_ | refine go_neg (by first | assumption | omega | decide | exact B_not (by omega)) ?_ | refine go_bind (by first | assumption) ?_ | dsimp only))
      ·
       refine res_of ?_ ((rec (decide (((b - mid : Nat) : Int) ≥ wrapI (((b - a : Nat) : Int).tdiv 8))) (decide (ap = true))).tr hp2)
       rw [_root_.Go.Proofs.Ytjknpaplgclflaa.R.slices_pdqsortCmpFunc_int64.l0_eq, wS (a := b) (b := a) (by omega) (by omega), map_id', if_neg (c := ((b - a : Nat) : Int) ≤ 12) (by omega), if_neg (c := lim = 0) hlim, if_neg (c := (false = true)) (by decide), hbk, Option.bind_some, hx, Option.bind_some]
       dsimp only
       simp only [wP (j := b) (by omega) (by omega), wS (a := x) (b := a) (by omega) (by omega), wS (a := b - 1) (b := x - a) (by omega) (by omega), ↓reduceIte]
       rcases q with q | ⟨q, c, c1, c2⟩
       ·
        (with_reducible repeat (first | refine go_pos (by first | assumption | omega | rfl | exact B_pos (by omega)) ?_ | refine go_neg (by first | assumption | omega | decide | exact B_not (by omega)) ?_ | refine go_bind (by first | assumption) ?_ | dsimp only))
        simp only [wn (j := mid) (by omega), wS (a := b) (b := mid) (by omega) (by omega), wS (a := mid) (b := a) (by omega) (by omega), ↓reduceIte]
        (with_reducible repeat (first | refine go_pos (by first | assumption | omega | rfl | exact B_pos (by omega)) ?_ | refine go_neg (by first | assumption | omega | decide | exact B_not (by omega)) ?_ | refine go_bind (by first | assumption) ?_ | dsimp only))
       ·
        (with_reducible repeat (first | refine go_pos (by first | assumption | omega | rfl | exact B_pos (by omega)) ?_ | refine go_neg (by first | assumption | omega | decide | exact B_not (by omega)) ?_ | refine go_bind (by first | assumption) ?_ | dsimp only))
        simp only [wP (j := a) (by omega) (by omega), rdA (d := d2) (i := a - 1) (by omega), rdA (d := d2) (i := (b - 1 - (x - a))) (by omega), Array.length_toList, ↓reduceIte]
        (with_reducible repeat (first | refine go_pos (by first | assumption | omega | rfl | exact B_pos (by omega)) ?_ | refine go_neg (by first | assumption | omega | decide | exact B_not (by omega)) ?_ | refine go_bind (by first | assumption) ?_ | dsimp only))
        simp only [wn (j := mid) (by omega), wS (a := b) (b := mid) (by omega) (by omega), wS (a := mid) (b := a) (by omega) (by omega), ↓reduceIte]
        (with_reducible repeat (first | refine go_pos (by first | assumption | omega | rfl | exact B_pos (by omega)) ?_ | refine go_neg (by first | assumption | omega | decide | exact B_not (by omega)) ?_ | refine go_bind (by first | assumption) ?_ | dsimp only))
    ·
     have hs3 := hd1.sz
     rcases pdqTail hc hN hb IH HF (by omega) hfu (lim := (wrapI (lim - 1))) (piv := x) x1 x2 hd1 hB1 with ⟨c, mid, d4, a0, c1, c2, e1, rec⟩ | ⟨mid, ap, d4, q, m1, m2, e1, r⟩
     ·
      refine res_of (Y := _root_.Go.Proofs.Ytjknpaplgclflaa.R.slices_pdqsortCmpFunc_int64.l0 (m + 1) (mid : Int) (b : Int) (wrapI (lim - 1)) C false wp d4.toList) ?_ ((rec _ _).tr b2)
      rw [_root_.Go.Proofs.Ytjknpaplgclflaa.R.slices_pdqsortCmpFunc_int64.l0_eq, wS (a := b) (b := a) (by omega) (by omega), map_id', if_neg (c := ((b - a : Nat) : Int) ≤ 12) (by omega), if_neg (c := lim = 0) hlim, if_neg (c := (false = true)) (by decide), hbk, Option.bind_some, hx, Option.bind_some]
      dsimp only
      simp only [wP (j := b) (by omega) (by omega), wS (a := x) (b := a) (by omega) (by omega), wS (a := b - 1) (b := x - a) (by omega) (by omega), ↓reduceIte]
      (with_reducible repeat (first | refine go_pos (by first | assumption | omega | rfl | exact B_pos (by omega)) ?_ | refine go_neg (by first | assumption | omega | decide | exact B_not (by omega)) ?_ | refine go_bind (by first | assumption) ?_ | dsimp only))
      simp only [wP (j := a) (by omega) (by omega), rdA (d := d1) (i := a - 1) (by omega), rdA (d := d1) (i := x) (by omega), Array.length_toList, ↓reduceIte]
      (with_reducible repeat (first | refine go_pos (by first | assumption | omega | rfl | exact B_pos (by omega)) ?_ | refine go_neg (by first | assumption | omega | decide | exact B_not (by omega)) ?_ | refine go_bind (by first | assumption) ?_ | dsimp only))
     ·
      rcases r with ⟨l1, d5, e2, rec⟩ | ⟨l1, d5, e2, rec⟩
      ·
       refine res_of ?_ ((rec (decide (((mid - a : Nat) : Int) ≥ wrapI (((b - a : Nat) : Int).tdiv 8))) (decide (ap = true))).tr b2)
       rw [_root_.Go.Proofs.Ytjknpaplgclflaa.R.slices_pdqsortCmpFunc_int64.l0_eq, wS (a := b) (b := a) (by omega) (by omega), map_id', if_neg (c := ((b - a : Nat) : Int) ≤ 12) (by omega), if_neg (c := lim = 0) hlim, if_neg (c := (false = true)) (by decide), hbk, Option.bind_some, hx, Option.bind_some]
       dsimp only
       simp only [wP (j := b) (by omega) (by omega), wS (a := x) (b := a) (by omega) (by omega), wS (a := b - 1) (b := x - a) (by omega) (by omega), ↓reduceIte]
       rcases q with q | ⟨q, c, c1, c2⟩
       ·
        (with_reducible repeat (first | refine go_pos (by first | assumption | omega | rfl | exact B_pos (by omega)) ?_ | refine go_neg (by first | assumption | omega | decide | exact B_not (by omega)) ?_ | refine go_bind (by first | assumption) ?_ | dsimp only))
        simp only [wn (j := mid) (by omega), wS (a := b) (b := mid) (by omega) (by omega), wS (a := mid) (b := a) (by omega) (by omega), ↓reduceIte]
        (with_reducible repeat (first | refine go_pos (by first | assumption | omega | rfl | exact B_pos (by omega)) ?_ | refine go_neg (by first | assumption | omega | decide | exact B_not (by omega)) ?_ | refine go_bind (by first | assumption) ?_ | dsimp only))
       ·
        (with_reducible repeat (first | refine go_pos (by first | assumption | omega | rfl | exact B_pos (by omega)) ?_ | refine go_neg (by first | assumption | omega | decide | exact B_not (by omega)) ?_ | refine go_bind (by first | assumption) ?_ | dsimp only))
        simp only [wP (j := a) (by omega) (by omega), rdA (d := d1) (i := a - 1) (by omega), rdA (d := d1) (i := x) (by omega), Array.length_toList, ↓reduceIte]
        (with_reducible repeat (first | refine go_pos (by first | assumption | omega | rfl | exact B_pos (by omega)) ?_ | refine go_neg (by first | assumption | omega | decide | exact B_not (by omega)) ?_ | refine go_bind (by first | assumption) ?_ | dsimp only))
        simp only [wn (j := mid) (by omega), wS (a := b) (b := mid) (by omega) (by omega), wS (a := mid) (b := a) (by omega) (by omega), ↓reduceIte]
        (with_reducible repeat (first | refine go_pos (by first | assumption | omega | rfl | exact B_pos (by omega)) ?_ | refine go_neg (by first | assumption | omega | decide | exact B_not (by omega)) ?_ | refine go_bind (by first | assumption) ?_ | dsimp only))
      ·
       refine res_of ?_ ((rec (decide (((b - mid : Nat) : Int) ≥ wrapI (((b - a : Nat) : Int).tdiv 8))) (decide (ap = true))).tr b2)
       rw [_root_.Go.Proofs.Ytjknpaplgclflaa.R.slices_pdqsortCmpFunc_int64.l0_eq, wS (a := b) (b := a) (by omega) (by omega), map_id', if_neg (c := ((b - a : Nat) : Int) ≤ 12) (by omega), if_neg (c := lim = 0) hlim, if_neg (c := (false = true)) (by decide), hbk, Option.bind_some, hx, Option.bind_some]
       dsimp only
       simp only [wP (j := b) (by omega) (by omega), wS (a := x) (b := a) (by omega) (by omega), wS (a := b - 1) (b := x - a) (by omega) (by omega), ↓reduceIte]
       rcases q with q | ⟨q, c, c1, c2⟩
       ·
        (with_reducible repeat (first | refine go_pos (by first | assumption | omega | rfl | exact B_pos (by omega)) ?_ | refine go_neg (by first | assumption | omega | decide | exact B_not (by omega)) ?_ | refine go_bind (by first | assumption) ?_ | dsimp only))
        simp only [wn (j := mid) (by omega), wS (a := b) (b := mid) (by omega) (by omega), wS (a := mid) (b := a) (by omega) (by omega), ↓reduceIte]
        (with_reducible repeat (first | refine go_pos (by first | assumption | omega | rfl | exact B_pos (by omega)) ?_ | refine go_neg (by first | assumption | omega | decide | exact B_not (by omega)) ?_ | refine go_bind (by first | assumption) ?_ | dsimp only))
       ·
        (with_reducible repeat (first | refine go_pos (by first | assumption | omega | rfl | exact B_pos (by omega)) ?_ | refine go_neg (by first | assumption | omega | decide | exact B_not (by omega)) ?_ | refine go_bind (by first | assumption) ?_ | dsimp only))
        simp only [wP (j := a) (by omega) (by omega), rdA (d := d1) (i := a - 1) (by omega), rdA (d := d1) (i := x) (by omega), Array.length_toList, ↓reduceIte]
        (with_reducible repeat (first | refine go_pos (by first | assumption | omega | rfl | exact B_pos (by omega)) ?_ | refine go_neg (by first | assumption | omega | decide | exact B_not (by omega)) ?_ | refine go_bind (by first | assumption) ?_ | dsimp only))
        simp only [wn (j := mid) (by omega), wS (a := b) (b := mid) (by omega) (by omega), wS (a := mid) (b := a) (by omega) (by omega), ↓reduceIte]
        (with_reducible repeat (first | refine go_pos (by first | assumption | omega | rfl | exact B_pos (by omega)) ?_ | refine go_neg (by first | assumption | omega | decide | exact B_not (by omega)) ?_ | refine go_bind (by first | assumption) ?_ | dsimp only))
theorem sortAll {H : Value → Prop} {L : Value → Value → Prop} {C : Value → Value → Option Int} (hC : Ord H L C) {xs : List Value} (hN : xs.length ≤ 1000000000) (hr : ∀ r ∈ xs, H r) :
  ∃ S, _root_.Go.Proofs.Ytjknpaplgclflaa.R.slices_SortFunc_int64.f xs C = some S ∧ S.Pairwise (fun r s => ¬ L s r) ∧ S.Perm xs := by
 classical
 obtain ⟨lt, hlt⟩ : ∃ lt : Value → Value → Bool, ∀ x y, lt x y = true ↔ (H x ∧ H y ∧ L x y) ∨ (H x ∧ ¬ H y) := ⟨fun x y => decide ((H x ∧ H y ∧ L x y) ∨ (H x ∧ ¬ H y)), fun x y => decide_eq_true_iff⟩
 have hnl : ∀ x y, lt x y = false ↔ ¬ ((H x ∧ H y ∧ L x y) ∨ (H x ∧ ¬ H y)) := fun x y => by rw [← hlt, Bool.not_eq_true]
 have hc : Cm H lt C := by
  refine ⟨⟨fun x => ?_, fun x y z h1 h2 => ?_, fun x y z h1 h2 => ?_⟩, fun x y hx hy => ?_⟩
  ·
   rw [hnl]
   rintro (⟨h1, _, h3⟩ | ⟨h1, h2⟩)
   ·
    exact hC.asy x x h3 h3
   ·
    exact h2 h1
  ·
   rw [hlt] at h1 h2 ⊢
   rcases h2 with ⟨hy, hz, h2⟩ | ⟨hy, hz⟩
   ·
    rcases h1 with ⟨hx, _, h1⟩ | ⟨hx, h1⟩
    ·
     refine .inl ⟨hx, hz, ?_⟩
     exact Classical.byContradiction fun k => hC.tr y z x hy hz hx (fun q => hC.asy _ _ h2 q) k h1
    ·
     exact absurd hy h1
   ·
    rcases h1 with ⟨hx, _, _⟩ | ⟨hx, h1⟩
    ·
     exact .inr ⟨hx, hz⟩
    ·
     exact absurd hy h1
  ·
   rw [hnl] at h1 h2 ⊢
   rintro (⟨hx, hz, h3⟩ | ⟨hx, hz⟩)
   ·
    by_cases hy : H y
    ·
     exact hC.tr z y x hz hy hx (fun k => h2 (.inl ⟨hy, hz, k⟩)) (fun k => h1 (.inl ⟨hx, hy, k⟩)) h3
    ·
     exact h1 (.inr ⟨hx, hy⟩)
   ·
    by_cases hy : H y
    ·
     exact h2 (.inr ⟨hy, hz⟩)
    ·
     exact h1 (.inr ⟨hx, hy⟩)
  ·
   obtain ⟨c, c1, c2⟩ := hC.cmp x y hx hy
   refine ⟨c, c1, c2.trans ?_⟩
   rw [hlt]
   exact ⟨fun k => .inl ⟨hx, hy, k⟩, fun k => k.elim (fun k => k.2.2) (fun k => absurd hy k.2)⟩
 have hd : Al H xs.length xs.toArray := ⟨by simp, fun i hi => by
  rw [getElem!_pos xs.toArray i (by simpa using hi)]
  exact hr _ (by simp)⟩
 have hb : ∃ t, _root_.Go.Proofs.Ytjknpaplgclflaa.R.bits_Len.f (wr .u64 (xs.length : Int)) = some t := by
  rw [wr_id (by omega) (by omega)]
  unfold _root_.Go.Proofs.Ytjknpaplgclflaa.R.bits_Len.f
  rw [if_pos (by omega)]
  exact ⟨_, rfl⟩
 obtain ⟨t, ht⟩ := hb
 obtain ⟨d', h1, h2, h3⟩ := pdqL hc hN 63 xs.length 0 xs.length t true true xs.toArray (by omega) (Nat.lt_of_le_of_lt (Nat.le_trans (Nat.sub_le _ _) hN) (by decide)) (by omega) (Nat.le_refl _) hd (.inl rfl)
 have hsz : d'.size = xs.length := by rw [h2.1]; simp
 refine ⟨d'.toList, ?_, ?_, ?_⟩
 ·
  rw [_root_.Go.Proofs.Ytjknpaplgclflaa.R.slices_SortFunc_int64.f_eq, ht, Option.bind_some, map_id', fuel_eq, _root_.Go.Proofs.Ytjknpaplgclflaa.R.slices_pdqsortCmpFunc_int64.f_eq]
  rw [show (0 : Int) = ((0 : Nat) : Int) from rfl]
  have : xs.toArray.toList = xs := by simp
  rw [this] at h1
  rw [h1]
  rfl
 ·
  rw [List.pairwise_iff_getElem]
  intro i j hi hj hij k
  have hi' : i < xs.length := by simpa [hsz] using hi
  have hj' : j < xs.length := by simpa [hsz] using hj
  have := h3 i j (Nat.zero_le _) hij hj'
  rw [getElem!_pos d' i (by omega), getElem!_pos d' j (by omega)] at this
  have hH := hd.perm (Nat.le_refl _) h2
  have a1 := hH.all i hi'
  have a2 := hH.all j hj'
  rw [getElem!_pos d' i (by omega)] at a1
  rw [getElem!_pos d' j (by omega)] at a2
  rw [hnl] at this
  exact this (.inl ⟨a2, a1, by simpa using k⟩)
 ·
  have := h2.2.2
  have e1 : xs.toArray.extract 0 xs.length = xs.toArray := by simp
  have e2 : d'.extract 0 xs.length = d' := by rw [← hsz]; simp
  rw [e1, e2] at this
  simpa using this
end Go.Proofs.Ytjknpaplgclflaa.V
set_option maxHeartbeats 4000000
namespace Go.Proofs.Ytjknpaplgclflaa.V
open Go Go.RowKit Go.Proofs.Ytjknpaplgclflaa.D Go.Proofs.Ytjknpaplgclflaa.P
def CrP (g : List (List Int)) (m : Int) (u r : List Int) (n : Nat) : Prop := ∀ x : Int, 0 ≤ x → x < n → ∀ y : Int, 0 ≤ y → y < n → T g x y < n → rd r (T g x y) = (rd r x + rd u x * rd r y) % m
theorem CrP.pre {g : List (List Int)} {m : Int} {u r r' : List Int} {n n' : Nat} (h : CrP g m u r n) (hn : n' ≤ n) (hg : Grp g) (hN : n ≤ g.length) (he : ∀ i : Int, 0 ≤ i → i < n' → rd r' i = rd r i) : CrP g m u r' n' := by
 intro x x0 x1 y y0 y1 ht
 have e := h x x0 (by omega) y y0 (by omega) (by omega)
 obtain ⟨t0, _⟩ := hg.ent x y x0 (by omega) y0 (by omega)
 rw [he x x0 x1, he y y0 y1, he _ t0 ht]
 exact e
theorem crP_crs {g : List (List Int)} (hg : Grp g) {m : Int} {u r : List Int} : CrP g m u r g.length ↔ Crs g m u r :=
 ⟨fun h x x0 x1 y y0 y1 => h x x0 x1 y y0 y1 (hg.ent x y x0 x1 y0 y1).2, fun h x x0 x1 y y0 y1 _ => h x x0 x1 y y0 y1⟩
theorem rd_rep (k : Nat) (z : Int) : rd (List.replicate k 0) z = 0 := by
 show (List.replicate k (0 : Int)).getD z.toNat 0 = 0
 rw [List.getD_eq_getElem?_getD, List.getElem?_replicate]
 split <;> rfl
theorem coM_crs {g : List (List Int)} (hg : Grp g) {m : Int} {u h : List Int} (hm : Mdl g m u) (hl : h.length = nB g 1) (ha : AllIn m h) : coM g m u 1 (V h) ↔ Crs g m u (0 :: h) := by
 have m2 := hm.m2
 obtain ⟨c1, c2⟩ := nA_bd hg (e := 2) (by omega)
 have hc : Co g m 2 (List.replicate (nB g 2) 0) := ⟨by omega, by rw [List.length_replicate]; exact c2, allIn_of fun x hx => by rw [List.eq_of_mem_replicate hx]; omega⟩
 have e := ext_iff hg (v := List.replicate (nB g 2) 0) (w := List.replicate (nB g 2) 0) hm hc hl ha List.length_replicate (fun i hi => by rw [rd_rep]; exact ⟨0, by omega⟩)
 have hz : ∀ x y, At g (List.replicate (nB g 2) 0) [x, y] = 0 := fun x y => by
  unfold At
  by_cases k : NoUnit [x, y]
  ·
   rw [ite_pos k, rd_rep]
  ·
   rw [ite_neg k]
 have e1 : ConP g m u (List.replicate (nB g 2) 0) (0 :: h) g.length ↔ Crs g m u (0 :: h) := by
  rw [← crP_crs hg]
  constructor
  ·
   intro q x x0 x1 y y0 y1 t
   have := q x x0 x1 y y0 y1 t
   rw [hz, Int.add_zero] at this
   exact this.symm
  ·
   intro q x x0 x1 y y0 y1 t
   rw [hz, Int.add_zero]
   exact (q x x0 x1 y y0 y1 t).symm
 rw [← e1, e]
 have hp : ∀ i : Nat, V (List.replicate (nB g 2) 0 ++ h) i = pad (nB g 2) (V h) i := fun i => by
  unfold pad
  by_cases k : i < nB g 2
  ·
   rw [if_pos k]
   show rd (List.replicate (nB g 2) 0 ++ h) (i : Int) = 0
   rw [rd_app_left (by rw [List.length_replicate]; exact k), rd_rep]
  ·
   rw [if_neg k]
   show rd (List.replicate (nB g 2) 0 ++ h) (i : Int) = _
   rw [rd_app_right (by rw [List.length_replicate]; omega), List.length_replicate]
   rfl
 exact ⟨fun q => .alike (show Sp m _ _ _ from q) fun i _ => dvd_same (hp i).symm, fun q => .alike (show Sp m _ _ _ from q) fun i _ => dvd_same (hp i)⟩
theorem fm_len {α : Type} {F : α → List (List Int)} {c : Nat} (h : ∀ x, (F x).length = c) : ∀ l : List α, (l.flatMap F).length = l.length * c := by
 intro l
 induction l with
 | nil => simp
 | cons x l ih => rw [List.flatMap_cons, List.length_append, ih, h, List.length_cons, Nat.succ_mul]; omega
noncomputable def muls (m : Int) (r : List Int) (k : Nat) (x : List Int) : List (List Int) := (List.range (m / rd r (k : Int)).toNat).map fun c : Nat => mix m 1 x (c : Int) r
noncomputable def allL (m : Int) (p : List (List Int)) (W : Nat) : Nat → List (List Int)
 | 0 => [List.replicate W 0]
 | k + 1 => ite_ (row p (k : Int) = []) (allL m p W k) ((allL m p W k).flatMap (muls m (row p (k : Int)) k))
theorem muls_len (m : Int) (r : List Int) (k : Nat) (x : List Int) : (muls m r k x).length = (m / rd r (k : Int)).toNat := by simp [muls]
theorem allL_none {m : Int} {p : List (List Int)} {W k : Nat} (h : row p (k : Int) = []) : allL m p W (k + 1) = allL m p W k := by
 conv => lhs; unfold allL
 exact ite_pos h _ _
theorem allL_some {m : Int} {p : List (List Int)} {W k : Nat} (h : ¬ row p (k : Int) = []) : allL m p W (k + 1) = (allL m p W k).flatMap (muls m (row p (k : Int)) k) := by
 conv => lhs; unfold allL
 exact ite_neg h _ _
theorem piv_bd {m : Int} (m2 : 2 ≤ m) {W : Nat} {p : List (List Int)} (ht : PTab m W p) {k : Nat} (hk : k < W) (hr : ¬ row p (k : Int) = []) : 0 < rd (row p (k : Int)) (k : Int) ∧ rd (row p (k : Int)) (k : Int) < m ∧ 1 ≤ m / rd (row p (k : Int)) (k : Int) ∧ m / rd (row p (k : Int)) (k : Int) ≤ m := by
 have hP := ht.prow hk hr
 obtain ⟨a0, a1⟩ := hP.ent (k : Int) (by omega) (by rw [hP.len]; omega)
 have p0 := hP.pos
 exact ⟨p0, a1, (Int.le_ediv_iff_mul_le p0).2 (by omega), Int.ediv_le_self _ (by omega)⟩
theorem allL_len {m : Int} (m2 : 2 ≤ m) (m12 : m ≤ 12) {W : Nat} {p : List (List Int)} (ht : PTab m W p) : ∀ k, k ≤ W → (allL m p W k).length ≤ 12 ^ k ∧ 0 < (allL m p W k).length := by
 intro k
 induction k with
 | zero => intro _; simp [allL]
 | succ k ih =>
  intro hk
  obtain ⟨h1, h2⟩ := ih (by omega)
  rw [Nat.pow_succ]
  by_cases hr : row p (k : Int) = []
  ·
   rw [allL_none hr]; omega
  ·
   obtain ⟨b0, b1, b2, b3⟩ := piv_bd m2 ht (show k < W by omega) hr
   rw [allL_some hr, fm_len (muls_len m (row p (k : Int)) k)]
   exact ⟨Nat.mul_le_mul h1 (by omega), Nat.mul_pos h2 (by omega)⟩
theorem allL_in {m : Int} (m2 : 2 ≤ m) {W : Nat} {p : List (List Int)} {M : Vc → Prop} (hM : Lead m W p M) : ∀ k, k ≤ W → ∀ r ∈ allL m p W k, r.length = W ∧ AllIn m r ∧ M (V r) := by
 intro k
 induction k with
 | zero =>
  intro _ r hr
  obtain rfl : r = List.replicate W 0 := by simpa [allL] using hr
  refine ⟨List.length_replicate, allIn_of fun x hx => by rw [List.eq_of_mem_replicate hx]; omega, ?_⟩
  exact hM.sub.alike _ _ hM.sub.zero fun i _ => dvd_same (rd_rep W (i : Int)).symm
 | succ k ih =>
  intro hk r hr
  have ih := ih (by omega)
  by_cases hn : row p (k : Int) = []
  ·
   rw [allL_none hn] at hr; exact ih r hr
  ·
   rw [allL_some hn, List.mem_flatMap] at hr
   obtain ⟨x, hx, hr⟩ := hr
   obtain ⟨c, _, rfl⟩ := List.mem_map.1 hr
   obtain ⟨x1, x2, x3⟩ := ih x hx
   refine ⟨by rw [mix_length, x1], mix_in (by omega), ?_⟩
   refine hM.sub.alike _ _ (hM.sub.lin _ _ x3 (hM.own k (by omega) hn) (c : Int)) fun i hi => ?_
   have := mix_dvd (m := m) (x := 1) (a := x) (y := (c : Int)) (b := row p (k : Int)) (i := i) (by omega)
   rwa [Int.one_mul] at this
theorem allL_has {m : Int} (m2 : 2 ≤ m) {W : Nat} {p : List (List Int)} {M : Vc → Prop} (hM : Lead m W p M) {x : List Int} (hx : x.length = W) (ha : AllIn m x) (hxM : M (V x)) : ∀ k, k ≤ W → ∃ y ∈ allL m p W k, ∀ i : Nat, i < k → rd y (i : Int) = rd x (i : Int) := by
 intro k
 induction k with
 | zero => intro _; exact ⟨List.replicate W 0, by simp [allL], fun i hi => by omega⟩
 | succ k ih =>
  intro hk
  obtain ⟨y, hy, he⟩ := ih (by omega)
  obtain ⟨y1, y2, y3⟩ := allL_in m2 hM k (by omega) y hy
  have hd : M fun i => V x i + (-1) * V y i := hM.sub.lin _ _ hxM y3 (-1)
  have hdv := hM.lead _ hd k (by omega) fun i hi => by
   show m ∣ rd x (i : Int) + -1 * rd y (i : Int)
   rw [he i hi]; exact ⟨0, by omega⟩
  have hdv : dv m p k ∣ rd x (k : Int) + -1 * rd y (k : Int) := hdv
  obtain ⟨a0, a1⟩ := ha (k : Int) (by omega) (by omega)
  obtain ⟨b0, b1⟩ := y2 (k : Int) (by omega) (by omega)
  by_cases hn : row p (k : Int) = []
  ·
   rw [allL_none hn]
   refine ⟨y, hy, fun i hi => ?_⟩
   by_cases e : i = k
   ·
    subst e
    rw [show dv m p i = m from if_pos hn] at hdv
    have hd2 : m ∣ rd x (i : Int) - rd y (i : Int) := by rwa [show rd x (i : Int) - rd y (i : Int) = rd x (i : Int) + -1 * rd y (i : Int) by omega]
    have := Int.emod_eq_emod_iff_emod_sub_eq_zero.2 (Int.emod_eq_zero_of_dvd hd2)
    rw [Int.emod_eq_of_lt a0 a1, Int.emod_eq_of_lt b0 b1] at this
    exact this.symm
   ·
    exact he i (by omega)
  ·
   have hP := hM.tab.prow (show k < W by omega) hn
   obtain ⟨p0, p1, p2, p3⟩ := piv_bd m2 hM.tab (show k < W by omega) hn
   have hdd : dv m p k = rd (row p (k : Int)) (k : Int) := if_neg hn
   obtain ⟨_, _, hdm⟩ := dv_bd (show 0 < m by omega) hM.tab (show k < W by omega)
   rw [hdd] at hdv hdm
   obtain ⟨q, hq⟩ := hdv
   obtain ⟨s, hs⟩ := hdm
   have hms : m / rd (row p (k : Int)) (k : Int) = s := by
    conv => lhs; rw [hs]
    exact Int.mul_ediv_cancel_left _ (by omega)
   rw [hms] at p2
   have c0 := Int.emod_nonneg q (show s ≠ 0 by omega)
   have c1 := Int.emod_lt_of_pos q (show 0 < s by omega)
   rw [allL_some hn]
   refine ⟨mix m 1 y (((q % s).toNat : Nat) : Int) (row p (k : Int)), List.mem_flatMap.2 ⟨y, hy, List.mem_map.2 ⟨(q % s).toNat, List.mem_range.2 (by rw [hms]; omega), rfl⟩⟩, fun i hi => ?_⟩
   rw [mix_rd (by omega), Int.toNat_of_nonneg c0, Int.one_mul]
   by_cases e : i = k
   ·
    subst e
    have e1 : rd y (i : Int) + q % s * rd (row p (i : Int)) (i : Int) = rd x (i : Int) + m * (-(q / s)) := by
     have h1 := Int.mul_ediv_add_emod q s
     have h2 : rd (row p (i : Int)) (i : Int) * q = rd (row p (i : Int)) (i : Int) * (s * (q / s)) + rd (row p (i : Int)) (i : Int) * (q % s) := by rw [← Int.mul_add, h1]
     rw [← Int.mul_assoc, ← hs] at h2
     rw [Int.mul_comm (q % s), Int.mul_neg]
     omega
    rw [e1, Int.add_mul_emod_self_left, Int.emod_eq_of_lt a0 a1]
   ·
    rw [hP.zero i (by omega), Int.mul_zero, Int.add_zero, he i (by omega)]
    obtain ⟨d0, d1⟩ := ha (i : Int) (by omega) (by omega)
    exact Int.emod_eq_of_lt d0 d1
theorem allL_dif {m : Int} (m2 : 2 ≤ m) {W : Nat} {p : List (List Int)} {M : Vc → Prop} (hM : Lead m W p M) : ∀ k, k ≤ W → (allL m p W k).Pairwise fun r s => ∃ i : Nat, i < k ∧ rd r (i : Int) ≠ rd s (i : Int) := by
 intro k
 induction k with
 | zero => intro _; exact List.pairwise_singleton _ _
 | succ k ih =>
  intro hk
  have ih := ih (by omega)
  by_cases hn : row p (k : Int) = []
  ·
   rw [allL_none hn]
   exact ih.imp fun ⟨i, hi, h⟩ => ⟨i, by omega, h⟩
  ·
   have hP := hM.tab.prow (show k < W by omega) hn
   obtain ⟨p0, p1, p2, p3⟩ := piv_bd m2 hM.tab (show k < W by omega) hn
   obtain ⟨_, _, hdm⟩ := dv_bd (show 0 < m by omega) hM.tab (show k < W by omega)
   rw [show dv m p k = rd (row p (k : Int)) (k : Int) from if_neg hn] at hdm
   obtain ⟨s, hs⟩ := hdm
   have hms : m / rd (row p (k : Int)) (k : Int) = s := by
    conv => lhs; rw [hs]
    exact Int.mul_ediv_cancel_left _ (by omega)
   rw [allL_some hn, List.pairwise_flatMap]
   constructor
   ·
    intro x hx
    obtain ⟨x1, x2, x3⟩ := allL_in m2 hM k (by omega) x hx
    unfold muls
    rw [List.pairwise_map]
    refine (List.pairwise_lt_range).imp_of_mem fun {c c'} hc hc' hcc => ⟨k, by omega, fun e => ?_⟩
    have lc := List.mem_range.1 hc
    have lc' := List.mem_range.1 hc'
    rw [mix_rd (by omega), mix_rd (by omega)] at e
    have hd := Int.emod_eq_emod_iff_emod_sub_eq_zero.1 e
    have hd := Int.dvd_of_emod_eq_zero hd
    have e2 : 1 * rd x (k : Int) + (c : Int) * rd (row p (k : Int)) (k : Int) - (1 * rd x (k : Int) + (c' : Int) * rd (row p (k : Int)) (k : Int)) = -(((c' : Int) - c) * rd (row p (k : Int)) (k : Int)) := by rw [Int.sub_mul]; omega
    rw [e2] at hd
    have hd := (Int.dvd_neg).1 hd
    have b1 : 0 < ((c' : Int) - c) * rd (row p (k : Int)) (k : Int) := Int.mul_pos (by omega) p0
    have b2 : ((c' : Int) - c) * rd (row p (k : Int)) (k : Int) < m := by
     have : ((c' : Int) - c) < s := by omega
     have := Int.mul_lt_mul_of_pos_right this p0
     rw [Int.mul_comm s, ← hs] at this
     exact this
    have := Int.le_of_dvd b1 hd
    omega
   ·
    refine ih.imp_of_mem fun {x x'} hx hx' ⟨i, hi, hne⟩ r hr s' hs' => ⟨i, by omega, ?_⟩
    obtain ⟨c, _, rfl⟩ := List.mem_map.1 hr
    obtain ⟨c', _, rfl⟩ := List.mem_map.1 hs'
    obtain ⟨x1, x2, _⟩ := allL_in m2 hM k (by omega) x hx
    obtain ⟨y1, y2, _⟩ := allL_in m2 hM k (by omega) x' hx'
    obtain ⟨a0, a1⟩ := x2 (i : Int) (by omega) (by omega)
    obtain ⟨b0, b1⟩ := y2 (i : Int) (by omega) (by omega)
    rw [mix_rd (by omega), mix_rd (by omega), hP.zero i hi, Int.mul_zero, Int.mul_zero, Int.add_zero, Int.add_zero, Int.one_mul, Int.one_mul, Int.emod_eq_of_lt a0 a1, Int.emod_eq_of_lt b0 b1]
    exact hne
theorem spanL {m : Int} (m2 : 2 ≤ m) (m12 : m ≤ 12) {W : Nat} (hW : W ≤ 8) {p : List (List Int)} {M : Vc → Prop} (hM : Lead m W p M) :
  impl_span_all.f m p = (slices_SortFunc_int64.f (allL m p W W) (fun z0 z1 => (slices_Compare_int64.f z0 z1).map fun z => z)).bind fun t => some (t, m, p) := by
 have hl := hM.tab.len
 have l2 : ∀ x : List Int, ([x] : List (List Int)).length = 1 := fun _ => rfl
 have big : ∀ k, k ≤ 8 → (12 : Nat) ^ k ≤ 429981696 := fun k hk => Nat.le_trans (Nat.pow_le_pow_right (by omega) hk) (by decide)
 have main := up W (fun k => impl_span_all.l0 (W : Int) (k : Int) m p (allL m p W k)) (fun k hk => by
  obtain ⟨n1, n2⟩ := allL_len m2 m12 hM.tab k (by omega)
  have hb := big k (by omega)
  by_cases hn : row p (k : Int) = []
  ·
   have e0 : (row p (k : Int)).length = 0 := by rw [hn]; rfl
   rw [allL_none hn, impl_span_all.l0_eq, wn (j := k) (by omega)]
   ((with_reducible repeat (first | refine go_pos (by first | assumption | omega | rfl | exact B_pos (by omega)) ?_ | refine go_neg (by first | assumption | omega | decide | exact B_not (by omega)) ?_ | refine go_bind (by first | assumption) ?_ | dsimp only)); first | done | (with_reducible rfl) | simp (disch := omega) only [w64] | (show False; done))
  ·
   have hP := hM.tab.prow hk hn
   have pl := hP.len
   obtain ⟨p0, p1, p2, p3⟩ := piv_bd m2 hM.tab hk hn
   have wq : wrapI (Int.tdiv m (rd (row p (k : Int)) (k : Int))) = (((m / rd (row p (k : Int)) (k : Int)).toNat : Nat) : Int) := by
    rw [tdiv_nn (by omega), w64 (by omega) (by omega)]; omega
   rw [allL_some hn]
   obtain ⟨old, ho⟩ : ∃ old, old = allL m p W k := ⟨_, rfl⟩
   obtain ⟨rw_, hrw⟩ : ∃ rw_, rw_ = row p (k : Int) := ⟨_, rfl⟩
   obtain ⟨cnt, hcnt⟩ : ∃ cnt, cnt = (m / rd (row p (k : Int)) (k : Int)).toNat := ⟨_, rfl⟩
   rw [← hcnt] at wq
   have hcl : cnt ≤ 12 := by omega
   have n1' : old.length ≤ 12 ^ k := by rw [ho]; exact n1
   have outer := up old.length (fun j => impl_span_all.l1 (k : Int) rw_ (W : Int) (k : Int) old (old.length : Int) (j : Int) m p ((old.take j).flatMap (muls m rw_ k))) (fun j hj => by
    have hx : row old (j : Int) = old[j] := row_get hj
    have hmem : old[j] ∈ allL m p W k := by rw [← ho]; exact List.getElem_mem hj
    obtain ⟨x1, x2, x3⟩ := allL_in m2 hM k (by omega) old[j] hmem
    have ml : ((old.take j).flatMap (muls m rw_ k)).length = j * cnt := by
     rw [fm_len (muls_len m rw_ k), List.length_take, Nat.min_eq_left (by omega), hrw, hcnt]
    have mb : j * cnt ≤ 429981696 * 12 := Nat.mul_le_mul (by rw [← ho] at n1; omega) hcl
    have inner := up cnt (fun c => impl_span_all.l2 (k : Int) rw_ old[j] (W : Int) (k : Int) old (old.length : Int) (j : Int) (cnt : Int) (c : Int) m p ((old.take j).flatMap (muls m rw_ k) ++ (List.range c).map fun c : Nat => mix m 1 old[j] (c : Int) rw_)) (fun c hc => by
     have hcb := combined m2 m12 (p := p) (x := 1) (y := (c : Int)) (a := old[j]) (b := rw_) x2 (hrw ▸ hP.ent) (by rw [hrw]; omega) (by omega) (by omega) (by omega) (by omega) (by omega)
     have cl : ((old.take j).flatMap (muls m rw_ k) ++ (List.range c).map fun c : Nat => mix m 1 old[j] (c : Int) rw_).length = j * cnt + c := by
      rw [List.length_append, ml, List.length_map, List.length_range]
     rw [List.range_succ, List.map_append, List.map_singleton, ← List.append_assoc, impl_span_all.l2_eq, wn (j := c) (by omega), hcb, Option.bind_some, cl, l2]
     ((with_reducible repeat (first | refine go_pos (by first | assumption | omega | rfl | exact B_pos (by omega)) ?_ | refine go_neg (by first | assumption | omega | decide | exact B_not (by omega)) ?_ | refine go_bind (by first | assumption) ?_ | dsimp only)); first | done | (with_reducible rfl) | simp (disch := omega) only [w64] | (show False; done)))
    have e1 : (old.take (j + 1)).flatMap (muls m rw_ k) = (old.take j).flatMap (muls m rw_ k) ++ (List.range cnt).map fun c : Nat => mix m 1 old[j] (c : Int) rw_ := by
     rw [List.take_succ_eq_append_getElem hj, List.flatMap_append, List.flatMap_singleton, hcnt, ← hrw]
     rfl
    simp only [Int.natCast_zero, List.range_zero, List.map_nil, List.append_nil] at inner
    have hrl : rw_.length = W := by rw [hrw]; exact pl
    have wq' : wrapI (Int.tdiv m (rd rw_ (k : Int))) = (cnt : Int) := by rw [hrw]; exact wq
    have hr0 : ¬ rd rw_ (k : Int) = 0 := by rw [hrw]; omega
    rw [e1, impl_span_all.l1_eq, hx, wq', inner, impl_span_all.l2_eq, wn (j := j) (by omega)]
    ((with_reducible repeat (first | refine go_pos (by first | assumption | omega | rfl | exact B_pos (by omega)) ?_ | refine go_neg (by first | assumption | omega | decide | exact B_not (by omega)) ?_ | refine go_bind (by first | assumption) ?_ | dsimp only)); first | done | (with_reducible rfl) | simp (disch := omega) only [w64] | (show False; done)))
   simp only [Int.natCast_zero, List.take_zero, List.flatMap_nil, List.take_length] at outer
   rw [← ho, ← hrw, impl_span_all.l0_eq, ← hrw]
   have hrl : rw_.length = W := by rw [hrw]; exact pl
   have fin : impl_span_all.l1 (k : Int) rw_ (W : Int) (k : Int) old (old.length : Int) (old.length : Int) m p (old.flatMap (muls m rw_ k)) = impl_span_all.l0 (W : Int) ((k + 1 : Nat) : Int) m p (old.flatMap (muls m rw_ k)) := by
    rw [impl_span_all.l1_eq, if_neg (by omega), wn (j := k) (by omega)]
   (with_reducible repeat (first | refine go_pos (by first | assumption | omega | rfl | exact B_pos (by omega)) ?_ | refine go_neg (by first | assumption | omega | decide | exact B_not (by omega)) ?_ | refine go_bind (by first | assumption) ?_ | dsimp only))
   rw [outer, fin])
 rw [impl_span_all.f_eq, if_pos rfl, if_pos (by omega), if_pos (by omega)]
 simp only [Int.natCast_zero] at main
 have e0 : ([List.replicate ((p.length : Int)).toNat (0 : Int)] : List (List Int)) = allL m p W 0 := by rw [hl, Int.toNat_natCast]; rfl
 rw [e0, hl, main, impl_span_all.l0_eq, if_neg (by omega)]
theorem spanAll {m : Int} (m2 : 2 ≤ m) (m12 : m ≤ 12) {W : Nat} (hW : W ≤ 8) {p : List (List Int)} {M : Vc → Prop} (hM : Lead m W p M) :
  ∃ S, impl_span_all.f m p = some (S, m, p) ∧ S.Pairwise (fun r s => Ll W r s) ∧ (∀ r, r ∈ S ↔ r.length = W ∧ AllIn m r ∧ M (V r)) ∧ S.length ≤ 12 ^ W := by
 obtain ⟨n1, n2⟩ := allL_len m2 m12 hM.tab W (Nat.le_refl _)
 have hb : (12 : Nat) ^ W ≤ 429981696 := Nat.le_trans (Nat.pow_le_pow_right (by omega) hW) (by decide)
 have hin := allL_in m2 hM W (Nat.le_refl _)
 obtain ⟨S, s1, s2, s3⟩ := sort_good (f := _root_.Go.Proofs.Ytjknpaplgclflaa.R.slices_SortFunc_int64.f) (xs := allL m p W W) (W := W) (fun r hr => (hin r hr).1) (C := fun z0 z1 => (slices_Compare_int64.f z0 z1).map fun z => z) (fun x y hx hy => by
  obtain ⟨c, c1, c2, _⟩ := Compare_ hx hy (by omega)
  exact ⟨c, by show Option.map _ (slices_Compare_int64.f x y) = _; rw [c1]; rfl, c2⟩) (fun H L c' hs ho hl hH => sortAll ho (by omega) hH)
 have e1 : slices_SortFunc_int64.f (allL m p W W) (fun z0 z1 => (slices_Compare_int64.f z0 z1).map fun z => z) = some S := s1
 have hW' : ∀ r ∈ S, r.length = W := fun r hr => (hin r (s3.mem_iff.1 hr)).1
 have hdif : S.Pairwise fun r s => ∃ i : Nat, i < W ∧ rd r (i : Int) ≠ rd s (i : Int) :=
  (s3.pairwise_iff (fun {r s} ⟨i, hi, h⟩ => ⟨i, hi, fun e => h e.symm⟩)).2 (allL_dif m2 hM W (Nat.le_refl _))
 refine ⟨S, ?_, ?_, fun r => ?_, by rw [s3.length_eq]; exact n1⟩
 ·
  rw [spanL m2 m12 hW hM, e1]; rfl
 ·
  refine (s2.and hdif).imp fun {r s} ⟨h, i, hi, hne⟩ => ?_
  rcases Ll.tri W r s with q | q | q
  ·
   exact q
  ·
   exact absurd (q i hi) hne
  ·
   exact absurd q h
 ·
  rw [s3.mem_iff]
  refine ⟨hin r, fun ⟨h1, h2, h3⟩ => ?_⟩
  obtain ⟨y, hy, he⟩ := allL_has m2 hM h1 h2 h3 W (Nat.le_refl _)
  rwa [eq_of_all (W := W) h1 (hin y hy).1 fun i hi => (he i hi).symm]
end Go.Proofs.Ytjknpaplgclflaa.V
namespace Go.Proofs.Ytjknpaplgclflaa.V
open Go Go.RowKit Go.Proofs.Ytjknpaplgclflaa.D Go.Proofs.Ytjknpaplgclflaa.P
structure ExC (g : List (List Int)) (m : Int) (u list r : List Int) : Prop where
 len : r.length = g.length
 ent : AllIn m r
 con : Crs g m u r
 pre : r.take list.length = list
theorem crs_w {g : List (List Int)} (hg : Grp g) {m : Int} {u r : List Int} (hm : Mdl g m u) (ha : AllIn m r) {x y : Int} (x0 : 0 ≤ x) (x1 : x < r.length) (y0 : 0 ≤ y) (y1 : y < r.length) (hr : r.length ≤ g.length) :
  spec_l01Mod.f (wrapI (rd r x + wrapI (rd u x * rd r y))) m = some ((rd r x + rd u x * rd r y) % m) := by
 have m2 := hm.m2; have m12 := hm.m12
 obtain ⟨a0, a1⟩ := ha x x0 x1
 obtain ⟨b0, b1⟩ := ha y y0 y1
 obtain ⟨c0, c1⟩ := small_prod hm x0 (by omega) b0 b1
 rw [w64 (x := rd u x * rd r y) (by omega) (by omega), w64 (x := rd r x + rd u x * rd r y) (by omega) (by omega)]
 exact ModW (by omega) (by omega) (by omega) (by omega)
theorem Search_test {g : List (List Int)} (hg : Grp g) {m : Int} {u : List Int} (hm : Mdl g m u) (k : Nat) (list0 : List Int) {L : Nat} {c : Int} {r2 : List (List Int)} {r3 : List Int} (ha : AllIn m r3) (hL : r3.length = L + 1) (hl : L + 1 ≤ g.length) :
  spec_l05Search.l1 k list0 (L : Int) c true 0 g m u r2 r3 = ite_ (CrP g m u r3 r3.length) ((spec_l05Search.f k g m u r3).bind fun t92 => if r2.length + t92.length ≤ 5864062014805 then (spec_l05Search.l0 k list0 (L : Int) (wrapI (c + 1)) g m u (r2 ++ t92)) else none) (spec_l05Search.l0 k list0 (L : Int) (wrapI (c + 1)) g m u r2) := by
 have n8 := hg.n8
 have m2 := hm.m2; have m12 := hm.m12
 have hlu := hm.len
 have bad1 : ∀ x : Int, spec_l05Search.l1 k list0 (L : Int) c false x g m u r2 r3 = spec_l05Search.l0 k list0 (L : Int) (wrapI (c + 1)) g m u r2 := fun x => by
  rw [spec_l05Search.l1_eq, if_neg (c := (false = true)) (by decide), if_neg (c := (false = true)) (by decide)]
  split <;> rfl
 have bad2 : ∀ x y : Int, spec_l05Search.l2 k list0 (L : Int) c false x y g m u r2 r3 = spec_l05Search.l0 k list0 (L : Int) (wrapI (c + 1)) g m u r2 := fun x y => by
  rw [spec_l05Search.l2_eq, if_neg (c := (false = true)) (by decide), bad1]
  split <;> rfl
 have outer := scan (L + 1) (fun x => spec_l05Search.l1 k list0 (L : Int) c true x g m u r2 r3) (fun x => ∀ y : Int, 0 ≤ y → y < ((L + 1 : Nat) : Int) → T g x y < ((L + 1 : Nat) : Int) → rd r3 (T g x y) = (rd r3 x + rd u x * rd r3 y) % m) (spec_l05Search.l0 k list0 (L : Int) (wrapI (c + 1)) g m u r2) (fun x x0 x1 _ => by
  have rx := hg.row x x0 (by omega)
  have inner := scanI (L + 1) (fun y => spec_l05Search.l2 k list0 (L : Int) c true x y g m u r2 r3) (fun y => T g x y < ((L + 1 : Nat) : Int) → rd r3 (T g x y) = (rd r3 x + rd u x * rd r3 y) % m) (spec_l05Search.l0 k list0 (L : Int) (wrapI (c + 1)) g m u r2) (spec_l05Search.l1 k list0 (L : Int) c true (x + 1) g m u r2 r3) (fun y y0 y1 _ => by
   obtain ⟨t0, t1⟩ := hg.ent x y x0 (by omega) y0 (by omega)
   have ew := crs_w hg hm ha x0 (by omega) y0 (by omega) (by omega)
   refine ⟨fun h => ?_, fun h => ?_⟩
   ·
    by_cases ht : T g x y < ((L + 1 : Nat) : Int)
    ·
     have h := h ht
     rw [spec_l05Search.l2_eq, w64 (x := y + 1) (by omega) (by omega)]
     (with_reducible repeat (first | refine go_pos (by first | assumption | omega | rfl | exact B_pos (by omega)) ?_ | refine go_neg (by first | assumption | omega | decide | exact B_not (by omega)) ?_ | refine go_bind (by first | assumption) ?_ | dsimp only))
     rw [decide_eq_true h]
    ·
     rw [spec_l05Search.l2_eq, w64 (x := y + 1) (by omega) (by omega)]
     clear ew
     ((with_reducible repeat (first | refine go_pos (by first | assumption | omega | rfl | exact B_pos (by omega)) ?_ | refine go_neg (by first | assumption | omega | decide | exact B_not (by omega)) ?_ | refine go_bind (by first | assumption) ?_ | dsimp only)); first | done | (with_reducible rfl) | simp (disch := omega) only [w64] | (show False; done))
   ·
    have ht : T g x y < ((L + 1 : Nat) : Int) := by
     by_cases q : T g x y < ((L + 1 : Nat) : Int)
     ·
      exact q
     ·
      exact absurd (fun k => absurd k q) h
    have h : ¬ rd r3 (T g x y) = (rd r3 x + rd u x * rd r3 y) % m := fun k => h fun _ => k
    rw [spec_l05Search.l2_eq]
    (with_reducible repeat (first | refine go_pos (by first | assumption | omega | rfl | exact B_pos (by omega)) ?_ | refine go_neg (by first | assumption | omega | decide | exact B_not (by omega)) ?_ | refine go_bind (by first | assumption) ?_ | dsimp only))
    rw [decide_eq_false h, bad2]) (fun _ => by
     rw [spec_l05Search.l2_eq, w64 (x := x + 1) (by omega) (by omega)]
     (with_reducible repeat (first | refine go_pos (by first | assumption | omega | rfl | exact B_pos (by omega)) ?_ | refine go_neg (by first | assumption | omega | decide | exact B_not (by omega)) ?_ | refine go_bind (by first | assumption) ?_ | dsimp only)))
  refine ⟨fun h => ?_, fun h => ?_⟩ <;> rw [spec_l05Search.l1_eq] <;> (with_reducible repeat (first | refine go_pos (by first | assumption | omega | rfl | exact B_pos (by omega)) ?_ | refine go_neg (by first | assumption | omega | decide | exact B_not (by omega)) ?_ | refine go_bind (by first | assumption) ?_ | dsimp only))
  ·
   exact inner.1 h
  ·
   exact inner.2 h)
 rcases outer with ⟨h1, h2⟩ | ⟨j, j0, j1, _, h1, _, h2⟩
 ·
  rw [ite_pos (show CrP g m u r3 r3.length from by rw [hL]; exact h1), h2, spec_l05Search.l1_eq]
  (with_reducible repeat (first | refine go_pos (by first | assumption | omega | rfl | exact B_pos (by omega)) ?_ | refine go_neg (by first | assumption | omega | decide | exact B_not (by omega)) ?_ | refine go_bind (by first | assumption) ?_ | dsimp only))
 ·
  rw [ite_neg (show ¬ CrP g m u r3 r3.length from fun q => h1 (by rw [hL] at q; exact q j j0 j1))]
  exact h2
theorem pow_step {a b : Nat} (h : a = b + 1) : (12 : Nat) ^ a = 12 * 12 ^ b := by rw [h, Nat.pow_succ, Nat.mul_comm]
theorem Search_ {g : List (List Int)} (hg : Grp g) {m : Int} {u : List Int} (hm : Mdl g m u) : ∀ (k : Nat) (list : List Int), AllIn m list → list.length ≤ g.length → g.length < list.length + k → CrP g m u list list.length →
  ∃ A, spec_l05Search.f k g m u list = some A ∧ A.Pairwise (fun r s => Ll g.length r s) ∧ (∀ r, r ∈ A ↔ ExC g m u list r) ∧ A.length ≤ 12 ^ (g.length - list.length) := by
 have n8 := hg.n8
 have m2 := hm.m2; have m12 := hm.m12
 intro k
 induction k with
 | zero => intro list _ hl hk _; omega
 | succ k ih =>
  intro list ha hl hk hC
  rw [spec_l05Search.f_eq, spec_l01N.f_eq, Option.bind_some]
  by_cases hN : (list.length : Int) = (g.length : Int)
  ·
   rw [if_pos hN]
   have hN' : list.length = g.length := by omega
   refine ⟨[list], rfl, List.pairwise_singleton _ _, fun r => ?_, by simp [hN']⟩
   rw [List.mem_singleton]
   constructor
   ·
    rintro rfl
    exact ⟨hN', ha, (crP_crs hg).1 (by rw [← hN']; exact hC), List.take_length⟩
   ·
    intro hr
    have := hr.pre
    rw [List.take_of_length_le (by rw [hr.len]; omega)] at this
    exact this
  rw [if_neg hN]
  have hp12 := pow_step (show g.length - list.length = (g.length - (list.length + 1)) + 1 by omega)
  obtain ⟨P, hP⟩ : ∃ P, P = (12 : Nat) ^ (g.length - (list.length + 1)) := ⟨_, rfl⟩
  have hPb : P ≤ 429981696 := by rw [hP]; exact Nat.le_trans (Nat.pow_le_pow_right (by omega) (show g.length - (list.length + 1) ≤ 8 by omega)) (by decide)
  rw [← hP] at hp12
  have up1 : ∀ r' , ExC g m u list r' → ExC g m u (list ++ [rd r' (list.length : Int)]) r' ∧ 0 ≤ rd r' (list.length : Int) ∧ rd r' (list.length : Int) < m := fun r' hr => by
   have rl := hr.len
   obtain ⟨b0, b1⟩ := hr.ent (list.length : Int) (by omega) (by omega)
   refine ⟨⟨hr.len, hr.ent, hr.con, ?_⟩, b0, b1⟩
   rw [List.length_append, List.length_singleton, take_rd (by omega), hr.pre]
  have down : ∀ c r', ExC g m u (list ++ [c]) r' → ExC g m u list r' ∧ rd r' (list.length : Int) = c := fun c r' hr => by
   have hp := hr.pre
   have rl := hr.len
   rw [List.length_append, List.length_singleton, take_rd (by omega)] at hp
   obtain ⟨h1, h2⟩ := List.append_inj' hp rfl
   exact ⟨⟨hr.len, hr.ent, hr.con, h1⟩, by simpa using h2⟩
  have loop : ∀ (n : Nat) (c : Int) (r2 : List (List Int)), 0 ≤ c → c + n = m → r2.Pairwise (fun r s => Ll g.length r s) → (∀ r, r ∈ r2 ↔ ExC g m u list r ∧ rd r (list.length : Int) < c) → r2.length ≤ c.toNat * P →
    ∃ A, spec_l05Search.l0 k list (list.length : Int) c g m u r2 = some A ∧ A.Pairwise (fun r s => Ll g.length r s) ∧ (∀ r, r ∈ A ↔ ExC g m u list r) ∧ A.length ≤ m.toNat * P := by
   intro n
   induction n with
   | zero =>
    intro c r2 c0 hcm h1 h2 h3
    refine ⟨r2, ?_, h1, fun r => ?_, by rw [show m.toNat = c.toNat by omega]; exact h3⟩
    ·
     rw [spec_l05Search.l0_eq, if_neg (by omega)]
    ·
     rw [h2]
     exact ⟨fun h => h.1, fun h => ⟨h, by have := (up1 r h).2.2; omega⟩⟩
   | succ n ihn =>
    intro c r2 c0 hcm h1 h2 h3
    have hO := Own_ list (by omega)
    have l1 : ([c] : List Int).length = 1 := rfl
    have e1 : (list ++ [c]).length = list.length + 1 := by simp
    have ha' := ha.append (allIn_one c0 (show c < m by omega))
    have ht := Search_test hg hm k list (L := list.length) (c := c) (r2 := r2) ha' e1 (by omega)
    have hcP : c.toNat * P ≤ 12 * 429981696 := Nat.mul_le_mul (by omega) hPb
    have wc : wrapI (c + 1) = c + 1 := w64 (by omega) (by omega)
    rw [wc] at ht
    have ec : (c + 1).toNat = c.toNat + 1 := by omega
    by_cases hq : CrP g m u (list ++ [c]) (list ++ [c]).length
    ·
     obtain ⟨A', a1, a2, a3, a4⟩ := ih (list ++ [c]) ha' (by omega) (by omega) hq
     rw [e1, ← hP] at a4
     rw [ite_pos hq, a1, Option.bind_some, if_pos (by omega)] at ht
     obtain ⟨A, b1, b2, b3, b4⟩ := ihn (c + 1) (r2 ++ A') (by omega) (by omega) (by
      rw [List.pairwise_append]
      refine ⟨h1, a2, fun r hr s hs => ?_⟩
      obtain ⟨r1, r3⟩ := (h2 r).1 hr
      obtain ⟨s1, s3⟩ := down c s ((a3 s).1 hs)
      refine ⟨list.length, by omega, fun i hi => ?_, by omega⟩
      rw [← take_rdi r1.pre (i := (i : Int)) (by omega) (by omega), ← take_rdi s1.pre (i := (i : Int)) (by omega) (by omega)]) (fun r => by
      rw [List.mem_append, h2, a3]
      constructor
      ·
       rintro (⟨h, hc⟩ | h)
       ·
        exact ⟨h, by omega⟩
       ·
        obtain ⟨s1, s2⟩ := down c r h
        exact ⟨s1, by omega⟩
      ·
       rintro ⟨h, hc⟩
       by_cases q : rd r (list.length : Int) = c
       ·
        have := (up1 r h).1
        rw [q] at this
        exact .inr this
       ·
        exact .inl ⟨h, by omega⟩) (by rw [List.length_append, ec, Nat.succ_mul]; omega)
     refine ⟨A, ?_, b2, b3, b4⟩
     rw [spec_l05Search.l0_eq, l1, hO, Option.bind_some, ht, if_pos (by omega), if_pos (by omega)]
     exact b1
    ·
     rw [ite_neg hq] at ht
     obtain ⟨A, b1, b2, b3, b4⟩ := ihn (c + 1) r2 (by omega) (by omega) h1 (fun r => by
      rw [h2]
      constructor
      ·
       rintro ⟨h, hc⟩; exact ⟨h, by omega⟩
      ·
       rintro ⟨h, hc⟩
       refine ⟨h, ?_⟩
       by_cases q : rd r (list.length : Int) = c
       ·
        have h5 := (up1 r h).1
        rw [q] at h5
        refine absurd ?_ hq
        exact ((crP_crs hg).2 h5.con).pre (by omega) hg (Nat.le_refl _) fun i i0 i1 => take_rdi h5.pre i0 i1
       ·
        omega) (by rw [ec, Nat.succ_mul]; omega)
     refine ⟨A, ?_, b2, b3, b4⟩
     rw [spec_l05Search.l0_eq, l1, hO, Option.bind_some, ht, if_pos (by omega), if_pos (by omega)]
     exact b1
  obtain ⟨A, a1, a2, a3, a4⟩ := loop m.toNat 0 [] (by omega) (by omega) List.Pairwise.nil (fun r => ⟨fun h => (by cases h), fun ⟨h, hc⟩ => (by have := (up1 r h).2.1; omega)⟩) (by simp)
  refine ⟨A, a1, a2, a3, ?_⟩
  rw [hp12]
  exact Nat.le_trans a4 (Nat.mul_le_mul_right P (by omega))
theorem crossedMaps_ {g : List (List Int)} (hg : Grp g) {m : Int} {u : List Int} (hm : Mdl g m u) : ∃ A, impl_crossedMaps.f g m u = some A ∧ A.Pairwise (fun r s => Ll g.length r s) ∧ (∀ r, r ∈ A ↔ ExC g m u [] r) ∧ A.length ≤ 429981696 := by
 have n8 := hg.n8; have n1 := hg.n1
 have m2 := hm.m2; have m12 := hm.m12
 obtain ⟨b1, b2⟩ := nA_bd hg (e := 1) (by omega)
 have hN1 : (nB g 1 : Int) = g.length - 1 := by rw [b2]; show ((g.length : Int) - 1) ^ 1 = _; rw [Int.pow_succ, Int.pow_zero]; omega
 obtain ⟨q, q1, q2⟩ := cocycles_ hg hm (n := 1) (by omega)
 obtain ⟨S, s1, s2, s3, s4⟩ := spanAll m2 m12 (show nB g 1 ≤ 8 by omega) q2
 have hb : S.length ≤ 429981696 := Nat.le_trans s4 (Nat.le_trans (Nat.pow_le_pow_right (by omega) (show nB g 1 ≤ 8 by omega)) (by decide))
 refine ⟨S.map (0 :: ·), ?_, ?_, fun r => ?_, by rw [List.length_map]; exact hb⟩
 ·
  have main := up S.length (fun j => impl_crossedMaps.l0 S (S.length : Int) (j : Int) ((S.take j).map (0 :: ·))) (fun j hj => by
   have hx : row S (j : Int) = S[j] := row_get hj
   have hxl : S[j].length = nB g 1 := ((s3 _).1 (List.getElem_mem hj)).1
   have hc := concat2 (a := [0]) (b := S[j]) (by simp) (by omega)
   have l1 : ((S.take j).map (0 :: · : List Int → List Int)).length = j := by rw [List.length_map, List.length_take]; omega
   have l2 : ∀ x : List Int, ([x] : List (List Int)).length = 1 := fun _ => rfl
   rw [List.take_succ_eq_append_getElem hj, List.map_append, List.map_singleton, impl_crossedMaps.l0_eq, hx, hc, Option.bind_some, l1, l2, wn (j := j) (by omega)]
   (with_reducible repeat (first | refine go_pos (by first | assumption | omega | rfl | exact B_pos (by omega)) ?_ | refine go_neg (by first | assumption | omega | decide | exact B_not (by omega)) ?_ | refine go_bind (by first | assumption) ?_ | dsimp only))
   rfl)
  simp only [Int.natCast_zero, List.take_zero, List.map_nil, List.take_length] at main
  have q1' : impl_cocycles.f g m u 1 = some (m, q) := q1
  rw [impl_crossedMaps.f_eq, q1', Option.bind_some, s1, Option.bind_some]
  show impl_crossedMaps.l0 S (S.length : Int) 0 [] = _
  rw [main, impl_crossedMaps.l0_eq, if_neg (by omega)]
 ·
  rw [List.pairwise_map]
  refine s2.imp fun {r s} ⟨j, hj, h1, h2⟩ => ⟨j + 1, by omega, fun i hi => ?_, ?_⟩
  ·
   cases i with
   | zero => rfl
   | succ i => exact h1 i (by omega)
  ·
   exact h2
 ·
  rw [List.mem_map]
  constructor
  ·
   rintro ⟨h, hh, rfl⟩
   obtain ⟨h1, h2, h3⟩ := (s3 h).1 hh
   refine ⟨by rw [List.length_cons]; omega, allIn_of fun z hz => ?_, (coM_crs hg hm h1 h2).1 h3, by simp⟩
   rcases List.mem_cons.1 hz with rfl | hz
   ·
    omega
   ·
    exact h2.mem hz
  ·
   intro hr
   have rl := hr.len
   have h0 := hr.con 0 (by omega) (by omega) 0 (by omega) (by omega)
   rw [hg.one 0 (by omega) (by omega), hm.one hg, Int.one_mul] at h0
   obtain ⟨a0, a1⟩ := hr.ent 0 (by omega) (by omega)
   cases r with
   | nil => simp at rl; omega
   | cons z h =>
    have e : rd (z :: h) 0 = z := rfl
    rw [e] at h0 a0 a1
    have hz : z = 0 := by
     have := Int.emod_emod_of_dvd (z + z) (Int.dvd_refl m)
     have h3 : m ∣ (z + z) - z := Int.dvd_of_emod_eq_zero (Int.emod_eq_emod_iff_emod_sub_eq_zero.1 (by rw [← h0, Int.emod_eq_of_lt a0 a1]))
     rw [show z + z - z = z by omega] at h3
     have := Int.emod_eq_zero_of_dvd h3
     rwa [Int.emod_eq_of_lt a0 a1] at this
    subst hz
    rw [List.length_cons] at rl
    have hin : AllIn m h := allIn_of fun x hx => hr.ent.mem (List.mem_cons_of_mem _ hx)
    exact ⟨h, (s3 h).2 ⟨by omega, hin, (coM_crs hg hm (by omega) hin).2 hr.con⟩, rfl⟩
theorem crossedAll {g : List (List Int)} (hg : Grp g) {m : Int} {u : List Int} (hm : Mdl g m u) : ∃ A, impl_crossedMaps.f g m u = some A ∧ spec_l05Search.f fuel g m u [] = some A ∧ A.Pairwise (fun r s => Ll g.length r s) ∧ (∀ r, r ∈ A ↔ ExC g m u [] r) ∧ A.length ≤ 429981696 := by
 have n8 := hg.n8
 obtain ⟨A, a1, a2, a3, a4⟩ := crossedMaps_ hg hm
 obtain ⟨A', b1, b2, b3, _⟩ := Search_ hg hm fuel [] (allIn_of fun x hx => by cases hx) (by simp) (by rw [fuel_eq]; simp; omega) (fun x x0 x1 => by simp at x1; omega)
 obtain rfl : A = A' := strict_uniq (fun r => (a3 r).trans (b3 r).symm) a2 b2
 exact ⟨A, a1, b1, a2, a3, a4⟩
end Go.Proofs.Ytjknpaplgclflaa.V
namespace Go.Proofs.Ytjknpaplgclflaa.V
open Go Go.RowKit Go.Proofs.Ytjknpaplgclflaa.D Go.Proofs.Ytjknpaplgclflaa.P
noncomputable def kx (E : Nat → Prop) : Nat → List Nat
 | 0 => []
 | n + 1 => ite_ (E n) (kx E n) (kx E n ++ [n])
theorem kx_pos {E : Nat → Prop} {n : Nat} (h : E n) : kx E (n + 1) = kx E n := by
 conv => lhs; unfold kx
 rw [ite_pos h]
theorem kx_neg {E : Nat → Prop} {n : Nat} (h : ¬ E n) : kx E (n + 1) = kx E n ++ [n] := by
 conv => lhs; unfold kx
 rw [ite_neg h]
theorem kx_lt (E : Nat → Prop) : ∀ n, ∀ i ∈ kx E n, i < n := by
 intro n
 induction n with
 | zero => simp [kx]
 | succ n ih =>
  intro i hi
  by_cases h : E n
  ·
   rw [kx_pos h] at hi; have := ih i hi; omega
  ·
   rw [kx_neg h] at hi
   rcases List.mem_append.1 hi with hi | hi
   ·
    have := ih i hi; omega
   ·
    rw [List.mem_singleton.1 hi]; omega
theorem kx_nodup (E : Nat → Prop) : ∀ n, (kx E n).Nodup := by
 intro n
 induction n with
 | zero => simp [kx]
 | succ n ih =>
  by_cases h : E n
  ·
   rw [kx_pos h]; exact ih
  ·
   rw [kx_neg h, List.nodup_append]
   refine ⟨ih, by simp, fun a ha b hb => ?_⟩
   rw [List.mem_singleton.1 hb]
   have := kx_lt E n a ha
   omega
theorem kx_all {E : Nat → Prop} : ∀ n, (∀ i, i < n → ¬ E i) → kx E n = List.range n := by
 intro n
 induction n with
 | zero => intro _; rfl
 | succ n ih => intro h; rw [kx_neg (h n (by omega)), ih fun i hi => h i (by omega), List.range_succ]
theorem all_hd {xs : List Value} : ∀ k, k ≤ xs.length → (List.range k).map (hd xs) = xs.take k := by
 intro k
 induction k with
 | zero => intro _; simp
 | succ k ih => intro hk; rw [List.range_succ, List.map_append, ih (by omega), hd_take (by omega)]; rfl
theorem indexR {Q : Value → Option Bool} {xs : List Value} {E : Nat → Prop} (hQ : ∀ i, i < xs.length → Q (hd xs i) = some (B (E i))) (hN : xs.length ≤ 1000000000) : ∀ (n k : Nat), k + n = xs.length → (∀ i, i < k → ¬ E i) →
  (∃ i, i < xs.length ∧ E i ∧ (∀ j, j < i → ¬ E j) ∧ _root_.Go.Proofs.Ytjknpaplgclflaa.R.slices_IndexFunc_int64.l0 xs Q (xs.length : Int) (k : Int) = some (i : Int)) ∨ ((∀ i, i < xs.length → ¬ E i) ∧ _root_.Go.Proofs.Ytjknpaplgclflaa.R.slices_IndexFunc_int64.l0 xs Q (xs.length : Int) (k : Int) = some (-1)) := by
 intro n
 induction n with
 | zero =>
  intro k hk h
  refine .inr ⟨fun i hi => h i (by omega), ?_⟩
  rw [_root_.Go.Proofs.Ytjknpaplgclflaa.R.slices_IndexFunc_int64.l0_eq, if_neg (by omega)]
 | succ n ih =>
  intro k hk h
  have hq := hQ k (by omega)
  have r1 : Ty.rd .raw xs (k : Int) = hd xs k := rdR _
  rw [_root_.Go.Proofs.Ytjknpaplgclflaa.R.slices_IndexFunc_int64.l0_eq, r1, wn (j := k) (by omega), hq, if_pos (by omega), if_pos (by omega), if_pos (by omega), Option.bind_some]
  by_cases e : E k
  ·
   rw [B_pos e, if_pos rfl]
   exact .inl ⟨k, by omega, e, h, rfl⟩
  ·
   rw [B_neg e, if_neg (by decide)]
   exact ih (k + 1) (by omega) fun i hi => by
    by_cases q : i = k
    ·
     rw [q]; exact e
    ·
     exact h i (by omega)
theorem deleteR {Q : Value → Option Bool} {xs : List Value} {E : Nat → Prop} (hQ : ∀ i, i < xs.length → Q (hd xs i) = some (B (E i))) (hN : xs.length ≤ 1000000000) : _root_.Go.Proofs.Ytjknpaplgclflaa.R.slices_DeleteFunc_int64.f xs Q = some ((kx E xs.length).map (hd xs)) := by
 have loop : ∀ (n k : Nat) (r : List Value), k + n = xs.length → 0 < xs.length → r.length = xs.length → (kx E k).length < k → r.take (kx E k).length = (kx E k).map (hd xs) → (∀ i : Nat, k ≤ i → i < xs.length → hd r i = hd xs i) →
   _root_.Go.Proofs.Ytjknpaplgclflaa.R.slices_DeleteFunc_int64.l0 Q (((kx E k).length : Nat) : Int) (k : Int) r = some ((kx E xs.length).map (hd xs)) := by
  intro n
  induction n with
  | zero =>
   intro k r hk h0 hr hc ht hs
   have e : k = xs.length := by omega
   have tl : (r.take (kx E k).length ++ List.replicate (r.length - (kx E k).length) (Value.slice none 0 0)).length = r.length := by
    rw [List.length_append, List.length_take, List.length_replicate]; omega
   rw [_root_.Go.Proofs.Ytjknpaplgclflaa.R.slices_DeleteFunc_int64.l0_eq, Int.toNat_natCast]
   (with_reducible repeat (first | refine go_pos (by first | assumption | omega | rfl | exact B_pos (by omega)) ?_ | refine go_neg (by first | assumption | omega | decide | exact B_not (by omega)) ?_ | refine go_bind (by first | assumption) ?_ | dsimp only))
   rw [List.take_append_of_le_length (by rw [List.length_take]; omega), List.take_take, Nat.min_self, ht, e]
  | succ n ih =>
   intro k r hk h0 hr hc ht hs
   have r1 : Ty.rd .raw r (k : Int) = hd xs k := (rdR _).trans (hs k (Nat.le_refl _) (by omega))
   have hq := hQ k (by omega)
   by_cases h : E k
   ·
    rw [B_pos h] at hq
    have ec : kx E (k + 1) = kx E k := kx_pos h
    have := ih (k + 1) r (by omega) h0 hr (by rw [ec]; omega) (by rw [ec]; exact ht) (fun i hi => hs i (by omega))
    rw [ec] at this
    rw [_root_.Go.Proofs.Ytjknpaplgclflaa.R.slices_DeleteFunc_int64.l0_eq, wn (j := k) (by omega), r1]
    (with_reducible repeat (first | refine go_pos (by first | assumption | omega | rfl | exact B_pos (by omega)) ?_ | refine go_neg (by first | assumption | omega | decide | exact B_not (by omega)) ?_ | refine go_bind (by first | assumption) ?_ | dsimp only))
    exact this
   ·
    rw [B_neg h] at hq
    have ec : kx E (k + 1) = kx E k ++ [k] := kx_neg h
    have el : (kx E (k + 1)).length = (kx E k).length + 1 := by rw [ec, List.length_append, List.length_singleton]
    have := ih (k + 1) (r.set (kx E k).length (hd xs k)) (by omega) h0 (by rw [List.length_set]; exact hr) (by omega) (by
     rw [el, List.take_succ_eq_append_getElem (by rw [List.length_set]; omega), List.take_set_of_le (Nat.le_refl _), ht, ec]
     simp) (fun i hi hi2 => by rw [hd_set_ne (by omega)]; exact hs i (by omega) hi2)
    rw [el] at this
    rw [_root_.Go.Proofs.Ytjknpaplgclflaa.R.slices_DeleteFunc_int64.l0_eq, wn (j := k) (by omega), wn (j := (kx E k).length) (by omega), r1, Int.toNat_natCast]
    (with_reducible repeat (first | refine go_pos (by first | assumption | omega | rfl | exact B_pos (by omega)) ?_ | refine go_neg (by first | assumption | omega | decide | exact B_not (by omega)) ?_ | refine go_bind (by first | assumption) ?_ | dsimp only))
    exact this
 have hm : (fun z0 => (Q z0).map fun z => z) = Q := by funext a; cases Q a <;> rfl
 rw [_root_.Go.Proofs.Ytjknpaplgclflaa.R.slices_DeleteFunc_int64.f_eq, _root_.Go.Proofs.Ytjknpaplgclflaa.R.slices_IndexFunc_int64.f_eq, hm]
 rcases indexR hQ hN xs.length 0 (by omega) (fun i hi => by omega) with ⟨i, i1, i2, i3, i4⟩ | ⟨h, i4⟩
 ·
  have hk : kx E (i + 1) = List.range i := by rw [kx_pos i2, kx_all i i3]
  have hkl : (kx E (i + 1)).length = i := by rw [hk, List.length_range]
  have := loop (xs.length - (i + 1)) (i + 1) xs (by omega) (by omega) rfl (by omega) (by rw [hkl, hk, all_hd _ (by omega)]) (fun _ _ _ => rfl)
  rw [hkl] at this
  rw [show (0 : Int) = ((0 : Nat) : Int) from rfl, i4, Option.bind_some, if_neg (by omega), wn (j := i) (by omega)]
  exact this
 ·
  rw [show (0 : Int) = ((0 : Nat) : Int) from rfl, i4, Option.bind_some, if_pos rfl, kx_all _ h, all_hd _ (Nat.le_refl _), List.take_length]
theorem kx_filter {xs : List (List Int)} {p : List Int → Bool} : ∀ n, n ≤ xs.length → (kx (fun i => p (ct xs i) = true) n).map (ct xs) = (xs.take n).filter fun x => !p x := by
 intro n
 induction n with
 | zero => intro _; simp [kx]
 | succ n ih =>
  intro hn
  have ht : xs.take (n + 1) = xs.take n ++ [ct xs n] := by
   rw [List.take_add_one, ct_get (by omega)]; rfl
  rw [ht, List.filter_append, ← ih (by omega)]
  by_cases h : p (ct xs n) = true
  ·
   rw [kx_pos h]; simp [h]
  ·
   rw [kx_neg h]; simp [h]
theorem delete_good {xs : List (List Int)} (hN : xs.length ≤ 1000000000) {Q : List Int → Option Bool} {p : List Int → Bool} (hQ : ∀ x ∈ xs, Q x = some (p x)) :
  G1 _root_.Go.Proofs.Ytjknpaplgclflaa.R.slices_DeleteFunc_int64.f xs Q = some (xs.filter fun x => !p x) := by
 refine G1_eq fun hs c' hl hc => ?_
 have := deleteR (Q := c') (xs := hs) (E := fun i => p (ct xs i) = true) (fun i hi => by
  rw [hc i (by omega), hQ _ (List.mem_of_getElem? (ct_get (by omega)))]
  congr 1
  cases h : p (ct xs i) with
  | true => rw [B_pos (show true = true from rfl)]
  | false => rw [B_neg (show ¬ false = true by decide)]) (by omega)
 rw [hl] at this
 have hf := kx_filter (xs := xs) (p := p) xs.length (Nat.le_refl _)
 rw [List.take_length] at hf
 exact ⟨_, this, kx _ xs.length, kx_nodup _ _, kx_lt _ _, rfl, hf.symm⟩
end Go.Proofs.Ytjknpaplgclflaa.V
namespace Go.Proofs.Ytjknpaplgclflaa.P
open Go Go.RowKit Go.Proofs.Ytjknpaplgclflaa.D
end Go.Proofs.Ytjknpaplgclflaa.P
namespace Go.Proofs.Ytjknpaplgclflaa.P
open Go Go.RowKit Go.Proofs.Ytjknpaplgclflaa.D
end Go.Proofs.Ytjknpaplgclflaa.P
namespace Go.Proofs.Ytjknpaplgclflaa.V
open Go.RowKit Go.Proofs.Ytjknpaplgclflaa.D Go.Proofs.Ytjknpaplgclflaa.P
def prm (m : Int) (u : List Int) (a : Int) : List Int := u.map fun x => (x * a - a) % m
theorem prm_len (m : Int) (u : List Int) (a : Int) : (prm m u a).length = u.length := by simp [prm]
theorem prm_rd {m : Int} {u : List Int} {a : Int} {i : Nat} (h : i < u.length) : rd (prm m u a) (i : Int) = (rd u (i : Int) * a - a) % m := by
 rw [rd_get (by rw [prm_len]; exact h), rd_get h]; simp [prm]
theorem prm_in {m : Int} (m0 : 0 < m) (u : List Int) (a : Int) : AllIn m (prm m u a) := allIn_of fun x hx => by
 obtain ⟨y, _, rfl⟩ := List.mem_map.1 hx
 exact ⟨Int.emod_nonneg _ (by omega), Int.emod_lt_of_pos _ m0⟩
def adm (m : Int) (v w : List Int) : List Int := (List.range v.length).map fun i : Nat => (rd v (i : Int) + rd w (i : Int)) % m
theorem adm_len (m : Int) (v w : List Int) : (adm m v w).length = v.length := by simp [adm]
theorem adm_rd {m : Int} {v w : List Int} {i : Nat} (h : i < v.length) : rd (adm m v w) (i : Int) = (rd v (i : Int) + rd w (i : Int)) % m := by
 rw [rd_get (by rw [adm_len]; exact h)]; simp [adm]
theorem principalMap_ {g : List (List Int)} {m : Int} {u : List Int} (hg : Grp g) (hm : Mdl g m u) {a : Int} (a0 : 0 ≤ a) (a1 : a < m) : impl_principalMap.f m u a = some (prm m u a) := by
 have n8 := hg.n8; have m2 := hm.m2; have m12 := hm.m12; have hlu := hm.len
 rw [impl_principalMap.f_eq]
 have := mapped (F := fun z0 => (impl_principalMap_1.f z0 a m u).map fun z => z) (G := fun x => (x * a - a) % m) u (by omega) (fun x hx => by
  obtain ⟨i, i0, i1, rfl⟩ : ∃ i : Int, 0 ≤ i ∧ i < u.length ∧ rd u i = x := by
   obtain ⟨i, hi, rfl⟩ := List.mem_iff_getElem.1 hx
   exact ⟨i, by omega, by omega, rd_get hi⟩
  have hs := small_prod hm i0 (by omega) a0 a1
  show Option.map _ (impl_principalMap_1.f (rd u i) a m u) = _
  rw [impl_principalMap_1.f_eq, if_neg (by omega), w64 (x := rd u i * a) (by omega) (by omega), w64 (x := rd u i * a + m) (by omega) (by omega), w64 (by omega) (by omega), tmod_nn (by omega), show rd u i * a + m - a = rd u i * a - a + m by omega, Int.add_emod_right]
  rfl)
 rw [this]
 rfl
theorem Principal_ {g : List (List Int)} {m : Int} {u : List Int} (hg : Grp g) (hm : Mdl g m u) {a : Int} (a0 : 0 ≤ a) (a1 : a < m) : spec_l05Principal.f g m u a = some (prm m u a) := by
 have n8 := hg.n8; have m2 := hm.m2; have m12 := hm.m12; have hlu := hm.len
 rw [spec_l05Principal.f_eq]
 have := up g.length (fun j => spec_l05Principal.l0 a (j : Int) g m u ((u.take j).map fun x => (x * a - a) % m)) (fun j h => by
  have l1 : ((u.take j).map fun x => (x * a - a) % m).length = j := by rw [List.length_map, List.length_take]; omega
  have l2 : ∀ x : Int, ([x] : List Int).length = 1 := fun _ => rfl
  have hs := small_prod hm (x := (j : Int)) (by omega) (by omega) a0 a1
  have hmod := Mod_ (a := rd u (j : Int) * a - a) (m := m) (by omega) (by omega) (by omega) (by omega)
  rw [take_rd (by omega), List.map_append, List.map_singleton, spec_l05Principal.l0_eq, spec_l01N.f_eq, Option.bind_some, wn (j := j) (by omega), w64 (x := rd u (j : Int) * a) (by omega) (by omega), w64 (x := rd u (j : Int) * a - a) (by omega) (by omega), hmod, Option.bind_some, l1, l2]
  ((with_reducible repeat (first | refine go_pos (by first | assumption | omega | rfl | exact B_pos (by omega)) ?_ | refine go_neg (by first | assumption | omega | decide | exact B_not (by omega)) ?_ | refine go_bind (by first | assumption) ?_ | dsimp only)); first | done | (with_reducible rfl) | simp (disch := omega) only [w64] | (show False; done)))
 have e : (u.take g.length).map (fun x => (x * a - a) % m) = prm m u a := by rw [List.take_of_length_le (by omega)]; rfl
 simp only [Int.natCast_zero, List.take_zero, List.map_nil, e] at this
 rw [this, spec_l05Principal.l0_eq, spec_l01N.f_eq, Option.bind_some]
 ((with_reducible repeat (first | refine go_pos (by first | assumption | omega | rfl | exact B_pos (by omega)) ?_ | refine go_neg (by first | assumption | omega | decide | exact B_not (by omega)) ?_ | refine go_bind (by first | assumption) ?_ | dsimp only)); first | done | (with_reducible rfl) | simp (disch := omega) only [w64] | (show False; done))
end Go.Proofs.Ytjknpaplgclflaa.V
namespace Go.Proofs.Ytjknpaplgclflaa.V
open Go.RowKit Go.Proofs.Ytjknpaplgclflaa.D Go.Proofs.Ytjknpaplgclflaa.P
theorem principalMapsD {g : List (List Int)} {m : Int} {u : List Int} (hg : Grp g) (hm : Mdl g m u) : ∃ Ps, impl_principalMaps.f m u = some Ps ∧ Ps.Pairwise (fun r s => Ll g.length r s) ∧ (∀ r, r ∈ Ps ↔ ∃ a : Nat, (a : Int) < m ∧ r = prm m u (a : Int)) ∧ 0 < Ps.length ∧ Ps.length ≤ 12 := by
 have n8 := hg.n8; have m2 := hm.m2; have m12 := hm.m12; have hlu := hm.len
 obtain ⟨M, hM⟩ : ∃ M : Nat, m = (M : Int) := Int.eq_ofNat_of_zero_le (by omega)
 obtain ⟨xs, hxs⟩ : ∃ xs : List (List Int), xs = (List.range M).map fun a : Nat => prm m u (a : Int) := ⟨_, rfl⟩
 have hxl : xs.length = M := by rw [hxs]; simp
 have hmem : ∀ r, r ∈ xs ↔ ∃ a : Nat, (a : Int) < m ∧ r = prm m u (a : Int) := fun r => by
  rw [hxs, List.mem_map]
  constructor
  ·
   rintro ⟨a, ha, rfl⟩; exact ⟨a, by have := List.mem_range.1 ha; omega, rfl⟩
  ·
   rintro ⟨a, ha, rfl⟩; exact ⟨a, List.mem_range.2 (by omega), rfl⟩
 have hW : ∀ r ∈ xs, r.length = g.length := fun r hr => by
  obtain ⟨a, _, rfl⟩ := (hmem r).1 hr
  rw [prm_len, hlu]
 obtain ⟨S, s1, s2, s3⟩ := sort_good (f := _root_.Go.Proofs.Ytjknpaplgclflaa.R.slices_SortFunc_int64.f) hW (C := fun z0 z1 => (slices_Compare_int64.f z0 z1).map fun z => z) (fun x y hx hy => by
  obtain ⟨c, c1, c2, _⟩ := Compare_ hx hy (by omega)
  exact ⟨c, by show Option.map _ (slices_Compare_int64.f x y) = _; rw [c1]; rfl, c2⟩) (fun H L c' hs ho hl hH => sort12 ho (by omega) hH)
 have hSW : ∀ r ∈ S, r.length = g.length := fun r hr => hW r (s3.mem_iff.1 hr)
 have hSl : S.length = M := by rw [s3.length_eq, hxl]
 have hc := compact_good (xs := S) (by omega) (Q := fun z0 z1 => (slices_Equal_int64.f z0 z1).map fun z => z) (fun x hx y hy => by
  show Option.map _ (slices_Equal_int64.f x y) = _
  rw [Equal_ _ _ (by rw [hSW x hx]; omega)]; rfl)
 have hlen := cix_len (fun n => ct S n = ct S (n - 1)) S.length
 refine ⟨_, ?_, cix_sorted hSW s2 S.length (Nat.le_refl _), fun r => ?_, by rw [List.length_map]; exact hlen.2 (by omega), by rw [List.length_map]; omega⟩
 ·
  rw [impl_principalMaps.f_eq]
  have := up M (fun j => impl_principalMaps.l0 m (j : Int) m u ((List.range j).map fun a : Nat => prm m u (a : Int))) (fun j h => by
   have l1 : ((List.range j).map fun a : Nat => prm m u (a : Int)).length = j := by simp
   have l2 : ∀ x : List Int, ([x] : List (List Int)).length = 1 := fun _ => rfl
   have hp := principalMap_ hg hm (a := (j : Int)) (by omega) (by omega)
   rw [List.range_succ, List.map_append, List.map_singleton, impl_principalMaps.l0_eq, wn (j := j) (by omega), hp, Option.bind_some, l1, l2]
   ((with_reducible repeat (first | refine go_pos (by first | assumption | omega | rfl | exact B_pos (by omega)) ?_ | refine go_neg (by first | assumption | omega | decide | exact B_not (by omega)) ?_ | refine go_bind (by first | assumption) ?_ | dsimp only)); first | done | (with_reducible rfl) | simp (disch := omega) only [w64] | (show False; done)))
  simp only [Int.natCast_zero, List.range_zero, List.map_nil, ← hxs] at this
  have e1 : slices_SortFunc_int64.f xs (fun z0 z1 => (slices_Compare_int64.f z0 z1).map fun z => z) = some S := s1
  have e2 : slices_CompactFunc_int64.f S (fun z0 z1 => (slices_Equal_int64.f z0 z1).map fun z => z) = some _ := hc
  rw [this, impl_principalMaps.l0_eq, if_neg (by omega), e1, Option.bind_some, e2, Option.bind_some]
 ·
  rw [cix_mem r S.length (Nat.le_refl _), ← hmem, ← s3.mem_iff]
  constructor
  ·
   rintro ⟨i, hi, rfl⟩; exact List.mem_of_getElem? (ct_get hi)
  ·
   intro h
   obtain ⟨i, hi, rfl⟩ := List.getElem_of_mem h
   exact ⟨i, hi, Option.some.inj ((List.getElem?_eq_getElem hi).symm.trans (ct_get hi))⟩
end Go.Proofs.Ytjknpaplgclflaa.V
namespace Go.Proofs.Ytjknpaplgclflaa.V
open Go.RowKit Go.Proofs.Ytjknpaplgclflaa.D Go.Proofs.Ytjknpaplgclflaa.P
def Cand (m : Int) (u l r : List Int) : Prop := ∃ a : Nat, (a : Int) < m ∧ r = adm m l (prm m u (a : Int))
def BestC (m : Int) (u l r : List Int) : Prop := Cand m u l r ∧ ∀ s, Cand m u l s → ¬ Ll l.length s r
theorem BestC.uniq {m : Int} {u l r s : List Int} (h : BestC m u l r) (k : BestC m u l s) : r = s := by
 obtain ⟨a, _, ha⟩ := h.1
 obtain ⟨b, _, hb⟩ := k.1
 have lr : r.length = l.length := by rw [ha, adm_len]
 have ls : s.length = l.length := by rw [hb, adm_len]
 rcases Ll.tri l.length r s with q | q | q
 ·
  exact absurd q (k.2 r h.1)
 ·
  exact eq_of_all lr ls q
 ·
  exact absurd q (h.2 s k.1)
theorem adm_step {m : Int} {v w : List Int} {j : Nat} : (List.range (j + 1)).map (fun i : Nat => (rd v (i : Int) + rd w (i : Int)) % m) = (List.range j).map (fun i : Nat => (rd v (i : Int) + rd w (i : Int)) % m) ++ [(rd v (j : Int) + rd w (j : Int)) % m] := by
 rw [List.range_succ, List.map_append, List.map_singleton]
theorem classOf_ {g : List (List Int)} {m : Int} {u l : List Int} (hg : Grp g) (hm : Mdl g m u) (hn : Nums g m l) {Ps : List (List Int)} (h0 : 0 < Ps.length) (h12 : Ps.length ≤ 12) (hP : ∀ r, r ∈ Ps ↔ ∃ a : Nat, (a : Int) < m ∧ r = prm m u (a : Int)) : ∃ r, impl_classOf.f m u l Ps = some r ∧ BestC m u l r := by
 have n8 := hg.n8; have n1 := hg.n1; have m2 := hm.m2; have m12 := hm.m12; have hlu := hm.len; have hll := hn.1; have hla := hn.2
 have hrow : ∀ j : Nat, j < Ps.length → AllIn m (row Ps (j : Int)) ∧ (row Ps (j : Int)).length = l.length ∧ Cand m u l (adm m l (row Ps (j : Int))) := fun j hj => by
  obtain ⟨a, ha, e⟩ := (hP _).1 (row_mem (show (0 : Int) ≤ j by omega) (show (j : Int) < Ps.length by omega))
  exact ⟨by rw [e]; exact prm_in (by omega) _ _, by rw [e, prm_len]; omega, ⟨a, ha, by rw [e]⟩⟩
 have l2' : ∀ x : Int, ([x] : List Int).length = 1 := fun _ => rfl
 have inner1 : ∀ j : Nat, j < Ps.length → impl_classOf.l1 l (row Ps (j : Int)) Ps (Ps.length : Int) (j : Int) l (l.length : Int) 0 m u [] = impl_classOf.l2 l Ps (Ps.length : Int) ((j + 1 : Nat) : Int) m u (adm m l (row Ps (j : Int))) := fun j hj => by
  obtain ⟨pa, pl, _⟩ := hrow j hj
  have := up l.length (fun i => impl_classOf.l1 l (row Ps (j : Int)) Ps (Ps.length : Int) (j : Int) l (l.length : Int) (i : Int) m u ((List.range i).map fun i : Nat => (rd l (i : Int) + rd (row Ps (j : Int)) (i : Int)) % m)) (fun i hi => by
   have l1 : ((List.range i).map fun i : Nat => (rd l (i : Int) + rd (row Ps (j : Int)) (i : Int)) % m).length = i := by simp
   have a := hla (i : Int) (by omega) (by omega)
   have b := pa (i : Int) (by omega) (by omega)
   rw [adm_step, impl_classOf.l1_eq, wn (j := i) (by omega), w64 (x := rd l (i : Int) + rd (row Ps (j : Int)) (i : Int)) (by omega) (by omega), tmod_nn (show 0 ≤ rd l (i : Int) + rd (row Ps (j : Int)) (i : Int) by omega), l1, l2']
   clear a b
   ((with_reducible repeat (first | refine go_pos (by first | assumption | omega | rfl | exact B_pos (by omega)) ?_ | refine go_neg (by first | assumption | omega | decide | exact B_not (by omega)) ?_ | refine go_bind (by first | assumption) ?_ | dsimp only)); first | done | (with_reducible rfl) | simp (disch := omega) only [w64] | (show False; done)))
  simp only [Int.natCast_zero, List.range_zero, List.map_nil] at this
  rw [this, impl_classOf.l1_eq, wn (j := j) (by omega), if_neg (by omega)]
  rfl
 have inner3 : ∀ (j : Nat) (r1 : List Int), j < Ps.length → r1.length = l.length → (Ll l.length (adm m l (row Ps (j : Int))) r1 → impl_classOf.l3 l (row Ps (j : Int)) Ps (Ps.length : Int) (j : Int) l (l.length : Int) 0 m u r1 [] = impl_classOf.l2 l Ps (Ps.length : Int) ((j + 1 : Nat) : Int) m u (adm m l (row Ps (j : Int)))) ∧ (¬ Ll l.length (adm m l (row Ps (j : Int))) r1 → impl_classOf.l3 l (row Ps (j : Int)) Ps (Ps.length : Int) (j : Int) l (l.length : Int) 0 m u r1 [] = impl_classOf.l2 l Ps (Ps.length : Int) ((j + 1 : Nat) : Int) m u r1) := fun j r1 hj hr1 => by
  obtain ⟨pa, pl, _⟩ := hrow j hj
  have := up l.length (fun i => impl_classOf.l3 l (row Ps (j : Int)) Ps (Ps.length : Int) (j : Int) l (l.length : Int) (i : Int) m u r1 ((List.range i).map fun i : Nat => (rd l (i : Int) + rd (row Ps (j : Int)) (i : Int)) % m)) (fun i hi => by
   have l1 : ((List.range i).map fun i : Nat => (rd l (i : Int) + rd (row Ps (j : Int)) (i : Int)) % m).length = i := by simp
   have a := hla (i : Int) (by omega) (by omega)
   have b := pa (i : Int) (by omega) (by omega)
   rw [adm_step, impl_classOf.l3_eq, wn (j := i) (by omega), w64 (x := rd l (i : Int) + rd (row Ps (j : Int)) (i : Int)) (by omega) (by omega), tmod_nn (show 0 ≤ rd l (i : Int) + rd (row Ps (j : Int)) (i : Int) by omega), l1, l2']
   clear a b
   ((with_reducible repeat (first | refine go_pos (by first | assumption | omega | rfl | exact B_pos (by omega)) ?_ | refine go_neg (by first | assumption | omega | decide | exact B_not (by omega)) ?_ | refine go_bind (by first | assumption) ?_ | dsimp only)); first | done | (with_reducible rfl) | simp (disch := omega) only [w64] | (show False; done)))
  simp only [Int.natCast_zero, List.range_zero, List.map_nil] at this
  have e : (List.range l.length).map (fun i : Nat => (rd l (i : Int) + rd (row Ps (j : Int)) (i : Int)) % m) = adm m l (row Ps (j : Int)) := rfl
  obtain ⟨c, c1, c2, _⟩ := Compare_ (x := adm m l (row Ps (j : Int))) (y := r1) (W := l.length) (adm_len _ _ _) hr1 (by omega)
  rw [this, impl_classOf.l3_eq, wn (j := j) (by omega), if_neg (by omega), e, if_pos (by omega), c1, Option.bind_some]
  exact ⟨fun h => if_pos (c2.2 h), fun h => if_neg fun k => h (c2.1 k)⟩
 have outer : ∀ (n j : Nat) (r1 : List Int), j + n = Ps.length → 0 < j → Cand m u l r1 → (∀ i : Nat, i < j → ¬ Ll l.length (adm m l (row Ps (i : Int))) r1) → ∃ r, impl_classOf.l2 l Ps (Ps.length : Int) (j : Int) m u r1 = some r ∧ Cand m u l r ∧ ∀ i : Nat, i < Ps.length → ¬ Ll l.length (adm m l (row Ps (i : Int))) r := by
  intro n
  induction n with
  | zero =>
   intro j r1 hj _ hc hb
   refine ⟨r1, ?_, hc, fun i hi => hb i (by omega)⟩
   rw [impl_classOf.l2_eq]
   ((with_reducible repeat (first | refine go_pos (by first | assumption | omega | rfl | exact B_pos (by omega)) ?_ | refine go_neg (by first | assumption | omega | decide | exact B_not (by omega)) ?_ | refine go_bind (by first | assumption) ?_ | dsimp only)); first | done | (with_reducible rfl) | simp (disch := omega) only [w64] | (show False; done))
  | succ n ih =>
   intro j r1 hj j0 hc hb
   have hr1 : r1.length = l.length := by obtain ⟨a, _, rfl⟩ := hc; rw [adm_len]
   obtain ⟨k1, k2⟩ := inner3 j r1 (by omega) hr1
   by_cases h : Ll l.length (adm m l (row Ps (j : Int))) r1
   ·
    obtain ⟨r, e, f⟩ := ih (j + 1) _ (by omega) (by omega) (hrow j (by omega)).2.2 (fun i hi => by
     by_cases e : i = j
     ·
      rw [e]; exact Ll.irrefl
     ·
      exact fun q => hb i (by omega) (q.trans h))
    refine ⟨r, ?_, f⟩
    have k := k1 h
    rw [impl_classOf.l2_eq]
    (with_reducible repeat (first | refine go_pos (by first | assumption | omega | rfl | exact B_pos (by omega)) ?_ | refine go_neg (by first | assumption | omega | decide | exact B_not (by omega)) ?_ | refine go_bind (by first | assumption) ?_ | dsimp only))
    rw [k, e]
   ·
    obtain ⟨r, e, f⟩ := ih (j + 1) r1 (by omega) (by omega) hc (fun i hi => by
     by_cases e : i = j
     ·
      rw [e]; exact h
     ·
      exact hb i (by omega))
    refine ⟨r, ?_, f⟩
    have k := k2 h
    rw [impl_classOf.l2_eq]
    (with_reducible repeat (first | refine go_pos (by first | assumption | omega | rfl | exact B_pos (by omega)) ?_ | refine go_neg (by first | assumption | omega | decide | exact B_not (by omega)) ?_ | refine go_bind (by first | assumption) ?_ | dsimp only))
    rw [k, e]
 obtain ⟨r, e, f1, f2⟩ := outer (Ps.length - 1) 1 (adm m l (row Ps ((0 : Nat) : Int))) (by omega) (by omega) (hrow 0 h0).2.2 (fun i hi => by rw [show i = 0 by omega]; exact Ll.irrefl)
 refine ⟨r, ?_, f1, fun s hs => ?_⟩
 ·
  have i1 := inner1 0 h0
  simp only [Int.natCast_zero, Nat.zero_add] at i1 e
  rw [impl_classOf.f_eq, impl_classOf.l0_eq]
  (with_reducible repeat (first | refine go_pos (by first | assumption | omega | rfl | exact B_pos (by omega)) ?_ | refine go_neg (by first | assumption | omega | decide | exact B_not (by omega)) ?_ | refine go_bind (by first | assumption) ?_ | dsimp only))
  rw [i1, e]
 ·
  obtain ⟨a, ha, rfl⟩ := hs
  obtain ⟨i, i0, i1, e⟩ := mem_row ((hP _).2 ⟨a, ha, rfl⟩)
  have := f2 i.toNat (by omega)
  rw [Int.toNat_of_nonneg i0, e] at this
  exact this
theorem adm_zero {g : List (List Int)} {m : Int} {u l : List Int} (hm : Mdl g m u) (hn : Nums g m l) : adm m l (prm m u ((0 : Nat) : Int)) = l := by
 have hlu := hm.len; have hll := hn.1
 refine ext_rd (adm_len _ _ _) fun i i0 i1 => ?_
 rw [adm_len] at i1
 obtain ⟨n, rfl⟩ := Int.eq_ofNat_of_zero_le i0
 obtain ⟨a0, a1⟩ := hn.2 (n : Int) i0 i1
 rw [adm_rd (by omega), prm_rd (by omega)]
 simp only [Int.natCast_zero, Int.mul_zero, Int.sub_zero, Int.zero_emod, Int.add_zero]
 exact Int.emod_eq_of_lt a0 a1
theorem Class_ {g : List (List Int)} {m : Int} {u l : List Int} (hg : Grp g) (hm : Mdl g m u) (hn : Nums g m l) : ∃ r, spec_l05Class.f g m u l = some r ∧ BestC m u l r := by
 have n8 := hg.n8; have n1 := hg.n1; have m2 := hm.m2; have m12 := hm.m12; have hlu := hm.len; have hll := hn.1; have hla := hn.2
 have l2' : ∀ x : Int, ([x] : List Int).length = 1 := fun _ => rfl
 have inner : ∀ (j : Nat) (r1 : List Int), (j : Int) < m → r1.length = l.length → (Ll l.length (adm m l (prm m u (j : Int))) r1 → spec_l05Class.l1 l (j : Int) 0 g m u r1 (prm m u (j : Int)) [] = spec_l05Class.l0 l ((j + 1 : Nat) : Int) g m u (adm m l (prm m u (j : Int)))) ∧ (¬ Ll l.length (adm m l (prm m u (j : Int))) r1 → spec_l05Class.l1 l (j : Int) 0 g m u r1 (prm m u (j : Int)) [] = spec_l05Class.l0 l ((j + 1 : Nat) : Int) g m u r1) := fun j r1 hj hr1 => by
  have pa := prm_in (show 0 < m by omega) u (j : Int)
  have pl := prm_len m u (j : Int)
  have := up l.length (fun i => spec_l05Class.l1 l (j : Int) (i : Int) g m u r1 (prm m u (j : Int)) ((List.range i).map fun i : Nat => (rd l (i : Int) + rd (prm m u (j : Int)) (i : Int)) % m)) (fun i hi => by
   have l1 : ((List.range i).map fun i : Nat => (rd l (i : Int) + rd (prm m u (j : Int)) (i : Int)) % m).length = i := by simp
   have a := hla (i : Int) (by omega) (by omega)
   have b := pa (i : Int) (by omega) (by omega)
   have hmod := Mod_ (a := rd l (i : Int) + rd (prm m u (j : Int)) (i : Int)) (m := m) (by omega) (by omega) (by omega) (by omega)
   rw [adm_step, spec_l05Class.l1_eq, wn (j := i) (by omega), w64 (x := rd l (i : Int) + rd (prm m u (j : Int)) (i : Int)) (by omega) (by omega), hmod, Option.bind_some, l1, l2']
   clear a b
   ((with_reducible repeat (first | refine go_pos (by first | assumption | omega | rfl | exact B_pos (by omega)) ?_ | refine go_neg (by first | assumption | omega | decide | exact B_not (by omega)) ?_ | refine go_bind (by first | assumption) ?_ | dsimp only)); first | done | (with_reducible rfl) | simp (disch := omega) only [w64] | (show False; done)))
  simp only [Int.natCast_zero, List.range_zero, List.map_nil] at this
  have e : (List.range l.length).map (fun i : Nat => (rd l (i : Int) + rd (prm m u (j : Int)) (i : Int)) % m) = adm m l (prm m u (j : Int)) := rfl
  have hb := Before_ (x := adm m l (prm m u (j : Int))) (y := r1) (W := l.length) (adm_len _ _ _) hr1 (by omega)
  rw [this, spec_l05Class.l1_eq, wn (j := j) (by omega), if_neg (by omega), e, hb, Option.bind_some]
  exact ⟨fun h => if_pos (B_pos h), fun h => if_neg (by rw [B_neg h]; decide)⟩
 have outer : ∀ (n j : Nat) (r1 : List Int), ((j + n : Nat) : Int) = m → Cand m u l r1 → (∀ i : Nat, i < j → ¬ Ll l.length (adm m l (prm m u (i : Int))) r1) → ∃ r, spec_l05Class.l0 l (j : Int) g m u r1 = some r ∧ Cand m u l r ∧ ∀ i : Nat, (i : Int) < m → ¬ Ll l.length (adm m l (prm m u (i : Int))) r := by
  intro n
  induction n with
  | zero =>
   intro j r1 hj hc hb
   refine ⟨r1, ?_, hc, fun i hi => hb i (by omega)⟩
   rw [spec_l05Class.l0_eq]
   ((with_reducible repeat (first | refine go_pos (by first | assumption | omega | rfl | exact B_pos (by omega)) ?_ | refine go_neg (by first | assumption | omega | decide | exact B_not (by omega)) ?_ | refine go_bind (by first | assumption) ?_ | dsimp only)); first | done | (with_reducible rfl) | simp (disch := omega) only [w64] | (show False; done))
  | succ n ih =>
   intro j r1 hj hc hb
   have hr1 : r1.length = l.length := by obtain ⟨a, _, rfl⟩ := hc; rw [adm_len]
   obtain ⟨k1, k2⟩ := inner j r1 (by omega) hr1
   have hp := Principal_ hg hm (a := (j : Int)) (by omega) (by omega)
   by_cases h : Ll l.length (adm m l (prm m u (j : Int))) r1
   ·
    obtain ⟨r, e, f⟩ := ih (j + 1) _ (by omega) ⟨j, by omega, rfl⟩ (fun i hi => by
     by_cases e : i = j
     ·
      rw [e]; exact Ll.irrefl
     ·
      exact fun q => hb i (by omega) (q.trans h))
    refine ⟨r, ?_, f⟩
    rw [spec_l05Class.l0_eq, if_pos (by omega), hp, Option.bind_some, k1 h, e]
   ·
    obtain ⟨r, e, f⟩ := ih (j + 1) r1 (by omega) hc (fun i hi => by
     by_cases e : i = j
     ·
      rw [e]; exact h
     ·
      exact hb i (by omega))
    refine ⟨r, ?_, f⟩
    rw [spec_l05Class.l0_eq, if_pos (by omega), hp, Option.bind_some, k2 h, e]
 obtain ⟨M, hM⟩ : ∃ M : Nat, m = (M : Int) := Int.eq_ofNat_of_zero_le (by omega)
 obtain ⟨r, e, f1, f2⟩ := outer M 0 l (by omega) ⟨0, by omega, (adm_zero hm hn).symm⟩ (fun i hi => by omega)
 refine ⟨r, ?_, f1, fun s hs => ?_⟩
 ·
  have ho : spec_l01Own.f l = some l := by
   rw [spec_l01Own.f_eq, if_pos (by simp only [List.length_nil]; omega), List.nil_append]
  rw [spec_l05Class.f_eq, ho, Option.bind_some]
  exact e
 ·
  obtain ⟨a, ha, rfl⟩ := hs
  exact f2 a ha
end Go.Proofs.Ytjknpaplgclflaa.V
namespace Go.Proofs.Ytjknpaplgclflaa.V
open Go Go.RowKit Go.Proofs.Ytjknpaplgclflaa.D Go.Proofs.Ytjknpaplgclflaa.P
theorem BestC.own {g : List (List Int)} {m : Int} {u l r : List Int} (hm : Mdl g m u) (hn : Nums g m l) (h : BestC m u l r) : (r = l ↔ BestC m u l l) ∧ (Ll l.length r l ↔ ¬ BestC m u l l) := by
 have hm2 := hm.m2
 have hc : Cand m u l l := ⟨0, by omega, (adm_zero hm hn).symm⟩
 have e : r = l ↔ BestC m u l l := ⟨fun q => by rw [q] at h; exact h, fun q => h.uniq q⟩
 refine ⟨e, ?_⟩
 have hr : r.length = l.length := by
  obtain ⟨a, _, q⟩ := h.1
  rw [q, adm_len]
 constructor
 ·
  intro q k
  rw [e.2 k] at q
  exact Ll.irrefl q
 ·
  intro k
  rcases Ll.tri l.length r l with q | q | q
  ·
   exact q
  ·
   exact absurd (e.1 (eq_of_all hr rfl q)) k
  ·
   exact absurd q (h.2 l hc)
noncomputable def keptL (m : Int) (u : List Int) (A : List (List Int)) : List (List Int) := A.filter fun l => B (BestC m u l l)
theorem same_CrossedClasses (g : List (List Int)) (m : Int) (u : List Int) (hl : g.length ≤ maxLen) (hr : ∀ r ∈ g, r.length ≤ maxLen) (hu : u.length ≤ maxLen) :
  ∃ (R : List (List Int)) (c : Int), spec_CrossedClasses.f g m u = some (R, c) ∧ impl_CrossedClasses.f g m u = some (R, c) ∧ R.length ≤ 1000000000 ∧ ∀ r ∈ R, r.length ≤ 1048576 := by
 have hA := moduleCode1 g hl hr m u hu
 have hS := Is_ g
 by_cases h : GM g m u
 ·
  obtain ⟨hg, hm⟩ := h
  have hM := Is02 hg m u hu
  have n8 := hg.n8; have hlu := hm.len
  rw [ite_pos ⟨hg, hm⟩] at hA
  rw [B_pos hm] at hM
  rw [B_pos hg] at hS
  obtain ⟨A, a1, a2, a3, a4, a5⟩ := crossedAll hg hm
  obtain ⟨Ps, p1, p2, p3, p4, p5⟩ := principalMapsD hg hm
  have hn : ∀ l ∈ A, Nums g m l := fun l hl' => ⟨by rw [((a4 l).1 hl').len], ((a4 l).1 hl').ent⟩
  have hlen : (keptL m u A).length ≤ A.length := List.length_filter_le _ _
  refine ⟨keptL m u A, 0, ?_, ?_, by omega, fun r hr' => ?_⟩
  ·
   rw [spec_CrossedClasses.f_eq, hS, Option.bind_some, if_pos rfl, hM, Option.bind_some, if_pos rfl, a2, Option.bind_some]
   have main := up A.length (fun j => spec_CrossedClasses.l0 (j : Int) g m u A (keptL m u (A.take j))) (fun j hj => by
    have hx : row A (j : Int) = A[j] := row_get hj
    have hnj := hn _ (List.getElem_mem hj)
    have hjl : A[j].length = g.length := ((a4 _).1 (List.getElem_mem hj)).len
    obtain ⟨r, r1, r2⟩ := Class_ hg hm hnj
    obtain ⟨q1, q2⟩ := r2.own hm hnj
    have rl : r.length = g.length := by
     obtain ⟨a, _, q⟩ := r2.1
     rw [q, adm_len, hjl]
    have hb := Before_ rl hjl (by omega)
    rw [hjl] at q2
    have l2 : ∀ x : List Int, ([x] : List (List Int)).length = 1 := fun _ => rfl
    have kl : (keptL m u (A.take j)).length ≤ j := Nat.le_trans (List.length_filter_le _ _) (by rw [List.length_take]; omega)
    have ek : keptL m u (A.take (j + 1)) = keptL m u (A.take j) ++ (if B (BestC m u A[j] A[j]) = true then [A[j]] else []) := by
     unfold keptL
     rw [List.take_succ_eq_append_getElem hj, List.filter_append]
     congr 1
     rw [List.filter_cons, List.filter_nil]
    rw [ek, spec_CrossedClasses.l0_eq, hx, r1, Option.bind_some, hb, Option.bind_some, l2, wn (j := j) (by omega)]
    by_cases hB : BestC m u A[j] A[j]
    ·
     rw [B_pos hB, if_pos (c := (true = true)) rfl, B_neg (show ¬ Ll g.length r A[j] from fun k => q2.1 k hB)]
     ((with_reducible repeat (first | refine go_pos (by first | assumption | omega | rfl | exact B_pos (by omega)) ?_ | refine go_neg (by first | assumption | omega | decide | exact B_not (by omega)) ?_ | refine go_bind (by first | assumption) ?_ | dsimp only)); first | done | (with_reducible rfl) | simp (disch := omega) only [w64] | (show False; done))
    ·
     rw [B_neg hB, if_neg (c := (false = true)) (by decide), List.append_nil, B_pos (q2.2 hB)]
     ((with_reducible repeat (first | refine go_pos (by first | assumption | omega | rfl | exact B_pos (by omega)) ?_ | refine go_neg (by first | assumption | omega | decide | exact B_not (by omega)) ?_ | refine go_bind (by first | assumption) ?_ | dsimp only)); first | done | (with_reducible rfl) | simp (disch := omega) only [w64] | (show False; done)))
   simp only [Int.natCast_zero, List.take_zero, List.take_length] at main
   show spec_CrossedClasses.l0 0 g m u A (keptL m u []) = _
   rw [main, spec_CrossedClasses.l0_eq, if_neg (by omega)]
  ·
   have hd := delete_good (xs := A) (by omega) (Q := fun z0 => (impl_CrossedClasses_1.f z0 m u Ps).map fun z => z) (p := fun l => !B (BestC m u l l)) (fun l hl' => by
    have hnl := hn l hl'
    have hll : l.length = g.length := ((a4 _).1 hl').len
    obtain ⟨r, r1, r2⟩ := classOf_ hg hm hnl p4 p5 p3
    obtain ⟨q1, q2⟩ := r2.own hm hnl
    have rl : r.length = g.length := by
     obtain ⟨a, _, q⟩ := r2.1
     rw [q, adm_len, hll]
    show Option.map _ (impl_CrossedClasses_1.f l m u Ps) = _
    rw [impl_CrossedClasses_1.f_eq, r1, Option.bind_some, Equal_ _ _ (by omega), Option.bind_some]
    by_cases hB : BestC m u l l
    ·
     rw [B_pos (q1.2 hB), B_pos hB]; rfl
    ·
     rw [B_neg (show ¬ r = l from fun k => hB (q1.1 k)), B_neg hB]; rfl)
   have e1 : slices_DeleteFunc_int64.f A (fun z0 => (impl_CrossedClasses_1.f z0 m u Ps).map fun z => z) = some (keptL m u A) := by
    refine Eq.trans hd ?_
    unfold keptL
    congr 1
    apply List.filter_congr
    intro l _
    simp
   rw [impl_CrossedClasses.f_eq, hA, Option.bind_some, if_pos rfl, p1, Option.bind_some, a1, Option.bind_some, e1]
   rfl
  ·
   have := ((a4 r).1 (List.mem_filter.1 hr').1).len
   omega
 ·
  rw [ite_neg h] at hA
  refine ⟨[], 1, ?_, ?_, by simp, fun r hr' => by cases hr'⟩
  ·
   by_cases h1 : Grp g
   ·
    have hM := Is02 h1 m u hu
    rw [B_neg fun k => h ⟨h1, k⟩] at hM
    rw [B_pos h1] at hS
    rw [spec_CrossedClasses.f_eq, hS, Option.bind_some, if_pos rfl, hM, Option.bind_some, if_neg (by decide)]
   ·
    rw [B_neg h1] at hS
    rw [spec_CrossedClasses.f_eq, hS, Option.bind_some, if_neg (by decide)]
  ·
   rw [impl_CrossedClasses.f_eq, hA, Option.bind_some, if_neg (by decide)]
end Go.Proofs.Ytjknpaplgclflaa.V
namespace Go.Proofs.Ytjknpaplgclflaa.Pure
open Go.RowKit Go.Proofs.Ytjknpaplgclflaa.D Go.Proofs.Ytjknpaplgclflaa.P Go.Proofs.Ytjknpaplgclflaa.V
theorem FnExactCrossedClasses_pure : ∀ (g0 : List (List Int)) (m1 : Int) (u1 : List Int), g0.length ≤ maxLen → (∀ r ∈ g0, r.length ≤ maxLen ∧ ∀ x ∈ r, (Lit.int .i64 x).wf = true) → (Lit.int .i64 m1).wf = true → u1.length ≤ maxLen → (∀ x ∈ u1, (Lit.int .i64 x).wf = true) → laws_FnExactCrossedClasses.f g0 m1 u1 = some true := by
 intro g0 m1 u1 hl0 hq0 hw1 hu1 hx1
 have hr0 : ∀ r ∈ g0, r.length ≤ maxLen := fun r h => (hq0 r h).1
 rw [laws_FnExactCrossedClasses.f_eq]
 obtain ⟨t0, e0, z0⟩ := szGroup g0 1048576 hl0 hr0 (by omega) (by omega)
 rcases z0 with z0 | ⟨ta0, tb0, kl0, kr0⟩
 ·
  ((with_reducible repeat (first | refine go_pos (by first | assumption | omega | rfl | exact B_pos (by omega)) ?_ | refine go_neg (by first | assumption | omega | decide | exact B_not (by omega)) ?_ | refine go_bind (by first | assumption) ?_ | dsimp only)); first | done | (with_reducible rfl) | simp (disch := omega) only [w64] | (show False; done))
 obtain ⟨t1, e1, z1⟩ := szModule m1 u1 t0 hu1 (by omega) (by omega)
 rcases z1 with z1 | ⟨ta1, tb1, ku1⟩
 ·
  ((with_reducible repeat (first | refine go_pos (by first | assumption | omega | rfl | exact B_pos (by omega)) ?_ | refine go_neg (by first | assumption | omega | decide | exact B_not (by omega)) ?_ | refine go_bind (by first | assumption) ?_ | dsimp only)); first | done | (with_reducible rfl) | simp (disch := omega) only [w64] | (show False; done))
 obtain ⟨R0, c1, hS, hI, rb0, rc0⟩ := same_CrossedClasses g0 m1 u1 hl0 hr0 hu1
 have eT0 := toGroup g0 kl0 kr0
 have eS0 := same_Group g0 hl0 hr0
 have eN0 := tot_small kl0 kr0
 have eK0 := markGroup g0 (1) (by omega) (by omega) (by omega)
 have eT1 := toModule m1 u1 ku1
 have eS1 := same_Module m1 u1 hu1
 have eK1 := markModule m1 u1 (1 + tot g0) (by omega) (by omega)
 have rS0 := same_Rows R0 (le_maxLen (by omega)) (fun r h => le_maxLen (by have := rc0 r h; omega))
 have rN0 := tot_small9 rb0 rc0
 have rK0 := markSS R0 (1) (by omega) (by omega) (by omega)
 have rH0 := heldSS R0 (1) (by omega) (by omega) (by omega)
 ((with_reducible repeat (first | refine go_pos (by first | assumption | omega | rfl | exact B_pos (by omega)) ?_ | refine go_neg (by first | assumption | omega | decide | exact B_not (by omega)) ?_ | refine go_bind (by first | assumption) ?_ | dsimp only)); first | done | (with_reducible rfl) | simp (disch := omega) only [w64] | (show False; done))
end Go.Proofs.Ytjknpaplgclflaa.Pure
namespace Go.Proofs.Ytjknpaplgclflaa.shut
theorem mayEnter : Try.pinned.checked.prog.mayEnter = true := by kernel_rfl
theorem lifted : (Rows.fnExactPrincipalMapsRow.lifted == Try.pinned.checked.prog.liftsFinal) = true := by kernel_rfl
theorem make : (Try.pinned.checked.prog.make == some Rows.fnExactPrincipalMapsRow.make) = true := by kernel_rfl
end Go.Proofs.Ytjknpaplgclflaa.shut
