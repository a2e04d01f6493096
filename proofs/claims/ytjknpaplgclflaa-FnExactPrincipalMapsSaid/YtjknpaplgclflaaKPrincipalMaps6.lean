/- What the proof of the law PrincipalMaps stands on, part 6: words, each Go function's Lean function, and that the Go code comes to its answers; no condition. (Packed by wip/myprint/pack.py out of what the kit's printer wrote, its words among it, partly by our patches of it, and out of texts of this session.) -/
import Derived.ChangeSlices
import Derived.ChangeSame
import Derived.Deep.Matrix
import Derived.Lib.SmallJoins
import Derived.Test.YtjknpaplgclflaaKPrincipalMaps3
import Derived.Test.YtjknpaplgclflaaKPrincipalMaps4
import Derived.Test.YtjknpaplgclflaaKPrincipalMaps5
set_option linter.unusedVariables false
namespace Go.Proofs.Ytjknpaplgclflaa.D
open Go Go.RowKit
theorem valid_view {P : Program} {g : FuncId} {c : Con} (hv : Valid P g c) {x : lsd (flats c.ins)} {r : c.R} (hx : c.f x = some r) {w : World} {vs : List Value} (ha : ASRs P (fun _ => False) (fun k => k < w.heap.size) w c.ins x vs (fun _ => False)) :
    Calls P g vs.toArray w fun e w' => ∃ u, e = .returned u ∧ Below w.heap.size w w' ∧ ∃ Z' Fo us, u = outV us ∧ ASRs P (fun _ => False) Z' w' c.outs (c.dec r).1 us Fo := by
  refine (hv.2 x r hx (fun k => k < w.heap.size) (fun _ => False) (fun _ => False) w vs ha (fun _ h => h.elim) (fun _ h => h) (fun _ h => h.elim)).mono ?_
  rintro e w' ⟨u, rfl, Z', Fi, Fo, hp⟩
  obtain ⟨us, hu, ho⟩ := hp.out
  exact ⟨u, rfl, ⟨hp.os, hp.tape, hp.output, hp.size, fun k hk => hp.old k hk fun h => h⟩, Z', Fo, us, hu, ho⟩
theorem cell_lt {w : World} {a : Addr} {v : Value} (h : w.cell? a = some v) : a.block < w.heap.size := by
  unfold World.cell? at h
  cases hb : w.heap[a.block]? with
  | none => rw [hb] at h; cases h
  | some o => exact (Array.getElem?_eq_some_iff.1 hb).1
theorem view_raw {α : Type} {w : World} {sz : Nat} {R : α → List Value → Prop} {A : Option Addr} {c : Nat} {xs : List α} (hz : 0 < sz) (hc : xs.length ≤ c) (hm : xs.length ≤ 9223372036854775807)
    (h : 0 < xs.length → ∃ ad, A = some ad ∧ ∀ (j : Nat) (p : α), xs[j]? = some p → ∃ cs, cs.length = sz ∧ R p cs ∧ ∀ (i : Nat) (u : Value), cs[i]? = some u → w.cell? (ad.add (j * sz + i)) = some u) : ViewRep (fun k => k < w.heap.size) w sz R A c xs := by
  refine ⟨hc, hm, fun hl => ?_⟩
  obtain ⟨ad, rfl, hcell⟩ := h hl
  refine ⟨ad, rfl, ?_, hcell⟩
  obtain ⟨cs, h1, h2, h3⟩ := hcell 0 xs[0] (List.getElem?_eq_getElem hl)
  have := cell_lt (h3 0 cs[0] (List.getElem?_eq_getElem (by omega)))
  rwa [add_block] at this
theorem law_true {P : Program} {g : FuncId} {c : Con} (hv : Valid P g c) {x : lsd (flats c.ins)} {r : c.R} (hx : c.f x = some r) {w : World} {vs : List Value} (ha : ASRs P (fun _ => False) (fun k => k < w.heap.size) w c.ins x vs (fun _ => False)) (ho : c.outs = [.one (.v .bool)]) (hr : ∀ y : lsd (flats [.one (.v .bool)]), HEq y (c.dec r).1 → y.1 = true) :
    Calls P g vs.toArray w fun e w' => e = .returned (.bool true) ∧ Below w.heap.size w w' := by
  refine (valid_view hv hx ha).mono ?_
  rintro e w' ⟨u, rfl, hb, Z', Fo, us, rfl, hh⟩
  refine ⟨?_, hb⟩
  obtain ⟨ins, outs, R, f, dec⟩ := c
  have ho : outs = [.one (.v .bool)] := ho
  subst ho
  obtain ⟨v, vs', F0, F1, rfl, h1, h2, _⟩ := hh
  cases h2
  have h1 : [v] = [.bool (dec r).1.1] := h1
  have hb1 : (dec r).1.1 = true := hr _ HEq.rfl
  cases h1
  rw [hb1]
  rfl
end Go.Proofs.Ytjknpaplgclflaa.D
set_option linter.unusedVariables false
namespace Go.Proofs.Ytjknpaplgclflaa.D
open Go Go.RowKit Go.ChangeShapes Go.WideShapes Go.Joins Go.Deep
section
variable {H : Type} {enc : TypeId × Value → H} {P : Program} {w : World} {base : Nat} {held : Bool}
abbrev Zw (w : World) : Nat → Prop := fun k => k < w.heap.size
abbrev No : Nat → Prop := fun _ => False
theorem rep_ints {q : TypeId} (hn : nf q = false) {k : IntKind} {a : Addr} {len cap : Nat} {zs : List Int} (hl : len ≤ cap) (hm : cap ≤ maxLen) (hz : zs.length = cap) (hc : ∀ i, i < zs.length → w.cell? (a.add i) = some (.int k (zs.getD i 0))) (hw : ∀ n ∈ zs, (Lit.int k n).wf = true) :
    ∃ l : List Int, len = l.length ∧ l.length ≤ maxLen ∧ (∀ x ∈ l, (Lit.int k x).wf = true) ∧ Rep (Zw w) w false (.sl q (.int k)) l [.slice (some a) len cap] No := by
  have hlen : (zs.take len).length = len := by rw [List.length_take]; omega
  refine ⟨zs.take len, hlen.symm, by omega, fun x hx => hw x (List.mem_of_mem_take hx), some a, cap, by rw [hlen], ?_, fun h => by rw [hn] at h; cases h⟩
  refine view_raw Nat.one_pos (by show (zs.take len).length ≤ _; omega) (by show (zs.take len).length ≤ _; simp only [maxLen] at hm; omega) fun _ => ⟨a, rfl, fun j p hj => ?_⟩
  have hj : (zs.take len)[j]? = some p := hj
  have hjl : j < len := by
    have := (List.getElem?_eq_some_iff.1 hj).1
    omega
  refine ⟨[.int k p], rfl, rfl, fun i u hu => ?_⟩
  cases i with
  | zero =>
    simp only [List.getElem?_cons_zero, Option.some.injEq] at hu
    subst hu
    have h := hc j (by omega)
    have hp : zs.getD j 0 = p := by
      rw [List.getElem?_take] at hj
      simp only [hjl, if_true] at hj
      simp [List.getD, hj]
    rw [hp] at h
    simpa [Ty.size] using h
  | succ i => simp at hu
theorem rep_none {q : TypeId} {t : Ty} : Rep (Zw w) w false (.sl q t) ([] : List t.den) [.slice none 0 0] No :=
  ⟨none, 0, rfl, ⟨Nat.le_refl _, Nat.zero_le _, fun h => absurd h (by simp)⟩, fun _ _ => rfl⟩
theorem come_ints {t e : TypeId} {k : IntKind} {fuel : Nat} {v : Value} {x : DataW H × List MemPlace} (ht : P.underlying t = some (.slice e)) (he : P.underlying e = some (.int k)) (hc : P.cellsOf e = 1)
    (h : DataW.trod enc P w base (fun _ => true) held fuel t [v] = some x) (hn : nf e = false := by rfl) :
    ∃ l : List Int, l.length ≤ maxLen ∧ (∀ x ∈ l, (Lit.int k x).wf = true) ∧ Rep (Zw w) w false (.sl e (.int k)) l [v] No := by
  rcases open_ints ht he hc h with ⟨hcs, _⟩ | ⟨a, len, cap, zs, hcs, _, hl, hm, hz, _, hcell, hw⟩
  · refine ⟨[], by simp, by simp, ?_⟩
    rw [hcs]
    exact rep_none
  · simp only [if_true] at hz
    obtain ⟨l, h1, h2, h3, h4⟩ := rep_ints (q := e) hn hl hm hz hcell hw
    exact ⟨l, h2, h3, by rw [hcs]; exact h4⟩
theorem come_rows {t e q : TypeId} {k : IntKind} {fuel : Nat} {v : Value} {x : DataW H × List MemPlace} (ht : P.underlying t = some (.slice e)) (he : P.underlying e = some (.slice q)) (hq : P.underlying q = some (.int k))
    (ce : P.cellsOf e = 1) (cq : P.cellsOf q = 1) (h : DataW.trod enc P w base (fun _ => true) held fuel t [v] = some x) (hne : nf e = false := by rfl) (hn : nf q = false := by rfl) :
    ∃ l : List (List Int), l.length ≤ maxLen ∧ (∀ r ∈ l, r.length ≤ maxLen ∧ ∀ x ∈ r, (Lit.int k x).wf = true) ∧ Rep (Zw w) w false (.sl e (.sl q (.int k))) l [v] No := by
  rcases open_int_rows ht he hq ce cq h with ⟨hcs, _⟩ | ⟨a, len, cap, A, L, C, Z, hcs, _, hl, hm, _, hr⟩
  · refine ⟨[], by simp, by simp, ?_⟩
    rw [hcs]
    exact rep_none
  · have each : ∀ r, r < cap → ∃ y : List Int, y.length ≤ maxLen ∧ (∀ x ∈ y, (Lit.int k x).wf = true) ∧ Rep (Zw w) w false (.sl q (.int k)) y [.slice (A r) (L r) (C r)] No := by
      intro r hrc
      obtain ⟨_, h1, h2, h3, h4, h5, h6⟩ := hr r hrc
      cases hA : A r with
      | none =>
        have hC := h5 hA
        refine ⟨[], by simp, by simp, ?_⟩
        have hL : L r = 0 := by omega
        rw [hL, hC]
        exact rep_none
      | some a' =>
        obtain ⟨l, _, h7, h8, h9⟩ := rep_ints (q := q) hn h1 h2 h3 (fun i hi => (h6 a' hA).2 i (by omega)) h4
        exact ⟨l, h7, h8, h9⟩
    obtain ⟨Y, hY⟩ := choose_lt each
    have hlen : ((List.range len).map Y).length = len := by simp
    refine ⟨(List.range len).map Y, by omega, fun r hr' => ?_, ?_⟩
    · obtain ⟨j, hj, rfl⟩ := List.mem_map.1 hr'
      obtain ⟨h1, h2, _⟩ := hY j (by have := List.mem_range.1 hj; omega)
      exact ⟨h1, h2⟩
    · rw [hcs]
      refine ⟨some a, cap, by rw [hlen], ?_, fun h => by rw [hne] at h; cases h⟩
      refine view_raw Nat.one_pos (by show ((List.range len).map Y).length ≤ _; omega) (by show ((List.range len).map Y).length ≤ _; simp only [maxLen] at hm; omega) fun _ => ⟨a, rfl, fun j p hj => ?_⟩
      have hj : ((List.range len).map Y)[j]? = some p := hj
      have hjl : j < len := by
        have := (List.getElem?_eq_some_iff.1 hj).1
        omega
      have hp : p = Y j := by simpa [hjl] using hj.symm
      subst hp
      obtain ⟨h1, h2, h3⟩ := hY j (by omega)
      refine ⟨[.slice (A j) (L j) (C j)], rfl, h3, fun i u hu => ?_⟩
      cases i with
      | zero =>
        simp only [List.getElem?_cons_zero, Option.some.injEq] at hu
        subst hu
        have := (hr j (by omega)).1
        simpa [Ty.size] using this
      | succ i => simp at hu
theorem come_int {t : TypeId} {k : IntKind} {fuel : Nat} {v : Value} {x : DataW H × List MemPlace} (ht : P.underlying t = some (.int k)) (h : DataW.trod enc P w base (fun _ => true) held fuel t [v] = some x) : ∃ n : Int, (Lit.int k n).wf = true ∧ Rep (Zw w) w false (.int k) n [v] No := by
  obtain ⟨n, h1, _, h2⟩ := DataW.trod_int ht h
  exact ⟨n, h2, h1⟩
theorem open_agg1 {r : Reach} {b0 : Nat} {t : TypeId} {f0 : Field} {v : Value} {d : DataW H} {p : List MemPlace} {spare : Nat → Bool} (hs : P.underlying t = some (.struct #[f0])) (hone : oneCellFields P #[f0] = true) (hC : P.cellsOf t = 1)
    (hv : Value.okWide P w r b0 t v) (h : DataW.Trod enc P w base spare held t v d p) :
    ∃ (v0 : Value) (y0 : DataW H × List MemPlace) (n : Nat), v = .agg #[v0] ∧ DataW.trod enc P w base spare held n f0.type [v0] = some y0 := by
  obtain ⟨cs, rfl, hsz⟩ := okWide_struct hs hv
  have hsz1 : cs.size = 1 := hsz.trans hC
  obtain ⟨c0, rfl⟩ : ∃ c0, cs = #[c0] := by
    obtain ⟨l⟩ := cs
    match l, hsz1 with
    | [c0], _ => exact ⟨c0, rfl⟩
  obtain ⟨fuel, hf⟩ := h
  obtain ⟨y0, n, hx, _, h0⟩ := trod_struct1 hs hf
  obtain ⟨o0, k0⟩ := hone_of hone 0 f0 rfl
  exact ⟨c0, y0, n, rfl, by simpa [Value.cells, o0, k0] using h0⟩
theorem args_nil : ASRs P No (Zw w) w [] () [] No := rfl
theorem args_agg1 {t : Ty} {x : t.den} {v : Value} {ins : List ASh} {y : lsd (flats ins)} {vs : List Value} (h : Rep (Zw w) w false t x [v] No) (hr : ASRs P No (Zw w) w ins y vs No) : ASRs P No (Zw w) w (.agg [.v t] :: ins) (x, y) (.agg #[v] :: vs) No :=
  ⟨.agg #[v], vs, No, No, rfl, ⟨[v], rfl, v, [], No, No, rfl, h, rfl, fun _ h => h, fun _ h => h, fun _ h => h.elim⟩, hr, fun _ h => h, fun _ h => h, fun _ h => h.elim⟩
theorem args_agg2 {t t' : Ty} {x : t.den} {x' : t'.den} {v v' : Value} {ins : List ASh} {y : lsd (flats ins)} {vs : List Value} (h : Rep (Zw w) w false t x [v] No) (h' : Rep (Zw w) w false t' x' [v'] No) (hr : ASRs P No (Zw w) w ins y vs No) : ASRs P No (Zw w) w (.agg [.v t, .v t'] :: ins) (x, x', y) (.agg #[v, v'] :: vs) No :=
  ⟨.agg #[v, v'], vs, No, No, rfl, ⟨[v, v'], rfl, v, [v'], No, No, rfl, h, ⟨v', [], No, No, rfl, h', rfl, fun _ h => h, fun _ h => h, fun _ h => h.elim⟩, fun _ h => h, fun _ h => h, fun _ h => h.elim⟩, hr, fun _ h => h, fun _ h => h, fun _ h => h.elim⟩
end
end Go.Proofs.Ytjknpaplgclflaa.D
set_option linter.unusedVariables false
namespace Go.Proofs.Ytjknpaplgclflaa.D
open Go Go.RowKit
theorem valid_int1 {P : Program} {g : FuncId} {k k' : IntKind} {F : Int → Option Int} (hc : Callable P g) (h : ∀ (x y : Int) (w : World), F x = some y → Calls P g #[.int k x] w fun e w' => e = .returned (.int k' y) ∧ w' = w) :
    Valid P g ⟨[.one (.v (.int k))], [.one (.v (.int k'))], Int, fun x => F x.1, fun r => ((r, ()), ())⟩ := by
  refine ⟨hc, fun x r hx Z B S w vs ha hS hZ hB => ?_⟩
  obtain ⟨v, vs', F0, F1, rfl, h1, h2, _⟩ := ha
  cases h2
  have h1 : [v] = [.int k x.1] := h1
  cases h1
  refine (h x.1 r w hx).mono ?_
  rintro e w' ⟨rfl, rfl⟩
  refine ⟨_, rfl, Z, fun _ => False, fun _ => False, ⟨⟨_, [], fun _ => False, fun _ => False, rfl, trivial, trivial, fun _ h => h, fun _ h => h, fun _ h => h.elim⟩, ⟨[.int k' r], rfl, _, [], fun _ => False, fun _ => False, rfl, rfl, rfl, fun _ h => h, fun _ h => h, fun _ h => h.elim⟩, fun _ h => h.elim, fun _ h => (h.elim id id : False).elim, fun _ h => h, fun k hk => ⟨.inl hk, hZ k hk⟩, rfl, rfl, rfl, Nat.le_refl _, fun _ _ _ => rfl⟩⟩
end Go.Proofs.Ytjknpaplgclflaa.D
set_option linter.unusedVariables false
namespace Go.Proofs.Ytjknpaplgclflaa.R
open Go Go.RowKit Go.Proofs.Ytjknpaplgclflaa.D
noncomputable def bits_Len.f (a0 : Int) : Option Int := if 0 ≤ a0 ∧ a0 ≤ 18446744073709551615 then some (Lib.bitLen a0.toNat : Int) else none
noncomputable def bits_Len.con : Con := ⟨[.one (.v (.int .u64))], [.one (.v (.int .i64))], Int, fun x => bits_Len.f x.1, fun r => ((r, ()), (()))⟩
theorem bits_Len.valid : Valid Try.prog 64 bits_Len.con := valid_int1 ⟨_, Try.func64, by kernel_rfl, by kernel_rfl⟩ fun x y w h => by
  unfold bits_Len.f at h
  split at h
  · cases h
    exact P.Try.bits_Len x w (by omega) (by omega)
  · cases h
end Go.Proofs.Ytjknpaplgclflaa.R
set_option linter.unusedVariables false
namespace Go.Proofs.Ytjknpaplgclflaa.R
open Go Go.RowKit Go.Proofs.Ytjknpaplgclflaa.D
noncomputable def slices_nextPowerOfTwo.E : Env := { tt := TT, con := [(64, bits_Len.con)], frz := [], rows := [], live := [], n := 7, pin := 0, nils := [] }
noncomputable def slices_nextPowerOfTwo.fn : D.Fn := { body := Try.f95.body.getD .skip, res := Try.f95.results.toList, ins := [.one (.v (.int .i64))], outs := [.one (.v (.int .u64))] }
def slices_nextPowerOfTwo.enc (y : lsd (flats slices_nextPowerOfTwo.fn.outs) × lsd (ios slices_nextPowerOfTwo.fn.ins)) : Int := y.1.1
noncomputable def slices_nextPowerOfTwo.f (a0 : Int) : Option Int := denF slices_nextPowerOfTwo.E slices_nextPowerOfTwo.fn slices_nextPowerOfTwo.enc (a0, ())
noncomputable def slices_nextPowerOfTwo.con : Con := ⟨slices_nextPowerOfTwo.fn.ins, slices_nextPowerOfTwo.fn.outs, Int, fun x => slices_nextPowerOfTwo.f x.1, fun r => ((r, ()), (()))⟩
theorem slices_nextPowerOfTwo.valid : Valid Try.prog 95 slices_nextPowerOfTwo.con := fn_valid (f := slices_nextPowerOfTwo.fn) (E := slices_nextPowerOfTwo.E) (enc := slices_nextPowerOfTwo.enc) ⟨ttOk, (conCons bits_Len.valid conNil)⟩ (Checked.mixed Try.checked) ⟨Try.func95, by kernel_rfl, by kernel_rfl, by kernel_rfl, by kernel_rfl, by decide, by kernel_rfl, by kernel_rfl⟩ (fun _ => rfl)
end Go.Proofs.Ytjknpaplgclflaa.R
set_option linter.unusedVariables false
namespace Go.Proofs.Ytjknpaplgclflaa.R
open Go Go.RowKit Go.Proofs.Ytjknpaplgclflaa.D
noncomputable def slices_xorshift_Next.E : Env := { tt := TT, con := [], frz := [], rows := [], live := [], n := 33, pin := 1, nils := [] }
noncomputable def slices_xorshift_Next.fn : D.Fn := { body := Try.f96.body.getD .skip, res := Try.f96.results.toList, ins := [.ptr false 111 [.v (.int .u64)]], outs := [.one (.v (.int .u64))] }
def slices_xorshift_Next.enc (y : lsd (flats slices_xorshift_Next.fn.outs) × lsd (ios slices_xorshift_Next.fn.ins)) : Int × Int := (y.1.1, y.2.1)
noncomputable def slices_xorshift_Next.f (a0 : Int) : Option (Int × Int) := denF slices_xorshift_Next.E slices_xorshift_Next.fn slices_xorshift_Next.enc (a0, ())
noncomputable def slices_xorshift_Next.con : Con := ⟨slices_xorshift_Next.fn.ins, slices_xorshift_Next.fn.outs, Int × Int, fun x => slices_xorshift_Next.f x.1, fun r => ((r.1, ()), (r.2, ()))⟩
theorem slices_xorshift_Next.valid : Valid Try.prog 96 slices_xorshift_Next.con := fn_valid (f := slices_xorshift_Next.fn) (E := slices_xorshift_Next.E) (enc := slices_xorshift_Next.enc) ⟨ttOk, conNil⟩ (Checked.mixed Try.checked) ⟨Try.func96, by kernel_rfl, by kernel_rfl, by kernel_rfl, by kernel_rfl, by decide, by kernel_rfl, by kernel_rfl⟩ (fun _ => rfl)
end Go.Proofs.Ytjknpaplgclflaa.R
set_option linter.unusedVariables false
namespace Go.Proofs.Ytjknpaplgclflaa.R
open Go Go.RowKit Go.Proofs.Ytjknpaplgclflaa.D
noncomputable def slices_breakPatternsCmpFunc_int64.E : Env := { tt := TT, con := [(95, slices_nextPowerOfTwo.con), (96, slices_xorshift_Next.con)], frz := [], rows := [], live := [(5, [0, 1, 8, 9, 10, 11])], n := 67, pin := 1, nils := [] }
noncomputable def slices_breakPatternsCmpFunc_int64.fn : D.Fn := { body := Try.f78.body.getD .skip, res := Try.f78.results.toList, ins := [.one (.own 25 true .raw), .one (.v (.int .i64)), .one (.v (.int .i64)), .one (.fn [.raw, .raw] (.int .i64))], outs := [] }
def slices_breakPatternsCmpFunc_int64.enc (y : lsd (flats slices_breakPatternsCmpFunc_int64.fn.outs) × lsd (ios slices_breakPatternsCmpFunc_int64.fn.ins)) : (List Value) := y.2.1
noncomputable def slices_breakPatternsCmpFunc_int64.f (l0 : List Value) (a1 : Int) (a2 : Int) (f3 : Value → Value → Option Int) : Option (List Value) := denF slices_breakPatternsCmpFunc_int64.E slices_breakPatternsCmpFunc_int64.fn slices_breakPatternsCmpFunc_int64.enc (l0, a1, a2, fun x => f3 x.1 x.2.1, ())
noncomputable def slices_breakPatternsCmpFunc_int64.con : Con := ⟨slices_breakPatternsCmpFunc_int64.fn.ins, slices_breakPatternsCmpFunc_int64.fn.outs, (List Value), fun x => slices_breakPatternsCmpFunc_int64.f x.1 x.2.1 x.2.2.1 (fun z0 z1 => x.2.2.2.1 (z0, z1, ())), fun r => ((()), (r, ()))⟩
theorem slices_breakPatternsCmpFunc_int64.valid : Valid Try.prog 78 slices_breakPatternsCmpFunc_int64.con := fn_valid (f := slices_breakPatternsCmpFunc_int64.fn) (E := slices_breakPatternsCmpFunc_int64.E) (enc := slices_breakPatternsCmpFunc_int64.enc) ⟨ttOk, (conCons slices_nextPowerOfTwo.valid (conCons slices_xorshift_Next.valid conNil))⟩ (Checked.mixed Try.checked) ⟨Try.func78, by kernel_rfl, by kernel_rfl, by kernel_rfl, by kernel_rfl, by decide, by kernel_rfl, by kernel_rfl⟩ (fun _ => rfl)
end Go.Proofs.Ytjknpaplgclflaa.R
set_option linter.unusedVariables false
namespace Go.Proofs.Ytjknpaplgclflaa.R
open Go Go.RowKit Go.Proofs.Ytjknpaplgclflaa.D
noncomputable def slices_order2CmpFunc_int64.E : Env := { tt := TT, con := [], frz := [], rows := [], live := [], n := 32, pin := 1, nils := [] }
noncomputable def slices_order2CmpFunc_int64.fn : D.Fn := { body := Try.f106.body.getD .skip, res := Try.f106.results.toList, ins := [.one (.v (.sl 25 .raw)), .one (.v (.int .i64)), .one (.v (.int .i64)), .ptr false 3 [.v (.int .i64)], .one (.fn [.raw, .raw] (.int .i64))], outs := [.one (.v (.int .i64)), .one (.v (.int .i64))] }
def slices_order2CmpFunc_int64.enc (y : lsd (flats slices_order2CmpFunc_int64.fn.outs) × lsd (ios slices_order2CmpFunc_int64.fn.ins)) : Int × Int × Int := (y.1.1, y.1.2.1, y.2.1)
noncomputable def slices_order2CmpFunc_int64.f (l0 : List Value) (a1 : Int) (a2 : Int) (a3 : Int) (f4 : Value → Value → Option Int) : Option (Int × Int × Int) := denF slices_order2CmpFunc_int64.E slices_order2CmpFunc_int64.fn slices_order2CmpFunc_int64.enc (l0, a1, a2, a3, fun x => f4 x.1 x.2.1, ())
noncomputable def slices_order2CmpFunc_int64.con : Con := ⟨slices_order2CmpFunc_int64.fn.ins, slices_order2CmpFunc_int64.fn.outs, Int × Int × Int, fun x => slices_order2CmpFunc_int64.f x.1 x.2.1 x.2.2.1 x.2.2.2.1 (fun z0 z1 => x.2.2.2.2.1 (z0, z1, ())), fun r => ((r.1, r.2.1, ()), (r.2.2, ()))⟩
theorem slices_order2CmpFunc_int64.valid : Valid Try.prog 106 slices_order2CmpFunc_int64.con := fn_valid (f := slices_order2CmpFunc_int64.fn) (E := slices_order2CmpFunc_int64.E) (enc := slices_order2CmpFunc_int64.enc) ⟨ttOk, conNil⟩ (Checked.mixed Try.checked) ⟨Try.func106, by kernel_rfl, by kernel_rfl, by kernel_rfl, by kernel_rfl, by decide, by kernel_rfl, by kernel_rfl⟩ (fun _ => rfl)
end Go.Proofs.Ytjknpaplgclflaa.R
set_option linter.unusedVariables false
namespace Go.Proofs.Ytjknpaplgclflaa.R
open Go Go.RowKit Go.Proofs.Ytjknpaplgclflaa.D
noncomputable def slices_medianCmpFunc_int64.E : Env := { tt := TT, con := [(106, slices_order2CmpFunc_int64.con)], frz := [], rows := [], live := [], n := 41, pin := 1, nils := [] }
noncomputable def slices_medianCmpFunc_int64.fn : D.Fn := { body := Try.f98.body.getD .skip, res := Try.f98.results.toList, ins := [.one (.v (.sl 25 .raw)), .one (.v (.int .i64)), .one (.v (.int .i64)), .one (.v (.int .i64)), .ptr false 3 [.v (.int .i64)], .one (.fn [.raw, .raw] (.int .i64))], outs := [.one (.v (.int .i64))] }
def slices_medianCmpFunc_int64.enc (y : lsd (flats slices_medianCmpFunc_int64.fn.outs) × lsd (ios slices_medianCmpFunc_int64.fn.ins)) : Int × Int := (y.1.1, y.2.1)
noncomputable def slices_medianCmpFunc_int64.f (l0 : List Value) (a1 : Int) (a2 : Int) (a3 : Int) (a4 : Int) (f5 : Value → Value → Option Int) : Option (Int × Int) := denF slices_medianCmpFunc_int64.E slices_medianCmpFunc_int64.fn slices_medianCmpFunc_int64.enc (l0, a1, a2, a3, a4, fun x => f5 x.1 x.2.1, ())
noncomputable def slices_medianCmpFunc_int64.con : Con := ⟨slices_medianCmpFunc_int64.fn.ins, slices_medianCmpFunc_int64.fn.outs, Int × Int, fun x => slices_medianCmpFunc_int64.f x.1 x.2.1 x.2.2.1 x.2.2.2.1 x.2.2.2.2.1 (fun z0 z1 => x.2.2.2.2.2.1 (z0, z1, ())), fun r => ((r.1, ()), (r.2, ()))⟩
theorem slices_medianCmpFunc_int64.valid : Valid Try.prog 98 slices_medianCmpFunc_int64.con := fn_valid (f := slices_medianCmpFunc_int64.fn) (E := slices_medianCmpFunc_int64.E) (enc := slices_medianCmpFunc_int64.enc) ⟨ttOk, (conCons slices_order2CmpFunc_int64.valid conNil)⟩ (Checked.mixed Try.checked) ⟨Try.func98, by kernel_rfl, by kernel_rfl, by kernel_rfl, by kernel_rfl, by decide, by kernel_rfl, by kernel_rfl⟩ (fun _ => rfl)
end Go.Proofs.Ytjknpaplgclflaa.R
set_option linter.unusedVariables false
namespace Go.Proofs.Ytjknpaplgclflaa.R
open Go Go.RowKit Go.Proofs.Ytjknpaplgclflaa.D
noncomputable def slices_medianAdjacentCmpFunc_int64.E : Env := { tt := TT, con := [(98, slices_medianCmpFunc_int64.con)], frz := [], rows := [], live := [], n := 18, pin := 1, nils := [] }
noncomputable def slices_medianAdjacentCmpFunc_int64.fn : D.Fn := { body := Try.f97.body.getD .skip, res := Try.f97.results.toList, ins := [.one (.v (.sl 25 .raw)), .one (.v (.int .i64)), .ptr false 3 [.v (.int .i64)], .one (.fn [.raw, .raw] (.int .i64))], outs := [.one (.v (.int .i64))] }
def slices_medianAdjacentCmpFunc_int64.enc (y : lsd (flats slices_medianAdjacentCmpFunc_int64.fn.outs) × lsd (ios slices_medianAdjacentCmpFunc_int64.fn.ins)) : Int × Int := (y.1.1, y.2.1)
noncomputable def slices_medianAdjacentCmpFunc_int64.f (l0 : List Value) (a1 : Int) (a2 : Int) (f3 : Value → Value → Option Int) : Option (Int × Int) := denF slices_medianAdjacentCmpFunc_int64.E slices_medianAdjacentCmpFunc_int64.fn slices_medianAdjacentCmpFunc_int64.enc (l0, a1, a2, fun x => f3 x.1 x.2.1, ())
noncomputable def slices_medianAdjacentCmpFunc_int64.con : Con := ⟨slices_medianAdjacentCmpFunc_int64.fn.ins, slices_medianAdjacentCmpFunc_int64.fn.outs, Int × Int, fun x => slices_medianAdjacentCmpFunc_int64.f x.1 x.2.1 x.2.2.1 (fun z0 z1 => x.2.2.2.1 (z0, z1, ())), fun r => ((r.1, ()), (r.2, ()))⟩
theorem slices_medianAdjacentCmpFunc_int64.valid : Valid Try.prog 97 slices_medianAdjacentCmpFunc_int64.con := fn_valid (f := slices_medianAdjacentCmpFunc_int64.fn) (E := slices_medianAdjacentCmpFunc_int64.E) (enc := slices_medianAdjacentCmpFunc_int64.enc) ⟨ttOk, (conCons slices_medianCmpFunc_int64.valid conNil)⟩ (Checked.mixed Try.checked) ⟨Try.func97, by kernel_rfl, by kernel_rfl, by kernel_rfl, by kernel_rfl, by decide, by kernel_rfl, by kernel_rfl⟩ (fun _ => rfl)
end Go.Proofs.Ytjknpaplgclflaa.R
set_option linter.unusedVariables false
namespace Go.Proofs.Ytjknpaplgclflaa.R
open Go Go.RowKit Go.Proofs.Ytjknpaplgclflaa.D
noncomputable def slices_choosePivotCmpFunc_int64.E : Env := { tt := TT, con := [(97, slices_medianAdjacentCmpFunc_int64.con), (98, slices_medianCmpFunc_int64.con)], frz := [], rows := [], live := [], n := 63, pin := 0, nils := [] }
noncomputable def slices_choosePivotCmpFunc_int64.fn : D.Fn := { body := Try.f79.body.getD .skip, res := Try.f79.results.toList, ins := [.one (.v (.sl 25 .raw)), .one (.v (.int .i64)), .one (.v (.int .i64)), .one (.fn [.raw, .raw] (.int .i64))], outs := [.one (.v (.int .i64)), .one (.v (.int .i64))] }
def slices_choosePivotCmpFunc_int64.enc (y : lsd (flats slices_choosePivotCmpFunc_int64.fn.outs) × lsd (ios slices_choosePivotCmpFunc_int64.fn.ins)) : Int × Int := (y.1.1, y.1.2.1)
noncomputable def slices_choosePivotCmpFunc_int64.f (l0 : List Value) (a1 : Int) (a2 : Int) (f3 : Value → Value → Option Int) : Option (Int × Int) := denF slices_choosePivotCmpFunc_int64.E slices_choosePivotCmpFunc_int64.fn slices_choosePivotCmpFunc_int64.enc (l0, a1, a2, fun x => f3 x.1 x.2.1, ())
noncomputable def slices_choosePivotCmpFunc_int64.con : Con := ⟨slices_choosePivotCmpFunc_int64.fn.ins, slices_choosePivotCmpFunc_int64.fn.outs, Int × Int, fun x => slices_choosePivotCmpFunc_int64.f x.1 x.2.1 x.2.2.1 (fun z0 z1 => x.2.2.2.1 (z0, z1, ())), fun r => ((r.1, r.2, ()), (()))⟩
theorem slices_choosePivotCmpFunc_int64.valid : Valid Try.prog 79 slices_choosePivotCmpFunc_int64.con := fn_valid (f := slices_choosePivotCmpFunc_int64.fn) (E := slices_choosePivotCmpFunc_int64.E) (enc := slices_choosePivotCmpFunc_int64.enc) ⟨ttOk, (conCons slices_medianAdjacentCmpFunc_int64.valid (conCons slices_medianCmpFunc_int64.valid conNil))⟩ (Checked.mixed Try.checked) ⟨Try.func79, by kernel_rfl, by kernel_rfl, by kernel_rfl, by kernel_rfl, by decide, by kernel_rfl, by kernel_rfl⟩ (fun _ => rfl)
end Go.Proofs.Ytjknpaplgclflaa.R
set_option linter.unusedVariables false
namespace Go.Proofs.Ytjknpaplgclflaa.R
open Go Go.RowKit Go.Proofs.Ytjknpaplgclflaa.D
noncomputable def slices_reverseRangeCmpFunc_int64.E : Env := { tt := TT, con := [], frz := [], rows := [], live := [(2, [0, 8, 9])], n := 34, pin := 1, nils := [] }
noncomputable def slices_reverseRangeCmpFunc_int64.fn : D.Fn := { body := Try.f80.body.getD .skip, res := Try.f80.results.toList, ins := [.one (.own 25 true .raw), .one (.v (.int .i64)), .one (.v (.int .i64)), .one (.fn [.raw, .raw] (.int .i64))], outs := [] }
def slices_reverseRangeCmpFunc_int64.enc (y : lsd (flats slices_reverseRangeCmpFunc_int64.fn.outs) × lsd (ios slices_reverseRangeCmpFunc_int64.fn.ins)) : (List Value) := y.2.1
noncomputable def slices_reverseRangeCmpFunc_int64.f (l0 : List Value) (a1 : Int) (a2 : Int) (f3 : Value → Value → Option Int) : Option (List Value) := denF slices_reverseRangeCmpFunc_int64.E slices_reverseRangeCmpFunc_int64.fn slices_reverseRangeCmpFunc_int64.enc (l0, a1, a2, fun x => f3 x.1 x.2.1, ())
noncomputable def slices_reverseRangeCmpFunc_int64.con : Con := ⟨slices_reverseRangeCmpFunc_int64.fn.ins, slices_reverseRangeCmpFunc_int64.fn.outs, (List Value), fun x => slices_reverseRangeCmpFunc_int64.f x.1 x.2.1 x.2.2.1 (fun z0 z1 => x.2.2.2.1 (z0, z1, ())), fun r => ((()), (r, ()))⟩
theorem slices_reverseRangeCmpFunc_int64.valid : Valid Try.prog 80 slices_reverseRangeCmpFunc_int64.con := fn_valid (f := slices_reverseRangeCmpFunc_int64.fn) (E := slices_reverseRangeCmpFunc_int64.E) (enc := slices_reverseRangeCmpFunc_int64.enc) ⟨ttOk, conNil⟩ (Checked.mixed Try.checked) ⟨Try.func80, by kernel_rfl, by kernel_rfl, by kernel_rfl, by kernel_rfl, by decide, by kernel_rfl, by kernel_rfl⟩ (fun _ => rfl)
end Go.Proofs.Ytjknpaplgclflaa.R
set_option linter.unusedVariables false
namespace Go.Proofs.Ytjknpaplgclflaa.R
open Go Go.RowKit Go.Proofs.Ytjknpaplgclflaa.D
noncomputable def slices_partialInsertionSortCmpFunc_int64.E : Env := { tt := TT, con := [], frz := [], rows := [], live := [(3, [0, 1, 2, 3, 9, 10]), (5, [0, 1, 2, 3, 9, 10]), (14, [0, 1, 2, 3, 9, 10, 11]), (18, [0, 1, 2, 3, 9, 10]), (20, [0, 1, 2, 3, 9, 10, 12])], n := 141, pin := 1, nils := [] }
noncomputable def slices_partialInsertionSortCmpFunc_int64.fn : D.Fn := { body := Try.f81.body.getD .skip, res := Try.f81.results.toList, ins := [.one (.own 25 true .raw), .one (.v (.int .i64)), .one (.v (.int .i64)), .one (.fn [.raw, .raw] (.int .i64))], outs := [.one (.v .bool)] }
def slices_partialInsertionSortCmpFunc_int64.enc (y : lsd (flats slices_partialInsertionSortCmpFunc_int64.fn.outs) × lsd (ios slices_partialInsertionSortCmpFunc_int64.fn.ins)) : Bool × (List Value) := (y.1.1, y.2.1)
noncomputable def slices_partialInsertionSortCmpFunc_int64.f (l0 : List Value) (a1 : Int) (a2 : Int) (f3 : Value → Value → Option Int) : Option (Bool × (List Value)) := denF slices_partialInsertionSortCmpFunc_int64.E slices_partialInsertionSortCmpFunc_int64.fn slices_partialInsertionSortCmpFunc_int64.enc (l0, a1, a2, fun x => f3 x.1 x.2.1, ())
noncomputable def slices_partialInsertionSortCmpFunc_int64.con : Con := ⟨slices_partialInsertionSortCmpFunc_int64.fn.ins, slices_partialInsertionSortCmpFunc_int64.fn.outs, Bool × (List Value), fun x => slices_partialInsertionSortCmpFunc_int64.f x.1 x.2.1 x.2.2.1 (fun z0 z1 => x.2.2.2.1 (z0, z1, ())), fun r => ((r.1, ()), (r.2, ()))⟩
theorem slices_partialInsertionSortCmpFunc_int64.valid : Valid Try.prog 81 slices_partialInsertionSortCmpFunc_int64.con := fn_valid (f := slices_partialInsertionSortCmpFunc_int64.fn) (E := slices_partialInsertionSortCmpFunc_int64.E) (enc := slices_partialInsertionSortCmpFunc_int64.enc) ⟨ttOk, conNil⟩ (Checked.mixed Try.checked) ⟨Try.func81, by kernel_rfl, by kernel_rfl, by kernel_rfl, by kernel_rfl, by decide, by kernel_rfl, by kernel_rfl⟩ (fun _ => rfl)
end Go.Proofs.Ytjknpaplgclflaa.R
set_option linter.unusedVariables false
namespace Go.Proofs.Ytjknpaplgclflaa.R
open Go Go.RowKit Go.Proofs.Ytjknpaplgclflaa.D
noncomputable def slices_partitionEqualCmpFunc_int64.E : Env := { tt := TT, con := [], frz := [], rows := [], live := [(3, [0, 1, 4, 11, 12]), (5, [0, 1, 4, 11, 12])], n := 90, pin := 1, nils := [] }
noncomputable def slices_partitionEqualCmpFunc_int64.fn : D.Fn := { body := Try.f82.body.getD .skip, res := Try.f82.results.toList, ins := [.one (.own 25 true .raw), .one (.v (.int .i64)), .one (.v (.int .i64)), .one (.v (.int .i64)), .one (.fn [.raw, .raw] (.int .i64))], outs := [.one (.v (.int .i64))] }
def slices_partitionEqualCmpFunc_int64.enc (y : lsd (flats slices_partitionEqualCmpFunc_int64.fn.outs) × lsd (ios slices_partitionEqualCmpFunc_int64.fn.ins)) : Int × (List Value) := (y.1.1, y.2.1)
noncomputable def slices_partitionEqualCmpFunc_int64.f (l0 : List Value) (a1 : Int) (a2 : Int) (a3 : Int) (f4 : Value → Value → Option Int) : Option (Int × (List Value)) := denF slices_partitionEqualCmpFunc_int64.E slices_partitionEqualCmpFunc_int64.fn slices_partitionEqualCmpFunc_int64.enc (l0, a1, a2, a3, fun x => f4 x.1 x.2.1, ())
noncomputable def slices_partitionEqualCmpFunc_int64.con : Con := ⟨slices_partitionEqualCmpFunc_int64.fn.ins, slices_partitionEqualCmpFunc_int64.fn.outs, Int × (List Value), fun x => slices_partitionEqualCmpFunc_int64.f x.1 x.2.1 x.2.2.1 x.2.2.2.1 (fun z0 z1 => x.2.2.2.2.1 (z0, z1, ())), fun r => ((r.1, ()), (r.2, ()))⟩
theorem slices_partitionEqualCmpFunc_int64.valid : Valid Try.prog 82 slices_partitionEqualCmpFunc_int64.con := fn_valid (f := slices_partitionEqualCmpFunc_int64.fn) (E := slices_partitionEqualCmpFunc_int64.E) (enc := slices_partitionEqualCmpFunc_int64.enc) ⟨ttOk, conNil⟩ (Checked.mixed Try.checked) ⟨Try.func82, by kernel_rfl, by kernel_rfl, by kernel_rfl, by kernel_rfl, by decide, by kernel_rfl, by kernel_rfl⟩ (fun _ => rfl)
end Go.Proofs.Ytjknpaplgclflaa.R
set_option linter.unusedVariables false
namespace Go.Proofs.Ytjknpaplgclflaa.R
open Go Go.RowKit Go.Proofs.Ytjknpaplgclflaa.D
noncomputable def slices_partitionCmpFunc_int64.E : Env := { tt := TT, con := [], frz := [], rows := [], live := [(3, [0, 1, 4, 12, 13]), (5, [0, 1, 4, 12, 13]), (13, [0, 1, 4, 12, 13]), (15, [0, 1, 4, 12, 13])], n := 178, pin := 1, nils := [] }
noncomputable def slices_partitionCmpFunc_int64.fn : D.Fn := { body := Try.f83.body.getD .skip, res := Try.f83.results.toList, ins := [.one (.own 25 true .raw), .one (.v (.int .i64)), .one (.v (.int .i64)), .one (.v (.int .i64)), .one (.fn [.raw, .raw] (.int .i64))], outs := [.one (.v (.int .i64)), .one (.v .bool)] }
def slices_partitionCmpFunc_int64.enc (y : lsd (flats slices_partitionCmpFunc_int64.fn.outs) × lsd (ios slices_partitionCmpFunc_int64.fn.ins)) : Int × Bool × (List Value) := (y.1.1, y.1.2.1, y.2.1)
noncomputable def slices_partitionCmpFunc_int64.f (l0 : List Value) (a1 : Int) (a2 : Int) (a3 : Int) (f4 : Value → Value → Option Int) : Option (Int × Bool × (List Value)) := denF slices_partitionCmpFunc_int64.E slices_partitionCmpFunc_int64.fn slices_partitionCmpFunc_int64.enc (l0, a1, a2, a3, fun x => f4 x.1 x.2.1, ())
noncomputable def slices_partitionCmpFunc_int64.con : Con := ⟨slices_partitionCmpFunc_int64.fn.ins, slices_partitionCmpFunc_int64.fn.outs, Int × Bool × (List Value), fun x => slices_partitionCmpFunc_int64.f x.1 x.2.1 x.2.2.1 x.2.2.2.1 (fun z0 z1 => x.2.2.2.2.1 (z0, z1, ())), fun r => ((r.1, r.2.1, ()), (r.2.2, ()))⟩
theorem slices_partitionCmpFunc_int64.valid : Valid Try.prog 83 slices_partitionCmpFunc_int64.con := fn_valid (f := slices_partitionCmpFunc_int64.fn) (E := slices_partitionCmpFunc_int64.E) (enc := slices_partitionCmpFunc_int64.enc) ⟨ttOk, conNil⟩ (Checked.mixed Try.checked) ⟨Try.func83, by kernel_rfl, by kernel_rfl, by kernel_rfl, by kernel_rfl, by decide, by kernel_rfl, by kernel_rfl⟩ (fun _ => rfl)
end Go.Proofs.Ytjknpaplgclflaa.R
set_option linter.unusedVariables false
set_option linter.unusedSimpArgs false
namespace Go.Proofs.Ytjknpaplgclflaa.D
open Go Go.RowKit
end Go.Proofs.Ytjknpaplgclflaa.D
namespace Go.Proofs.Ytjknpaplgclflaa.D
noncomputable def fuel : Nat := Classical.choose (⟨64, rfl⟩ : ∃ n, n = 64)
theorem fuel_eq : fuel = 64 := Classical.choose_spec (⟨64, rfl⟩ : ∃ n, n = 64)
theorem valid_none {P : Go.Program} {g : Go.FuncId} (hc : Callable P g) {ins outs : List ASh} {R : Type} {dec : R → lsd (flats outs) × lsd (ios ins)} : Valid P g ⟨ins, outs, R, fun _ => none, dec⟩ := ⟨hc, fun x r h => by cases h⟩
end Go.Proofs.Ytjknpaplgclflaa.D
set_option linter.unusedVariables false
namespace Go.Proofs.Ytjknpaplgclflaa.R
open Go Go.RowKit Go.Proofs.Ytjknpaplgclflaa.D
noncomputable def slices_pdqsortCmpFunc_int64.E (c : Con) : Env := { tt := TT, con := [(63, c), (76, slices_insertionSortCmpFunc_int64.con), (77, slices_heapSortCmpFunc_int64.con), (79, slices_choosePivotCmpFunc_int64.con), (80, slices_reverseRangeCmpFunc_int64.con), (81, slices_partialInsertionSortCmpFunc_int64.con), (83, slices_partitionCmpFunc_int64.con), (82, slices_partitionEqualCmpFunc_int64.con), (78, slices_breakPatternsCmpFunc_int64.con)], frz := [], rows := [], live := [(2, [0, 1, 2, 3, 4, 10, 11])], n := 148, pin := 1, nils := [10, 11] }
noncomputable def slices_pdqsortCmpFunc_int64.fn : D.Fn := { body := Try.f63.body.getD .skip, res := Try.f63.results.toList, ins := [.one (.own 25 true .raw), .one (.v (.int .i64)), .one (.v (.int .i64)), .one (.v (.int .i64)), .one (.fn [.raw, .raw] (.int .i64))], outs := [] }
def slices_pdqsortCmpFunc_int64.enc (y : lsd (flats slices_pdqsortCmpFunc_int64.fn.outs) × lsd (ios slices_pdqsortCmpFunc_int64.fn.ins)) : (List Value) := y.2.1
noncomputable def slices_pdqsortCmpFunc_int64.cof (F : lsd (flats slices_pdqsortCmpFunc_int64.fn.ins) → Option (List Value)) : Con := ⟨slices_pdqsortCmpFunc_int64.fn.ins, slices_pdqsortCmpFunc_int64.fn.outs, (List Value), F, fun r => ((()), (r, ()))⟩
noncomputable def slices_pdqsortCmpFunc_int64.fx : Nat → lsd (flats slices_pdqsortCmpFunc_int64.fn.ins) → Option (List Value)
 | 0 => fun _ => none
 | n + 1 => fun x => denF (slices_pdqsortCmpFunc_int64.E (slices_pdqsortCmpFunc_int64.cof (slices_pdqsortCmpFunc_int64.fx n))) slices_pdqsortCmpFunc_int64.fn slices_pdqsortCmpFunc_int64.enc x
noncomputable def slices_pdqsortCmpFunc_int64.cn (n : Nat) : Con := slices_pdqsortCmpFunc_int64.cof (slices_pdqsortCmpFunc_int64.fx n)
noncomputable def slices_pdqsortCmpFunc_int64.f (n : Nat) (l0 : List Value) (a1 : Int) (a2 : Int) (a3 : Int) (f4 : Value → Value → Option Int) : Option (List Value) := slices_pdqsortCmpFunc_int64.fx n (l0, a1, a2, a3, fun x => f4 x.1 x.2.1, ())
noncomputable def slices_pdqsortCmpFunc_int64.l0 (n : Nat) (x1 : Int) (x2 : Int) (x3 : Int) (fx4 : Value → Value → Option Int) (x10 : Bool) (x11 : Bool) (r0 : List Value) : Option (List Value) := denAt (slices_pdqsortCmpFunc_int64.E (slices_pdqsortCmpFunc_int64.cn n)) slices_pdqsortCmpFunc_int64.fn slices_pdqsortCmpFunc_int64.enc [1, 1, 0] { fr := [(0, .lf (.own 0)), (1, .lf (.int .i64 x1)), (2, .lf (.int .i64 x2)), (3, .lf (.int .i64 x3)), (4, .lf (.fn [.raw, .raw] (.int .i64) (fun x => fx4 x.1 x.2.1))), (10, .lf (boolLf x10)), (11, .lf (boolLf x11))], ob := [(0, .row 25 true .raw r0)], nx := 1 }
set_option maxRecDepth 100000 in
theorem slices_pdqsortCmpFunc_int64.f_eq (n : Nat) (l0 : List Value) (a1 : Int) (a2 : Int) (a3 : Int) (f4 : Value → Value → Option Int) : slices_pdqsortCmpFunc_int64.f (n + 1) l0 a1 a2 a3 f4 = slices_pdqsortCmpFunc_int64.l0 n a1 a2 a3 f4 true true l0 := by kernel_rfl
set_option maxRecDepth 100000 in
theorem slices_pdqsortCmpFunc_int64.l0_eq (n : Nat) (x1 : Int) (x2 : Int) (x3 : Int) (fx4 : Value → Value → Option Int) (x10 : Bool) (x11 : Bool) (r0 : List Value) : slices_pdqsortCmpFunc_int64.l0 n x1 x2 x3 fx4 x10 x11 r0 = if (wrapI (x2 - x1)) ≤ 12 then ((slices_insertionSortCmpFunc_int64.f r0 x1 x2 (fun z0 z1 => (fx4 z0 z1).map fun z => z)).bind fun t30 => some t30) else (if x3 = 0 then ((slices_heapSortCmpFunc_int64.f r0 x1 x2 (fun z0 z1 => (fx4 z0 z1).map fun z => z)).bind fun t37 => some t37) else (if x10 = true then ((slices_choosePivotCmpFunc_int64.f r0 x1 x2 (fun z0 z1 => (fx4 z0 z1).map fun z => z)).bind fun t52 => if t52.2 = 2 then ((slices_reverseRangeCmpFunc_int64.f r0 x1 x2 (fun z0 z1 => (fx4 z0 z1).map fun z => z)).bind fun t61 => if x10 = true then (if x11 = true then ((slices_partialInsertionSortCmpFunc_int64.f t61 x1 x2 (fun z0 z1 => (fx4 z0 z1).map fun z => z)).bind fun t80 => if t80.1 = true then (some t80.2) else (if x1 > 0 then (if 0 ≤ wrapI (x1 - 1) then (if wrapI (x1 - 1) < (t80.2.length : Int) then (if 0 ≤ wrapI (x1 - 1) then (if wrapI (x1 - 1) < (t80.2.length : Int) then (if 0 ≤ wrapI ((wrapI (x2 - 1)) - (wrapI (t52.1 - x1))) then (if wrapI ((wrapI (x2 - 1)) - (wrapI (t52.1 - x1))) < (t80.2.length : Int) then (if 0 ≤ wrapI ((wrapI (x2 - 1)) - (wrapI (t52.1 - x1))) then (if wrapI ((wrapI (x2 - 1)) - (wrapI (t52.1 - x1))) < (t80.2.length : Int) then ((fx4 (Ty.rd .raw t80.2 (wrapI (x1 - 1))) (Ty.rd .raw t80.2 (wrapI ((wrapI (x2 - 1)) - (wrapI (t52.1 - x1)))))).bind fun t94 => if t94 < 0 then ((slices_partitionCmpFunc_int64.f t80.2 x1 x2 (wrapI ((wrapI (x2 - 1)) - (wrapI (t52.1 - x1)))) (fun z0 z1 => (fx4 z0 z1).map fun z => z)).bind fun t111 => if (wrapI (t111.1 - x1)) < (wrapI (x2 - t111.1)) then ((slices_pdqsortCmpFunc_int64.f n t111.2.2 x1 t111.1 x3 (fun z0 z1 => (fx4 z0 z1).map fun z => z)).bind fun t134 => slices_pdqsortCmpFunc_int64.l0 n (wrapI (t111.1 + 1)) x2 x3 fx4 (decide ((wrapI (t111.1 - x1)) ≥ (wrapI ((wrapI (x2 - x1) : Int).tdiv 8)))) (decide (t111.2.1 = true)) t134) else ((slices_pdqsortCmpFunc_int64.f n t111.2.2 (wrapI (t111.1 + 1)) x2 x3 (fun z0 z1 => (fx4 z0 z1).map fun z => z)).bind fun t146 => slices_pdqsortCmpFunc_int64.l0 n x1 t111.1 x3 fx4 (decide ((wrapI (x2 - t111.1)) ≥ (wrapI ((wrapI (x2 - x1) : Int).tdiv 8)))) (decide (t111.2.1 = true)) t146)) else ((slices_partitionEqualCmpFunc_int64.f t80.2 x1 x2 (wrapI ((wrapI (x2 - 1)) - (wrapI (t52.1 - x1)))) (fun z0 z1 => (fx4 z0 z1).map fun z => z)).bind fun t103 => slices_pdqsortCmpFunc_int64.l0 n t103.1 x2 x3 fx4 x10 x11 t103.2)) else none) else none) else none) else none) else none) else none) else none) else none) else ((slices_partitionCmpFunc_int64.f t80.2 x1 x2 (wrapI ((wrapI (x2 - 1)) - (wrapI (t52.1 - x1)))) (fun z0 z1 => (fx4 z0 z1).map fun z => z)).bind fun t111 => if (wrapI (t111.1 - x1)) < (wrapI (x2 - t111.1)) then ((slices_pdqsortCmpFunc_int64.f n t111.2.2 x1 t111.1 x3 (fun z0 z1 => (fx4 z0 z1).map fun z => z)).bind fun t134 => slices_pdqsortCmpFunc_int64.l0 n (wrapI (t111.1 + 1)) x2 x3 fx4 (decide ((wrapI (t111.1 - x1)) ≥ (wrapI ((wrapI (x2 - x1) : Int).tdiv 8)))) (decide (t111.2.1 = true)) t134) else ((slices_pdqsortCmpFunc_int64.f n t111.2.2 (wrapI (t111.1 + 1)) x2 x3 (fun z0 z1 => (fx4 z0 z1).map fun z => z)).bind fun t146 => slices_pdqsortCmpFunc_int64.l0 n x1 t111.1 x3 fx4 (decide ((wrapI (x2 - t111.1)) ≥ (wrapI ((wrapI (x2 - x1) : Int).tdiv 8)))) (decide (t111.2.1 = true)) t146)))) else (if x1 > 0 then (if 0 ≤ wrapI (x1 - 1) then (if wrapI (x1 - 1) < (t61.length : Int) then (if 0 ≤ wrapI (x1 - 1) then (if wrapI (x1 - 1) < (t61.length : Int) then (if 0 ≤ wrapI ((wrapI (x2 - 1)) - (wrapI (t52.1 - x1))) then (if wrapI ((wrapI (x2 - 1)) - (wrapI (t52.1 - x1))) < (t61.length : Int) then (if 0 ≤ wrapI ((wrapI (x2 - 1)) - (wrapI (t52.1 - x1))) then (if wrapI ((wrapI (x2 - 1)) - (wrapI (t52.1 - x1))) < (t61.length : Int) then ((fx4 (Ty.rd .raw t61 (wrapI (x1 - 1))) (Ty.rd .raw t61 (wrapI ((wrapI (x2 - 1)) - (wrapI (t52.1 - x1)))))).bind fun t94 => if t94 < 0 then ((slices_partitionCmpFunc_int64.f t61 x1 x2 (wrapI ((wrapI (x2 - 1)) - (wrapI (t52.1 - x1)))) (fun z0 z1 => (fx4 z0 z1).map fun z => z)).bind fun t111 => if (wrapI (t111.1 - x1)) < (wrapI (x2 - t111.1)) then ((slices_pdqsortCmpFunc_int64.f n t111.2.2 x1 t111.1 x3 (fun z0 z1 => (fx4 z0 z1).map fun z => z)).bind fun t134 => slices_pdqsortCmpFunc_int64.l0 n (wrapI (t111.1 + 1)) x2 x3 fx4 (decide ((wrapI (t111.1 - x1)) ≥ (wrapI ((wrapI (x2 - x1) : Int).tdiv 8)))) (decide (t111.2.1 = true)) t134) else ((slices_pdqsortCmpFunc_int64.f n t111.2.2 (wrapI (t111.1 + 1)) x2 x3 (fun z0 z1 => (fx4 z0 z1).map fun z => z)).bind fun t146 => slices_pdqsortCmpFunc_int64.l0 n x1 t111.1 x3 fx4 (decide ((wrapI (x2 - t111.1)) ≥ (wrapI ((wrapI (x2 - x1) : Int).tdiv 8)))) (decide (t111.2.1 = true)) t146)) else ((slices_partitionEqualCmpFunc_int64.f t61 x1 x2 (wrapI ((wrapI (x2 - 1)) - (wrapI (t52.1 - x1)))) (fun z0 z1 => (fx4 z0 z1).map fun z => z)).bind fun t103 => slices_pdqsortCmpFunc_int64.l0 n t103.1 x2 x3 fx4 x10 x11 t103.2)) else none) else none) else none) else none) else none) else none) else none) else none) else ((slices_partitionCmpFunc_int64.f t61 x1 x2 (wrapI ((wrapI (x2 - 1)) - (wrapI (t52.1 - x1)))) (fun z0 z1 => (fx4 z0 z1).map fun z => z)).bind fun t111 => if (wrapI (t111.1 - x1)) < (wrapI (x2 - t111.1)) then ((slices_pdqsortCmpFunc_int64.f n t111.2.2 x1 t111.1 x3 (fun z0 z1 => (fx4 z0 z1).map fun z => z)).bind fun t134 => slices_pdqsortCmpFunc_int64.l0 n (wrapI (t111.1 + 1)) x2 x3 fx4 (decide ((wrapI (t111.1 - x1)) ≥ (wrapI ((wrapI (x2 - x1) : Int).tdiv 8)))) (decide (t111.2.1 = true)) t134) else ((slices_pdqsortCmpFunc_int64.f n t111.2.2 (wrapI (t111.1 + 1)) x2 x3 (fun z0 z1 => (fx4 z0 z1).map fun z => z)).bind fun t146 => slices_pdqsortCmpFunc_int64.l0 n x1 t111.1 x3 fx4 (decide ((wrapI (x2 - t111.1)) ≥ (wrapI ((wrapI (x2 - x1) : Int).tdiv 8)))) (decide (t111.2.1 = true)) t146)))) else (if x1 > 0 then (if 0 ≤ wrapI (x1 - 1) then (if wrapI (x1 - 1) < (t61.length : Int) then (if 0 ≤ wrapI (x1 - 1) then (if wrapI (x1 - 1) < (t61.length : Int) then (if 0 ≤ wrapI ((wrapI (x2 - 1)) - (wrapI (t52.1 - x1))) then (if wrapI ((wrapI (x2 - 1)) - (wrapI (t52.1 - x1))) < (t61.length : Int) then (if 0 ≤ wrapI ((wrapI (x2 - 1)) - (wrapI (t52.1 - x1))) then (if wrapI ((wrapI (x2 - 1)) - (wrapI (t52.1 - x1))) < (t61.length : Int) then ((fx4 (Ty.rd .raw t61 (wrapI (x1 - 1))) (Ty.rd .raw t61 (wrapI ((wrapI (x2 - 1)) - (wrapI (t52.1 - x1)))))).bind fun t94 => if t94 < 0 then ((slices_partitionCmpFunc_int64.f t61 x1 x2 (wrapI ((wrapI (x2 - 1)) - (wrapI (t52.1 - x1)))) (fun z0 z1 => (fx4 z0 z1).map fun z => z)).bind fun t111 => if (wrapI (t111.1 - x1)) < (wrapI (x2 - t111.1)) then ((slices_pdqsortCmpFunc_int64.f n t111.2.2 x1 t111.1 x3 (fun z0 z1 => (fx4 z0 z1).map fun z => z)).bind fun t134 => slices_pdqsortCmpFunc_int64.l0 n (wrapI (t111.1 + 1)) x2 x3 fx4 (decide ((wrapI (t111.1 - x1)) ≥ (wrapI ((wrapI (x2 - x1) : Int).tdiv 8)))) (decide (t111.2.1 = true)) t134) else ((slices_pdqsortCmpFunc_int64.f n t111.2.2 (wrapI (t111.1 + 1)) x2 x3 (fun z0 z1 => (fx4 z0 z1).map fun z => z)).bind fun t146 => slices_pdqsortCmpFunc_int64.l0 n x1 t111.1 x3 fx4 (decide ((wrapI (x2 - t111.1)) ≥ (wrapI ((wrapI (x2 - x1) : Int).tdiv 8)))) (decide (t111.2.1 = true)) t146)) else ((slices_partitionEqualCmpFunc_int64.f t61 x1 x2 (wrapI ((wrapI (x2 - 1)) - (wrapI (t52.1 - x1)))) (fun z0 z1 => (fx4 z0 z1).map fun z => z)).bind fun t103 => slices_pdqsortCmpFunc_int64.l0 n t103.1 x2 x3 fx4 x10 x11 t103.2)) else none) else none) else none) else none) else none) else none) else none) else none) else ((slices_partitionCmpFunc_int64.f t61 x1 x2 (wrapI ((wrapI (x2 - 1)) - (wrapI (t52.1 - x1)))) (fun z0 z1 => (fx4 z0 z1).map fun z => z)).bind fun t111 => if (wrapI (t111.1 - x1)) < (wrapI (x2 - t111.1)) then ((slices_pdqsortCmpFunc_int64.f n t111.2.2 x1 t111.1 x3 (fun z0 z1 => (fx4 z0 z1).map fun z => z)).bind fun t134 => slices_pdqsortCmpFunc_int64.l0 n (wrapI (t111.1 + 1)) x2 x3 fx4 (decide ((wrapI (t111.1 - x1)) ≥ (wrapI ((wrapI (x2 - x1) : Int).tdiv 8)))) (decide (t111.2.1 = true)) t134) else ((slices_pdqsortCmpFunc_int64.f n t111.2.2 (wrapI (t111.1 + 1)) x2 x3 (fun z0 z1 => (fx4 z0 z1).map fun z => z)).bind fun t146 => slices_pdqsortCmpFunc_int64.l0 n x1 t111.1 x3 fx4 (decide ((wrapI (x2 - t111.1)) ≥ (wrapI ((wrapI (x2 - x1) : Int).tdiv 8)))) (decide (t111.2.1 = true)) t146)))) else (if x10 = true then (if x11 = true then (if t52.2 = 1 then ((slices_partialInsertionSortCmpFunc_int64.f r0 x1 x2 (fun z0 z1 => (fx4 z0 z1).map fun z => z)).bind fun t80 => if t80.1 = true then (some t80.2) else (if x1 > 0 then (if 0 ≤ wrapI (x1 - 1) then (if wrapI (x1 - 1) < (t80.2.length : Int) then (if 0 ≤ wrapI (x1 - 1) then (if wrapI (x1 - 1) < (t80.2.length : Int) then (if 0 ≤ t52.1 then (if t52.1 < (t80.2.length : Int) then (if 0 ≤ t52.1 then (if t52.1 < (t80.2.length : Int) then ((fx4 (Ty.rd .raw t80.2 (wrapI (x1 - 1))) (Ty.rd .raw t80.2 t52.1)).bind fun t94 => if t94 < 0 then ((slices_partitionCmpFunc_int64.f t80.2 x1 x2 t52.1 (fun z0 z1 => (fx4 z0 z1).map fun z => z)).bind fun t111 => if (wrapI (t111.1 - x1)) < (wrapI (x2 - t111.1)) then ((slices_pdqsortCmpFunc_int64.f n t111.2.2 x1 t111.1 x3 (fun z0 z1 => (fx4 z0 z1).map fun z => z)).bind fun t134 => slices_pdqsortCmpFunc_int64.l0 n (wrapI (t111.1 + 1)) x2 x3 fx4 (decide ((wrapI (t111.1 - x1)) ≥ (wrapI ((wrapI (x2 - x1) : Int).tdiv 8)))) (decide (t111.2.1 = true)) t134) else ((slices_pdqsortCmpFunc_int64.f n t111.2.2 (wrapI (t111.1 + 1)) x2 x3 (fun z0 z1 => (fx4 z0 z1).map fun z => z)).bind fun t146 => slices_pdqsortCmpFunc_int64.l0 n x1 t111.1 x3 fx4 (decide ((wrapI (x2 - t111.1)) ≥ (wrapI ((wrapI (x2 - x1) : Int).tdiv 8)))) (decide (t111.2.1 = true)) t146)) else ((slices_partitionEqualCmpFunc_int64.f t80.2 x1 x2 t52.1 (fun z0 z1 => (fx4 z0 z1).map fun z => z)).bind fun t103 => slices_pdqsortCmpFunc_int64.l0 n t103.1 x2 x3 fx4 x10 x11 t103.2)) else none) else none) else none) else none) else none) else none) else none) else none) else ((slices_partitionCmpFunc_int64.f t80.2 x1 x2 t52.1 (fun z0 z1 => (fx4 z0 z1).map fun z => z)).bind fun t111 => if (wrapI (t111.1 - x1)) < (wrapI (x2 - t111.1)) then ((slices_pdqsortCmpFunc_int64.f n t111.2.2 x1 t111.1 x3 (fun z0 z1 => (fx4 z0 z1).map fun z => z)).bind fun t134 => slices_pdqsortCmpFunc_int64.l0 n (wrapI (t111.1 + 1)) x2 x3 fx4 (decide ((wrapI (t111.1 - x1)) ≥ (wrapI ((wrapI (x2 - x1) : Int).tdiv 8)))) (decide (t111.2.1 = true)) t134) else ((slices_pdqsortCmpFunc_int64.f n t111.2.2 (wrapI (t111.1 + 1)) x2 x3 (fun z0 z1 => (fx4 z0 z1).map fun z => z)).bind fun t146 => slices_pdqsortCmpFunc_int64.l0 n x1 t111.1 x3 fx4 (decide ((wrapI (x2 - t111.1)) ≥ (wrapI ((wrapI (x2 - x1) : Int).tdiv 8)))) (decide (t111.2.1 = true)) t146)))) else (if x1 > 0 then (if 0 ≤ wrapI (x1 - 1) then (if wrapI (x1 - 1) < (r0.length : Int) then (if 0 ≤ wrapI (x1 - 1) then (if wrapI (x1 - 1) < (r0.length : Int) then (if 0 ≤ t52.1 then (if t52.1 < (r0.length : Int) then (if 0 ≤ t52.1 then (if t52.1 < (r0.length : Int) then ((fx4 (Ty.rd .raw r0 (wrapI (x1 - 1))) (Ty.rd .raw r0 t52.1)).bind fun t94 => if t94 < 0 then ((slices_partitionCmpFunc_int64.f r0 x1 x2 t52.1 (fun z0 z1 => (fx4 z0 z1).map fun z => z)).bind fun t111 => if (wrapI (t111.1 - x1)) < (wrapI (x2 - t111.1)) then ((slices_pdqsortCmpFunc_int64.f n t111.2.2 x1 t111.1 x3 (fun z0 z1 => (fx4 z0 z1).map fun z => z)).bind fun t134 => slices_pdqsortCmpFunc_int64.l0 n (wrapI (t111.1 + 1)) x2 x3 fx4 (decide ((wrapI (t111.1 - x1)) ≥ (wrapI ((wrapI (x2 - x1) : Int).tdiv 8)))) (decide (t111.2.1 = true)) t134) else ((slices_pdqsortCmpFunc_int64.f n t111.2.2 (wrapI (t111.1 + 1)) x2 x3 (fun z0 z1 => (fx4 z0 z1).map fun z => z)).bind fun t146 => slices_pdqsortCmpFunc_int64.l0 n x1 t111.1 x3 fx4 (decide ((wrapI (x2 - t111.1)) ≥ (wrapI ((wrapI (x2 - x1) : Int).tdiv 8)))) (decide (t111.2.1 = true)) t146)) else ((slices_partitionEqualCmpFunc_int64.f r0 x1 x2 t52.1 (fun z0 z1 => (fx4 z0 z1).map fun z => z)).bind fun t103 => slices_pdqsortCmpFunc_int64.l0 n t103.1 x2 x3 fx4 x10 x11 t103.2)) else none) else none) else none) else none) else none) else none) else none) else none) else ((slices_partitionCmpFunc_int64.f r0 x1 x2 t52.1 (fun z0 z1 => (fx4 z0 z1).map fun z => z)).bind fun t111 => if (wrapI (t111.1 - x1)) < (wrapI (x2 - t111.1)) then ((slices_pdqsortCmpFunc_int64.f n t111.2.2 x1 t111.1 x3 (fun z0 z1 => (fx4 z0 z1).map fun z => z)).bind fun t134 => slices_pdqsortCmpFunc_int64.l0 n (wrapI (t111.1 + 1)) x2 x3 fx4 (decide ((wrapI (t111.1 - x1)) ≥ (wrapI ((wrapI (x2 - x1) : Int).tdiv 8)))) (decide (t111.2.1 = true)) t134) else ((slices_pdqsortCmpFunc_int64.f n t111.2.2 (wrapI (t111.1 + 1)) x2 x3 (fun z0 z1 => (fx4 z0 z1).map fun z => z)).bind fun t146 => slices_pdqsortCmpFunc_int64.l0 n x1 t111.1 x3 fx4 (decide ((wrapI (x2 - t111.1)) ≥ (wrapI ((wrapI (x2 - x1) : Int).tdiv 8)))) (decide (t111.2.1 = true)) t146)))) else (if x1 > 0 then (if 0 ≤ wrapI (x1 - 1) then (if wrapI (x1 - 1) < (r0.length : Int) then (if 0 ≤ wrapI (x1 - 1) then (if wrapI (x1 - 1) < (r0.length : Int) then (if 0 ≤ t52.1 then (if t52.1 < (r0.length : Int) then (if 0 ≤ t52.1 then (if t52.1 < (r0.length : Int) then ((fx4 (Ty.rd .raw r0 (wrapI (x1 - 1))) (Ty.rd .raw r0 t52.1)).bind fun t94 => if t94 < 0 then ((slices_partitionCmpFunc_int64.f r0 x1 x2 t52.1 (fun z0 z1 => (fx4 z0 z1).map fun z => z)).bind fun t111 => if (wrapI (t111.1 - x1)) < (wrapI (x2 - t111.1)) then ((slices_pdqsortCmpFunc_int64.f n t111.2.2 x1 t111.1 x3 (fun z0 z1 => (fx4 z0 z1).map fun z => z)).bind fun t134 => slices_pdqsortCmpFunc_int64.l0 n (wrapI (t111.1 + 1)) x2 x3 fx4 (decide ((wrapI (t111.1 - x1)) ≥ (wrapI ((wrapI (x2 - x1) : Int).tdiv 8)))) (decide (t111.2.1 = true)) t134) else ((slices_pdqsortCmpFunc_int64.f n t111.2.2 (wrapI (t111.1 + 1)) x2 x3 (fun z0 z1 => (fx4 z0 z1).map fun z => z)).bind fun t146 => slices_pdqsortCmpFunc_int64.l0 n x1 t111.1 x3 fx4 (decide ((wrapI (x2 - t111.1)) ≥ (wrapI ((wrapI (x2 - x1) : Int).tdiv 8)))) (decide (t111.2.1 = true)) t146)) else ((slices_partitionEqualCmpFunc_int64.f r0 x1 x2 t52.1 (fun z0 z1 => (fx4 z0 z1).map fun z => z)).bind fun t103 => slices_pdqsortCmpFunc_int64.l0 n t103.1 x2 x3 fx4 x10 x11 t103.2)) else none) else none) else none) else none) else none) else none) else none) else none) else ((slices_partitionCmpFunc_int64.f r0 x1 x2 t52.1 (fun z0 z1 => (fx4 z0 z1).map fun z => z)).bind fun t111 => if (wrapI (t111.1 - x1)) < (wrapI (x2 - t111.1)) then ((slices_pdqsortCmpFunc_int64.f n t111.2.2 x1 t111.1 x3 (fun z0 z1 => (fx4 z0 z1).map fun z => z)).bind fun t134 => slices_pdqsortCmpFunc_int64.l0 n (wrapI (t111.1 + 1)) x2 x3 fx4 (decide ((wrapI (t111.1 - x1)) ≥ (wrapI ((wrapI (x2 - x1) : Int).tdiv 8)))) (decide (t111.2.1 = true)) t134) else ((slices_pdqsortCmpFunc_int64.f n t111.2.2 (wrapI (t111.1 + 1)) x2 x3 (fun z0 z1 => (fx4 z0 z1).map fun z => z)).bind fun t146 => slices_pdqsortCmpFunc_int64.l0 n x1 t111.1 x3 fx4 (decide ((wrapI (x2 - t111.1)) ≥ (wrapI ((wrapI (x2 - x1) : Int).tdiv 8)))) (decide (t111.2.1 = true)) t146)))) else (if x1 > 0 then (if 0 ≤ wrapI (x1 - 1) then (if wrapI (x1 - 1) < (r0.length : Int) then (if 0 ≤ wrapI (x1 - 1) then (if wrapI (x1 - 1) < (r0.length : Int) then (if 0 ≤ t52.1 then (if t52.1 < (r0.length : Int) then (if 0 ≤ t52.1 then (if t52.1 < (r0.length : Int) then ((fx4 (Ty.rd .raw r0 (wrapI (x1 - 1))) (Ty.rd .raw r0 t52.1)).bind fun t94 => if t94 < 0 then ((slices_partitionCmpFunc_int64.f r0 x1 x2 t52.1 (fun z0 z1 => (fx4 z0 z1).map fun z => z)).bind fun t111 => if (wrapI (t111.1 - x1)) < (wrapI (x2 - t111.1)) then ((slices_pdqsortCmpFunc_int64.f n t111.2.2 x1 t111.1 x3 (fun z0 z1 => (fx4 z0 z1).map fun z => z)).bind fun t134 => slices_pdqsortCmpFunc_int64.l0 n (wrapI (t111.1 + 1)) x2 x3 fx4 (decide ((wrapI (t111.1 - x1)) ≥ (wrapI ((wrapI (x2 - x1) : Int).tdiv 8)))) (decide (t111.2.1 = true)) t134) else ((slices_pdqsortCmpFunc_int64.f n t111.2.2 (wrapI (t111.1 + 1)) x2 x3 (fun z0 z1 => (fx4 z0 z1).map fun z => z)).bind fun t146 => slices_pdqsortCmpFunc_int64.l0 n x1 t111.1 x3 fx4 (decide ((wrapI (x2 - t111.1)) ≥ (wrapI ((wrapI (x2 - x1) : Int).tdiv 8)))) (decide (t111.2.1 = true)) t146)) else ((slices_partitionEqualCmpFunc_int64.f r0 x1 x2 t52.1 (fun z0 z1 => (fx4 z0 z1).map fun z => z)).bind fun t103 => slices_pdqsortCmpFunc_int64.l0 n t103.1 x2 x3 fx4 x10 x11 t103.2)) else none) else none) else none) else none) else none) else none) else none) else none) else ((slices_partitionCmpFunc_int64.f r0 x1 x2 t52.1 (fun z0 z1 => (fx4 z0 z1).map fun z => z)).bind fun t111 => if (wrapI (t111.1 - x1)) < (wrapI (x2 - t111.1)) then ((slices_pdqsortCmpFunc_int64.f n t111.2.2 x1 t111.1 x3 (fun z0 z1 => (fx4 z0 z1).map fun z => z)).bind fun t134 => slices_pdqsortCmpFunc_int64.l0 n (wrapI (t111.1 + 1)) x2 x3 fx4 (decide ((wrapI (t111.1 - x1)) ≥ (wrapI ((wrapI (x2 - x1) : Int).tdiv 8)))) (decide (t111.2.1 = true)) t134) else ((slices_pdqsortCmpFunc_int64.f n t111.2.2 (wrapI (t111.1 + 1)) x2 x3 (fun z0 z1 => (fx4 z0 z1).map fun z => z)).bind fun t146 => slices_pdqsortCmpFunc_int64.l0 n x1 t111.1 x3 fx4 (decide ((wrapI (x2 - t111.1)) ≥ (wrapI ((wrapI (x2 - x1) : Int).tdiv 8)))) (decide (t111.2.1 = true)) t146))))) else ((slices_breakPatternsCmpFunc_int64.f r0 x1 x2 (fun z0 z1 => (fx4 z0 z1).map fun z => z)).bind fun t44 => (slices_choosePivotCmpFunc_int64.f t44 x1 x2 (fun z0 z1 => (fx4 z0 z1).map fun z => z)).bind fun t52 => if t52.2 = 2 then ((slices_reverseRangeCmpFunc_int64.f t44 x1 x2 (fun z0 z1 => (fx4 z0 z1).map fun z => z)).bind fun t61 => if x10 = true then (if x11 = true then ((slices_partialInsertionSortCmpFunc_int64.f t61 x1 x2 (fun z0 z1 => (fx4 z0 z1).map fun z => z)).bind fun t80 => if t80.1 = true then (some t80.2) else (if x1 > 0 then (if 0 ≤ wrapI (x1 - 1) then (if wrapI (x1 - 1) < (t80.2.length : Int) then (if 0 ≤ wrapI (x1 - 1) then (if wrapI (x1 - 1) < (t80.2.length : Int) then (if 0 ≤ wrapI ((wrapI (x2 - 1)) - (wrapI (t52.1 - x1))) then (if wrapI ((wrapI (x2 - 1)) - (wrapI (t52.1 - x1))) < (t80.2.length : Int) then (if 0 ≤ wrapI ((wrapI (x2 - 1)) - (wrapI (t52.1 - x1))) then (if wrapI ((wrapI (x2 - 1)) - (wrapI (t52.1 - x1))) < (t80.2.length : Int) then ((fx4 (Ty.rd .raw t80.2 (wrapI (x1 - 1))) (Ty.rd .raw t80.2 (wrapI ((wrapI (x2 - 1)) - (wrapI (t52.1 - x1)))))).bind fun t94 => if t94 < 0 then ((slices_partitionCmpFunc_int64.f t80.2 x1 x2 (wrapI ((wrapI (x2 - 1)) - (wrapI (t52.1 - x1)))) (fun z0 z1 => (fx4 z0 z1).map fun z => z)).bind fun t111 => if (wrapI (t111.1 - x1)) < (wrapI (x2 - t111.1)) then ((slices_pdqsortCmpFunc_int64.f n t111.2.2 x1 t111.1 (wrapI (x3 - 1)) (fun z0 z1 => (fx4 z0 z1).map fun z => z)).bind fun t134 => slices_pdqsortCmpFunc_int64.l0 n (wrapI (t111.1 + 1)) x2 (wrapI (x3 - 1)) fx4 (decide ((wrapI (t111.1 - x1)) ≥ (wrapI ((wrapI (x2 - x1) : Int).tdiv 8)))) (decide (t111.2.1 = true)) t134) else ((slices_pdqsortCmpFunc_int64.f n t111.2.2 (wrapI (t111.1 + 1)) x2 (wrapI (x3 - 1)) (fun z0 z1 => (fx4 z0 z1).map fun z => z)).bind fun t146 => slices_pdqsortCmpFunc_int64.l0 n x1 t111.1 (wrapI (x3 - 1)) fx4 (decide ((wrapI (x2 - t111.1)) ≥ (wrapI ((wrapI (x2 - x1) : Int).tdiv 8)))) (decide (t111.2.1 = true)) t146)) else ((slices_partitionEqualCmpFunc_int64.f t80.2 x1 x2 (wrapI ((wrapI (x2 - 1)) - (wrapI (t52.1 - x1)))) (fun z0 z1 => (fx4 z0 z1).map fun z => z)).bind fun t103 => slices_pdqsortCmpFunc_int64.l0 n t103.1 x2 (wrapI (x3 - 1)) fx4 x10 x11 t103.2)) else none) else none) else none) else none) else none) else none) else none) else none) else ((slices_partitionCmpFunc_int64.f t80.2 x1 x2 (wrapI ((wrapI (x2 - 1)) - (wrapI (t52.1 - x1)))) (fun z0 z1 => (fx4 z0 z1).map fun z => z)).bind fun t111 => if (wrapI (t111.1 - x1)) < (wrapI (x2 - t111.1)) then ((slices_pdqsortCmpFunc_int64.f n t111.2.2 x1 t111.1 (wrapI (x3 - 1)) (fun z0 z1 => (fx4 z0 z1).map fun z => z)).bind fun t134 => slices_pdqsortCmpFunc_int64.l0 n (wrapI (t111.1 + 1)) x2 (wrapI (x3 - 1)) fx4 (decide ((wrapI (t111.1 - x1)) ≥ (wrapI ((wrapI (x2 - x1) : Int).tdiv 8)))) (decide (t111.2.1 = true)) t134) else ((slices_pdqsortCmpFunc_int64.f n t111.2.2 (wrapI (t111.1 + 1)) x2 (wrapI (x3 - 1)) (fun z0 z1 => (fx4 z0 z1).map fun z => z)).bind fun t146 => slices_pdqsortCmpFunc_int64.l0 n x1 t111.1 (wrapI (x3 - 1)) fx4 (decide ((wrapI (x2 - t111.1)) ≥ (wrapI ((wrapI (x2 - x1) : Int).tdiv 8)))) (decide (t111.2.1 = true)) t146)))) else (if x1 > 0 then (if 0 ≤ wrapI (x1 - 1) then (if wrapI (x1 - 1) < (t61.length : Int) then (if 0 ≤ wrapI (x1 - 1) then (if wrapI (x1 - 1) < (t61.length : Int) then (if 0 ≤ wrapI ((wrapI (x2 - 1)) - (wrapI (t52.1 - x1))) then (if wrapI ((wrapI (x2 - 1)) - (wrapI (t52.1 - x1))) < (t61.length : Int) then (if 0 ≤ wrapI ((wrapI (x2 - 1)) - (wrapI (t52.1 - x1))) then (if wrapI ((wrapI (x2 - 1)) - (wrapI (t52.1 - x1))) < (t61.length : Int) then ((fx4 (Ty.rd .raw t61 (wrapI (x1 - 1))) (Ty.rd .raw t61 (wrapI ((wrapI (x2 - 1)) - (wrapI (t52.1 - x1)))))).bind fun t94 => if t94 < 0 then ((slices_partitionCmpFunc_int64.f t61 x1 x2 (wrapI ((wrapI (x2 - 1)) - (wrapI (t52.1 - x1)))) (fun z0 z1 => (fx4 z0 z1).map fun z => z)).bind fun t111 => if (wrapI (t111.1 - x1)) < (wrapI (x2 - t111.1)) then ((slices_pdqsortCmpFunc_int64.f n t111.2.2 x1 t111.1 (wrapI (x3 - 1)) (fun z0 z1 => (fx4 z0 z1).map fun z => z)).bind fun t134 => slices_pdqsortCmpFunc_int64.l0 n (wrapI (t111.1 + 1)) x2 (wrapI (x3 - 1)) fx4 (decide ((wrapI (t111.1 - x1)) ≥ (wrapI ((wrapI (x2 - x1) : Int).tdiv 8)))) (decide (t111.2.1 = true)) t134) else ((slices_pdqsortCmpFunc_int64.f n t111.2.2 (wrapI (t111.1 + 1)) x2 (wrapI (x3 - 1)) (fun z0 z1 => (fx4 z0 z1).map fun z => z)).bind fun t146 => slices_pdqsortCmpFunc_int64.l0 n x1 t111.1 (wrapI (x3 - 1)) fx4 (decide ((wrapI (x2 - t111.1)) ≥ (wrapI ((wrapI (x2 - x1) : Int).tdiv 8)))) (decide (t111.2.1 = true)) t146)) else ((slices_partitionEqualCmpFunc_int64.f t61 x1 x2 (wrapI ((wrapI (x2 - 1)) - (wrapI (t52.1 - x1)))) (fun z0 z1 => (fx4 z0 z1).map fun z => z)).bind fun t103 => slices_pdqsortCmpFunc_int64.l0 n t103.1 x2 (wrapI (x3 - 1)) fx4 x10 x11 t103.2)) else none) else none) else none) else none) else none) else none) else none) else none) else ((slices_partitionCmpFunc_int64.f t61 x1 x2 (wrapI ((wrapI (x2 - 1)) - (wrapI (t52.1 - x1)))) (fun z0 z1 => (fx4 z0 z1).map fun z => z)).bind fun t111 => if (wrapI (t111.1 - x1)) < (wrapI (x2 - t111.1)) then ((slices_pdqsortCmpFunc_int64.f n t111.2.2 x1 t111.1 (wrapI (x3 - 1)) (fun z0 z1 => (fx4 z0 z1).map fun z => z)).bind fun t134 => slices_pdqsortCmpFunc_int64.l0 n (wrapI (t111.1 + 1)) x2 (wrapI (x3 - 1)) fx4 (decide ((wrapI (t111.1 - x1)) ≥ (wrapI ((wrapI (x2 - x1) : Int).tdiv 8)))) (decide (t111.2.1 = true)) t134) else ((slices_pdqsortCmpFunc_int64.f n t111.2.2 (wrapI (t111.1 + 1)) x2 (wrapI (x3 - 1)) (fun z0 z1 => (fx4 z0 z1).map fun z => z)).bind fun t146 => slices_pdqsortCmpFunc_int64.l0 n x1 t111.1 (wrapI (x3 - 1)) fx4 (decide ((wrapI (x2 - t111.1)) ≥ (wrapI ((wrapI (x2 - x1) : Int).tdiv 8)))) (decide (t111.2.1 = true)) t146)))) else (if x1 > 0 then (if 0 ≤ wrapI (x1 - 1) then (if wrapI (x1 - 1) < (t61.length : Int) then (if 0 ≤ wrapI (x1 - 1) then (if wrapI (x1 - 1) < (t61.length : Int) then (if 0 ≤ wrapI ((wrapI (x2 - 1)) - (wrapI (t52.1 - x1))) then (if wrapI ((wrapI (x2 - 1)) - (wrapI (t52.1 - x1))) < (t61.length : Int) then (if 0 ≤ wrapI ((wrapI (x2 - 1)) - (wrapI (t52.1 - x1))) then (if wrapI ((wrapI (x2 - 1)) - (wrapI (t52.1 - x1))) < (t61.length : Int) then ((fx4 (Ty.rd .raw t61 (wrapI (x1 - 1))) (Ty.rd .raw t61 (wrapI ((wrapI (x2 - 1)) - (wrapI (t52.1 - x1)))))).bind fun t94 => if t94 < 0 then ((slices_partitionCmpFunc_int64.f t61 x1 x2 (wrapI ((wrapI (x2 - 1)) - (wrapI (t52.1 - x1)))) (fun z0 z1 => (fx4 z0 z1).map fun z => z)).bind fun t111 => if (wrapI (t111.1 - x1)) < (wrapI (x2 - t111.1)) then ((slices_pdqsortCmpFunc_int64.f n t111.2.2 x1 t111.1 (wrapI (x3 - 1)) (fun z0 z1 => (fx4 z0 z1).map fun z => z)).bind fun t134 => slices_pdqsortCmpFunc_int64.l0 n (wrapI (t111.1 + 1)) x2 (wrapI (x3 - 1)) fx4 (decide ((wrapI (t111.1 - x1)) ≥ (wrapI ((wrapI (x2 - x1) : Int).tdiv 8)))) (decide (t111.2.1 = true)) t134) else ((slices_pdqsortCmpFunc_int64.f n t111.2.2 (wrapI (t111.1 + 1)) x2 (wrapI (x3 - 1)) (fun z0 z1 => (fx4 z0 z1).map fun z => z)).bind fun t146 => slices_pdqsortCmpFunc_int64.l0 n x1 t111.1 (wrapI (x3 - 1)) fx4 (decide ((wrapI (x2 - t111.1)) ≥ (wrapI ((wrapI (x2 - x1) : Int).tdiv 8)))) (decide (t111.2.1 = true)) t146)) else ((slices_partitionEqualCmpFunc_int64.f t61 x1 x2 (wrapI ((wrapI (x2 - 1)) - (wrapI (t52.1 - x1)))) (fun z0 z1 => (fx4 z0 z1).map fun z => z)).bind fun t103 => slices_pdqsortCmpFunc_int64.l0 n t103.1 x2 (wrapI (x3 - 1)) fx4 x10 x11 t103.2)) else none) else none) else none) else none) else none) else none) else none) else none) else ((slices_partitionCmpFunc_int64.f t61 x1 x2 (wrapI ((wrapI (x2 - 1)) - (wrapI (t52.1 - x1)))) (fun z0 z1 => (fx4 z0 z1).map fun z => z)).bind fun t111 => if (wrapI (t111.1 - x1)) < (wrapI (x2 - t111.1)) then ((slices_pdqsortCmpFunc_int64.f n t111.2.2 x1 t111.1 (wrapI (x3 - 1)) (fun z0 z1 => (fx4 z0 z1).map fun z => z)).bind fun t134 => slices_pdqsortCmpFunc_int64.l0 n (wrapI (t111.1 + 1)) x2 (wrapI (x3 - 1)) fx4 (decide ((wrapI (t111.1 - x1)) ≥ (wrapI ((wrapI (x2 - x1) : Int).tdiv 8)))) (decide (t111.2.1 = true)) t134) else ((slices_pdqsortCmpFunc_int64.f n t111.2.2 (wrapI (t111.1 + 1)) x2 (wrapI (x3 - 1)) (fun z0 z1 => (fx4 z0 z1).map fun z => z)).bind fun t146 => slices_pdqsortCmpFunc_int64.l0 n x1 t111.1 (wrapI (x3 - 1)) fx4 (decide ((wrapI (x2 - t111.1)) ≥ (wrapI ((wrapI (x2 - x1) : Int).tdiv 8)))) (decide (t111.2.1 = true)) t146)))) else (if x10 = true then (if x11 = true then (if t52.2 = 1 then ((slices_partialInsertionSortCmpFunc_int64.f t44 x1 x2 (fun z0 z1 => (fx4 z0 z1).map fun z => z)).bind fun t80 => if t80.1 = true then (some t80.2) else (if x1 > 0 then (if 0 ≤ wrapI (x1 - 1) then (if wrapI (x1 - 1) < (t80.2.length : Int) then (if 0 ≤ wrapI (x1 - 1) then (if wrapI (x1 - 1) < (t80.2.length : Int) then (if 0 ≤ t52.1 then (if t52.1 < (t80.2.length : Int) then (if 0 ≤ t52.1 then (if t52.1 < (t80.2.length : Int) then ((fx4 (Ty.rd .raw t80.2 (wrapI (x1 - 1))) (Ty.rd .raw t80.2 t52.1)).bind fun t94 => if t94 < 0 then ((slices_partitionCmpFunc_int64.f t80.2 x1 x2 t52.1 (fun z0 z1 => (fx4 z0 z1).map fun z => z)).bind fun t111 => if (wrapI (t111.1 - x1)) < (wrapI (x2 - t111.1)) then ((slices_pdqsortCmpFunc_int64.f n t111.2.2 x1 t111.1 (wrapI (x3 - 1)) (fun z0 z1 => (fx4 z0 z1).map fun z => z)).bind fun t134 => slices_pdqsortCmpFunc_int64.l0 n (wrapI (t111.1 + 1)) x2 (wrapI (x3 - 1)) fx4 (decide ((wrapI (t111.1 - x1)) ≥ (wrapI ((wrapI (x2 - x1) : Int).tdiv 8)))) (decide (t111.2.1 = true)) t134) else ((slices_pdqsortCmpFunc_int64.f n t111.2.2 (wrapI (t111.1 + 1)) x2 (wrapI (x3 - 1)) (fun z0 z1 => (fx4 z0 z1).map fun z => z)).bind fun t146 => slices_pdqsortCmpFunc_int64.l0 n x1 t111.1 (wrapI (x3 - 1)) fx4 (decide ((wrapI (x2 - t111.1)) ≥ (wrapI ((wrapI (x2 - x1) : Int).tdiv 8)))) (decide (t111.2.1 = true)) t146)) else ((slices_partitionEqualCmpFunc_int64.f t80.2 x1 x2 t52.1 (fun z0 z1 => (fx4 z0 z1).map fun z => z)).bind fun t103 => slices_pdqsortCmpFunc_int64.l0 n t103.1 x2 (wrapI (x3 - 1)) fx4 x10 x11 t103.2)) else none) else none) else none) else none) else none) else none) else none) else none) else ((slices_partitionCmpFunc_int64.f t80.2 x1 x2 t52.1 (fun z0 z1 => (fx4 z0 z1).map fun z => z)).bind fun t111 => if (wrapI (t111.1 - x1)) < (wrapI (x2 - t111.1)) then ((slices_pdqsortCmpFunc_int64.f n t111.2.2 x1 t111.1 (wrapI (x3 - 1)) (fun z0 z1 => (fx4 z0 z1).map fun z => z)).bind fun t134 => slices_pdqsortCmpFunc_int64.l0 n (wrapI (t111.1 + 1)) x2 (wrapI (x3 - 1)) fx4 (decide ((wrapI (t111.1 - x1)) ≥ (wrapI ((wrapI (x2 - x1) : Int).tdiv 8)))) (decide (t111.2.1 = true)) t134) else ((slices_pdqsortCmpFunc_int64.f n t111.2.2 (wrapI (t111.1 + 1)) x2 (wrapI (x3 - 1)) (fun z0 z1 => (fx4 z0 z1).map fun z => z)).bind fun t146 => slices_pdqsortCmpFunc_int64.l0 n x1 t111.1 (wrapI (x3 - 1)) fx4 (decide ((wrapI (x2 - t111.1)) ≥ (wrapI ((wrapI (x2 - x1) : Int).tdiv 8)))) (decide (t111.2.1 = true)) t146)))) else (if x1 > 0 then (if 0 ≤ wrapI (x1 - 1) then (if wrapI (x1 - 1) < (t44.length : Int) then (if 0 ≤ wrapI (x1 - 1) then (if wrapI (x1 - 1) < (t44.length : Int) then (if 0 ≤ t52.1 then (if t52.1 < (t44.length : Int) then (if 0 ≤ t52.1 then (if t52.1 < (t44.length : Int) then ((fx4 (Ty.rd .raw t44 (wrapI (x1 - 1))) (Ty.rd .raw t44 t52.1)).bind fun t94 => if t94 < 0 then ((slices_partitionCmpFunc_int64.f t44 x1 x2 t52.1 (fun z0 z1 => (fx4 z0 z1).map fun z => z)).bind fun t111 => if (wrapI (t111.1 - x1)) < (wrapI (x2 - t111.1)) then ((slices_pdqsortCmpFunc_int64.f n t111.2.2 x1 t111.1 (wrapI (x3 - 1)) (fun z0 z1 => (fx4 z0 z1).map fun z => z)).bind fun t134 => slices_pdqsortCmpFunc_int64.l0 n (wrapI (t111.1 + 1)) x2 (wrapI (x3 - 1)) fx4 (decide ((wrapI (t111.1 - x1)) ≥ (wrapI ((wrapI (x2 - x1) : Int).tdiv 8)))) (decide (t111.2.1 = true)) t134) else ((slices_pdqsortCmpFunc_int64.f n t111.2.2 (wrapI (t111.1 + 1)) x2 (wrapI (x3 - 1)) (fun z0 z1 => (fx4 z0 z1).map fun z => z)).bind fun t146 => slices_pdqsortCmpFunc_int64.l0 n x1 t111.1 (wrapI (x3 - 1)) fx4 (decide ((wrapI (x2 - t111.1)) ≥ (wrapI ((wrapI (x2 - x1) : Int).tdiv 8)))) (decide (t111.2.1 = true)) t146)) else ((slices_partitionEqualCmpFunc_int64.f t44 x1 x2 t52.1 (fun z0 z1 => (fx4 z0 z1).map fun z => z)).bind fun t103 => slices_pdqsortCmpFunc_int64.l0 n t103.1 x2 (wrapI (x3 - 1)) fx4 x10 x11 t103.2)) else none) else none) else none) else none) else none) else none) else none) else none) else ((slices_partitionCmpFunc_int64.f t44 x1 x2 t52.1 (fun z0 z1 => (fx4 z0 z1).map fun z => z)).bind fun t111 => if (wrapI (t111.1 - x1)) < (wrapI (x2 - t111.1)) then ((slices_pdqsortCmpFunc_int64.f n t111.2.2 x1 t111.1 (wrapI (x3 - 1)) (fun z0 z1 => (fx4 z0 z1).map fun z => z)).bind fun t134 => slices_pdqsortCmpFunc_int64.l0 n (wrapI (t111.1 + 1)) x2 (wrapI (x3 - 1)) fx4 (decide ((wrapI (t111.1 - x1)) ≥ (wrapI ((wrapI (x2 - x1) : Int).tdiv 8)))) (decide (t111.2.1 = true)) t134) else ((slices_pdqsortCmpFunc_int64.f n t111.2.2 (wrapI (t111.1 + 1)) x2 (wrapI (x3 - 1)) (fun z0 z1 => (fx4 z0 z1).map fun z => z)).bind fun t146 => slices_pdqsortCmpFunc_int64.l0 n x1 t111.1 (wrapI (x3 - 1)) fx4 (decide ((wrapI (x2 - t111.1)) ≥ (wrapI ((wrapI (x2 - x1) : Int).tdiv 8)))) (decide (t111.2.1 = true)) t146)))) else (if x1 > 0 then (if 0 ≤ wrapI (x1 - 1) then (if wrapI (x1 - 1) < (t44.length : Int) then (if 0 ≤ wrapI (x1 - 1) then (if wrapI (x1 - 1) < (t44.length : Int) then (if 0 ≤ t52.1 then (if t52.1 < (t44.length : Int) then (if 0 ≤ t52.1 then (if t52.1 < (t44.length : Int) then ((fx4 (Ty.rd .raw t44 (wrapI (x1 - 1))) (Ty.rd .raw t44 t52.1)).bind fun t94 => if t94 < 0 then ((slices_partitionCmpFunc_int64.f t44 x1 x2 t52.1 (fun z0 z1 => (fx4 z0 z1).map fun z => z)).bind fun t111 => if (wrapI (t111.1 - x1)) < (wrapI (x2 - t111.1)) then ((slices_pdqsortCmpFunc_int64.f n t111.2.2 x1 t111.1 (wrapI (x3 - 1)) (fun z0 z1 => (fx4 z0 z1).map fun z => z)).bind fun t134 => slices_pdqsortCmpFunc_int64.l0 n (wrapI (t111.1 + 1)) x2 (wrapI (x3 - 1)) fx4 (decide ((wrapI (t111.1 - x1)) ≥ (wrapI ((wrapI (x2 - x1) : Int).tdiv 8)))) (decide (t111.2.1 = true)) t134) else ((slices_pdqsortCmpFunc_int64.f n t111.2.2 (wrapI (t111.1 + 1)) x2 (wrapI (x3 - 1)) (fun z0 z1 => (fx4 z0 z1).map fun z => z)).bind fun t146 => slices_pdqsortCmpFunc_int64.l0 n x1 t111.1 (wrapI (x3 - 1)) fx4 (decide ((wrapI (x2 - t111.1)) ≥ (wrapI ((wrapI (x2 - x1) : Int).tdiv 8)))) (decide (t111.2.1 = true)) t146)) else ((slices_partitionEqualCmpFunc_int64.f t44 x1 x2 t52.1 (fun z0 z1 => (fx4 z0 z1).map fun z => z)).bind fun t103 => slices_pdqsortCmpFunc_int64.l0 n t103.1 x2 (wrapI (x3 - 1)) fx4 x10 x11 t103.2)) else none) else none) else none) else none) else none) else none) else none) else none) else ((slices_partitionCmpFunc_int64.f t44 x1 x2 t52.1 (fun z0 z1 => (fx4 z0 z1).map fun z => z)).bind fun t111 => if (wrapI (t111.1 - x1)) < (wrapI (x2 - t111.1)) then ((slices_pdqsortCmpFunc_int64.f n t111.2.2 x1 t111.1 (wrapI (x3 - 1)) (fun z0 z1 => (fx4 z0 z1).map fun z => z)).bind fun t134 => slices_pdqsortCmpFunc_int64.l0 n (wrapI (t111.1 + 1)) x2 (wrapI (x3 - 1)) fx4 (decide ((wrapI (t111.1 - x1)) ≥ (wrapI ((wrapI (x2 - x1) : Int).tdiv 8)))) (decide (t111.2.1 = true)) t134) else ((slices_pdqsortCmpFunc_int64.f n t111.2.2 (wrapI (t111.1 + 1)) x2 (wrapI (x3 - 1)) (fun z0 z1 => (fx4 z0 z1).map fun z => z)).bind fun t146 => slices_pdqsortCmpFunc_int64.l0 n x1 t111.1 (wrapI (x3 - 1)) fx4 (decide ((wrapI (x2 - t111.1)) ≥ (wrapI ((wrapI (x2 - x1) : Int).tdiv 8)))) (decide (t111.2.1 = true)) t146)))) else (if x1 > 0 then (if 0 ≤ wrapI (x1 - 1) then (if wrapI (x1 - 1) < (t44.length : Int) then (if 0 ≤ wrapI (x1 - 1) then (if wrapI (x1 - 1) < (t44.length : Int) then (if 0 ≤ t52.1 then (if t52.1 < (t44.length : Int) then (if 0 ≤ t52.1 then (if t52.1 < (t44.length : Int) then ((fx4 (Ty.rd .raw t44 (wrapI (x1 - 1))) (Ty.rd .raw t44 t52.1)).bind fun t94 => if t94 < 0 then ((slices_partitionCmpFunc_int64.f t44 x1 x2 t52.1 (fun z0 z1 => (fx4 z0 z1).map fun z => z)).bind fun t111 => if (wrapI (t111.1 - x1)) < (wrapI (x2 - t111.1)) then ((slices_pdqsortCmpFunc_int64.f n t111.2.2 x1 t111.1 (wrapI (x3 - 1)) (fun z0 z1 => (fx4 z0 z1).map fun z => z)).bind fun t134 => slices_pdqsortCmpFunc_int64.l0 n (wrapI (t111.1 + 1)) x2 (wrapI (x3 - 1)) fx4 (decide ((wrapI (t111.1 - x1)) ≥ (wrapI ((wrapI (x2 - x1) : Int).tdiv 8)))) (decide (t111.2.1 = true)) t134) else ((slices_pdqsortCmpFunc_int64.f n t111.2.2 (wrapI (t111.1 + 1)) x2 (wrapI (x3 - 1)) (fun z0 z1 => (fx4 z0 z1).map fun z => z)).bind fun t146 => slices_pdqsortCmpFunc_int64.l0 n x1 t111.1 (wrapI (x3 - 1)) fx4 (decide ((wrapI (x2 - t111.1)) ≥ (wrapI ((wrapI (x2 - x1) : Int).tdiv 8)))) (decide (t111.2.1 = true)) t146)) else ((slices_partitionEqualCmpFunc_int64.f t44 x1 x2 t52.1 (fun z0 z1 => (fx4 z0 z1).map fun z => z)).bind fun t103 => slices_pdqsortCmpFunc_int64.l0 n t103.1 x2 (wrapI (x3 - 1)) fx4 x10 x11 t103.2)) else none) else none) else none) else none) else none) else none) else none) else none) else ((slices_partitionCmpFunc_int64.f t44 x1 x2 t52.1 (fun z0 z1 => (fx4 z0 z1).map fun z => z)).bind fun t111 => if (wrapI (t111.1 - x1)) < (wrapI (x2 - t111.1)) then ((slices_pdqsortCmpFunc_int64.f n t111.2.2 x1 t111.1 (wrapI (x3 - 1)) (fun z0 z1 => (fx4 z0 z1).map fun z => z)).bind fun t134 => slices_pdqsortCmpFunc_int64.l0 n (wrapI (t111.1 + 1)) x2 (wrapI (x3 - 1)) fx4 (decide ((wrapI (t111.1 - x1)) ≥ (wrapI ((wrapI (x2 - x1) : Int).tdiv 8)))) (decide (t111.2.1 = true)) t134) else ((slices_pdqsortCmpFunc_int64.f n t111.2.2 (wrapI (t111.1 + 1)) x2 (wrapI (x3 - 1)) (fun z0 z1 => (fx4 z0 z1).map fun z => z)).bind fun t146 => slices_pdqsortCmpFunc_int64.l0 n x1 t111.1 (wrapI (x3 - 1)) fx4 (decide ((wrapI (x2 - t111.1)) ≥ (wrapI ((wrapI (x2 - x1) : Int).tdiv 8)))) (decide (t111.2.1 = true)) t146))))))) := (loop_unfold _ _ _ _).trans (by kernel_rfl)
theorem slices_pdqsortCmpFunc_int64.vn : ∀ n, Valid Try.prog 63 (slices_pdqsortCmpFunc_int64.cn n)
 | 0 => valid_none ⟨_, Try.func63, by kernel_rfl, by kernel_rfl⟩
 | n + 1 => fn_valid (f := slices_pdqsortCmpFunc_int64.fn) (E := slices_pdqsortCmpFunc_int64.E (slices_pdqsortCmpFunc_int64.cn n)) (enc := slices_pdqsortCmpFunc_int64.enc) ⟨ttOk, (conCons (slices_pdqsortCmpFunc_int64.vn n) (conCons slices_insertionSortCmpFunc_int64.valid (conCons slices_heapSortCmpFunc_int64.valid (conCons slices_choosePivotCmpFunc_int64.valid (conCons slices_reverseRangeCmpFunc_int64.valid (conCons slices_partialInsertionSortCmpFunc_int64.valid (conCons slices_partitionCmpFunc_int64.valid (conCons slices_partitionEqualCmpFunc_int64.valid (conCons slices_breakPatternsCmpFunc_int64.valid conNil)))))))))⟩ (Checked.mixed Try.checked) ⟨Try.func63, by kernel_rfl, by kernel_rfl, by kernel_rfl, by kernel_rfl, of_decide_eq_true (by kernel_rfl), by kernel_rfl, by kernel_rfl⟩ (fun _ => rfl)
noncomputable def slices_pdqsortCmpFunc_int64.con : Con := slices_pdqsortCmpFunc_int64.cn fuel
theorem slices_pdqsortCmpFunc_int64.valid : Valid Try.prog 63 slices_pdqsortCmpFunc_int64.con := slices_pdqsortCmpFunc_int64.vn fuel
end Go.Proofs.Ytjknpaplgclflaa.R
set_option linter.unusedVariables false
namespace Go.Proofs.Ytjknpaplgclflaa.R
open Go Go.RowKit Go.Proofs.Ytjknpaplgclflaa.D
noncomputable def slices_SortFunc_int64.E : Env := { tt := TT, con := [(64, bits_Len.con), (63, slices_pdqsortCmpFunc_int64.con)], frz := [], rows := [], live := [], n := 14, pin := 1, nils := [] }
noncomputable def slices_SortFunc_int64.fn : D.Fn := { body := Try.f49.body.getD .skip, res := Try.f49.results.toList, ins := [.one (.own 25 true .raw), .one (.fn [.raw, .raw] (.int .i64))], outs := [] }
def slices_SortFunc_int64.enc (y : lsd (flats slices_SortFunc_int64.fn.outs) × lsd (ios slices_SortFunc_int64.fn.ins)) : (List Value) := y.2.1
noncomputable def slices_SortFunc_int64.f (l0 : List Value) (f1 : Value → Value → Option Int) : Option (List Value) := denF slices_SortFunc_int64.E slices_SortFunc_int64.fn slices_SortFunc_int64.enc (l0, fun x => f1 x.1 x.2.1, ())
set_option maxRecDepth 100000 in
theorem slices_SortFunc_int64.f_eq (l0 : List Value) (f1 : Value → Value → Option Int) : slices_SortFunc_int64.f l0 f1 = (bits_Len.f (wr .u64 (l0.length : Int))).bind fun t11 => (slices_pdqsortCmpFunc_int64.f fuel l0 0 (l0.length : Int) t11 (fun z0 z1 => (f1 z0 z1).map fun z => z)).bind fun t13 => some t13 := by kernel_rfl
noncomputable def slices_SortFunc_int64.con : Con := ⟨slices_SortFunc_int64.fn.ins, slices_SortFunc_int64.fn.outs, (List Value), fun x => slices_SortFunc_int64.f x.1 (fun z0 z1 => x.2.1 (z0, z1, ())), fun r => ((()), (r, ()))⟩
theorem slices_SortFunc_int64.valid : Valid Try.prog 49 slices_SortFunc_int64.con := fn_valid (f := slices_SortFunc_int64.fn) (E := slices_SortFunc_int64.E) (enc := slices_SortFunc_int64.enc) ⟨ttOk, (conCons bits_Len.valid (conCons slices_pdqsortCmpFunc_int64.valid conNil))⟩ (Checked.mixed Try.checked) ⟨Try.func49, by kernel_rfl, by kernel_rfl, by kernel_rfl, by kernel_rfl, by decide, by kernel_rfl, by kernel_rfl⟩ (fun _ => rfl)
end Go.Proofs.Ytjknpaplgclflaa.R
set_option linter.unusedVariables false
namespace Go.Proofs.Ytjknpaplgclflaa.D
open Go Go.RowKit
def hd (hs : List Value) (i : Nat) : Value := hs.getD i (.slice none 0 0)
def ct (xs : List (List Int)) (i : Nat) : List Int := xs.getD i []
theorem hd_get {hs : List Value} {i : Nat} (h : i < hs.length) : hs[i]? = some (hd hs i) := by
  unfold hd
  rw [List.getD_eq_getElem?_getD, List.getElem?_eq_getElem h]
  rfl
theorem ct_get {xs : List (List Int)} {i : Nat} (h : i < xs.length) : xs[i]? = some (ct xs i) := by
  unfold ct
  rw [List.getD_eq_getElem?_getD, List.getElem?_eq_getElem h]
  rfl
def Sel (hs : List Value) (xs : List (List Int)) (hs' : List Value) (ys : List (List Int)) : Prop := ∃ sel : List Nat, sel.Nodup ∧ (∀ i ∈ sel, i < xs.length) ∧ hs' = sel.map (hd hs) ∧ ys = sel.map (ct xs)
section
variable {P : Program} {Z : Nat → Prop} {w : World}
structure Parts (w : World) (e e' : TypeId) (k : IntKind) (hdr : Value) (xs : List (List Int)) (F : Nat → Prop) (hs : List Value) (Fs : Nat → Nat → Prop) : Prop where
  len : hs.length = xs.length
  raw : ∀ Z : Nat → Prop, RowRep w e 1 (Rep Z w true .raw) hdr hs (fun b => hdr.ownBlock = some b)
  el : ∀ i, i < xs.length → RowRep w e' 1 (Rep (fun _ => False) w true (.int k)) (hd hs i) (ct xs i) (Fs i) ∧ NilOk e' (ct xs i).length (hd hs i)
  one : ∀ i, i < xs.length → (hd hs i).oneCell' = true
  sub : ∀ i b, Fs i b → i < xs.length ∧ F b ∧ hdr.ownBlock ≠ some b
  dis : ∀ i j b, i ≠ j → Fs i b → ¬ Fs j b
  own : ∀ b, hdr.ownBlock = some b → F b
theorem parts {e e' : TypeId} {k : IntKind} {hdr : Value} {xs : List (List Int)} {F : Nat → Prop} (h : RowRep w e 1 (Rep Z w true (.sl e' (.int k))) hdr xs F) : ∃ hs Fs, Parts w e e' k hdr xs F hs Fs := by
  obtain ⟨inner, ho, hb, Fs, hel, hsub, hd0⟩ := h
  have hl : inner.length = xs.length := by have := ho.1; omega
  have one : ∀ i, i < xs.length → (inner.drop (i * 1)).take 1 = [hd inner i] := fun i hi => by
    rw [Nat.mul_one]
    have e : inner[i]'(by omega) = hd inner i := Option.some.inj ((List.getElem?_eq_getElem (by omega)).symm.trans (hd_get (hs := inner) (i := i) (by omega)))
    rw [List.drop_eq_getElem_cons (by omega : i < inner.length), e]
    rfl
  have el : ∀ i, i < xs.length → RowRep w e' 1 (Rep Z w true (.int k)) (hd inner i) (ct xs i) (Fs i) ∧ NilOk e' (ct xs i).length (hd inner i) := fun i hi => by
    obtain ⟨h1, h2, h3, h4⟩ := hel i _ (ct_get hi)
    rw [one i hi] at h2
    cases h2
    exact ⟨h3, h4⟩
  refine ⟨inner, fun i b => i < xs.length ∧ Fs i b, hl, fun Z2 => ⟨inner, by rw [hl]; exact ho, fun b hb' => hb', fun _ _ => False, fun j p hp => ?_, fun _ _ h => h.elim, fun _ _ _ _ h => h.elim⟩, fun i hi => ?_, fun i hi => ?_, fun i b hb' => ⟨hb'.1, hsub i b hb'.2⟩, fun i j b hij h1 h2 => hd0 i j b hij h1.2 h2.2, hb⟩
  · have hj : j < xs.length := by have := (List.getElem?_eq_some_iff.1 hp).1; omega
    have e := hd_get (hs := inner) (i := j) (by omega)
    rw [hp] at e
    cases e
    obtain ⟨⟨inner2, h1, _⟩, _⟩ := el j hj
    exact ⟨one j hj, owns_one h1⟩
  · obtain ⟨h1, h2⟩ := el i hi
    exact ⟨RowRep.imp h1 (fun b hb' => ⟨hi, hb'⟩) (fun _ _ => rfl) fun p cs G _ hp => hp, h2⟩
  · obtain ⟨⟨inner2, h1, _⟩, _⟩ := el i hi
    exact owns_one h1
theorem unparts {e e' : TypeId} {k : IntKind} {hdr hdr' : Value} {xs : List (List Int)} {F Fr : Nat → Prop} {hs hs' : List Value} {Fs : Nat → Nat → Prop} {w' : World} {Z Z2 : Nat → Prop} (h : Parts w e e' k hdr xs F hs Fs) (hsm : ∀ i b, Fs i b → w'.heap[b]? = w.heap[b]?)
    (hr : RowRep w' e 1 (Rep Z2 w' true .raw) hdr' hs' Fr) (hdis : ∀ i b, Fs i b → ¬ Fr b) {sel : List Nat} (hnd : sel.Nodup) (hlt : ∀ i ∈ sel, i < xs.length) (hsel : hs' = sel.map (hd hs)) :
    RowRep w' e 1 (Rep Z w' true (.sl e' (.int k))) hdr' (sel.map (ct xs)) (fun b => Fr b ∨ ∃ i ∈ sel, Fs i b) := by
  obtain ⟨inner, ho, hb, Fs2, hel, hsub, hd0⟩ := hr
  have hlen : hs'.length = (sel.map (ct xs)).length := by rw [hsel, List.length_map, List.length_map]
  refine ⟨inner, by rw [← hlen]; exact ho, fun b hb' => .inl (hb b hb'), fun j b => ∃ i, sel[j]? = some i ∧ Fs i b, fun j p hp => ?_, fun j b hb' => ?_, fun j j2 b hne h1 h2 => ?_⟩
  · rw [List.getElem?_map] at hp
    cases hi : sel[j]? with
    | none => rw [hi] at hp; cases hp
    | some i =>
      rw [hi] at hp
      cases hp
      have hm : i < xs.length := hlt i (List.mem_of_getElem? hi)
      have h1 := hel j (hd hs i) (by rw [hsel, List.getElem?_map, hi]; rfl)
      have h1 : (inner.drop (j * 1)).take 1 = [hd hs i] ∧ _ := h1
      obtain ⟨k1, k2⟩ := h.el i hm
      refine ⟨hd hs i, h1.1, ?_, k2⟩
      exact RowRep.imp k1 (fun b hb' => ⟨i, hi, hb'⟩) (fun b hb' => hsm i b hb') fun p cs G _ hp => hp
  · obtain ⟨i, hi, hF⟩ := hb'
    exact ⟨.inr ⟨i, List.mem_of_getElem? hi, hF⟩, fun e => hdis i b hF (hb b e)⟩
  · obtain ⟨i, hi, hF⟩ := h1
    obtain ⟨i2, hi2, hF2⟩ := h2
    by_cases e : i = i2
    · subst e
      have hj := (List.getElem?_eq_some_iff.1 hi).1
      exact hne ((List.getElem?_inj hj hnd).1 (hi.trans hi2.symm))
    · exact h.dis i i2 b e hF hF2
theorem Parts.view {e e' : TypeId} {k : IntKind} {hdr : Value} {xs : List (List Int)} {F : Nat → Prop} {hs : List Value} {Fs : Nat → Nat → Prop} (h : Parts w e e' k hdr xs F hs Fs) {w1 : World} (hsm : ∀ i b, Fs i b → w1.heap[b]? = w.heap[b]?) {i : Nat} (hi : i < xs.length) :
    Rep (fun b => ∃ i, Fs i b) w1 false (.sl e' (.int k)) (ct xs i) [hd hs i] fun _ => False := by
  obtain ⟨k1, k2⟩ := h.el i hi
  have k3 : Rep (fun _ => False) w1 true (.sl e' (.int k)) (ct xs i) [hd hs i] (Fs i) := ⟨hd hs i, rfl, RowRep.imp k1 (fun _ h => h) (fun b hb => hsm i b hb) fun p cs G _ hp => hp, k2⟩
  exact Rep.imp _ (Rep.view _ (fun _ => False) k3) (fun b hb => hb.elim (fun h => h.elim) fun h => ⟨i, h⟩) (fun _ h => h) (fun _ _ => rfl) (fun _ _ => rfl)
theorem Parts.same {e e' : TypeId} {k : IntKind} {hdr : Value} {xs : List (List Int)} {F : Nat → Prop} {hs : List Value} {Fs : Nat → Nat → Prop} (h : Parts w e e' k hdr xs F hs Fs) {i j : Nat} (hi : i < xs.length) (hj : j < xs.length) (he : hd hs i = hd hs j) : ct xs i = ct xs j := by
  obtain ⟨⟨in1, o1, b1, G1, e1, _, _⟩, _⟩ := h.el i hi
  obtain ⟨⟨in2, o2, b2, G2, e2, _, _⟩, _⟩ := h.el j hj
  rw [← he] at o2 b2
  by_cases hij : i = j
  · rw [hij]
  have nil : ∀ {v : Value} {n m : Nat} {a b : List Value}, (v = .slice none 0 0 ∧ n = 0) → w.ownsRow 0 e' 1 v m b → m = 0 := fun {v n m a b} h1 h2 => by
    rcases h2.2 with h | ⟨g, cap, cur, h, _⟩
    · exact h.2
    · rw [h1.1] at h; cases h
  rcases o1.2 with q1 | ⟨g1, cap1, cur1, q1, _⟩
  · have n1 : (ct xs i).length = 0 := q1.2
    have n2 : (ct xs j).length = 0 := nil (a := in1) q1 o2
    rw [List.length_eq_zero_iff.1 n1, List.length_eq_zero_iff.1 n2]
  · have f1 := b1 g1 (by rw [q1]; rfl)
    have f2 := b2 g1 (by rw [q1]; rfl)
    exact absurd f2 (h.dis i j g1 hij f1)
noncomputable def cont (hs : List Value) (xs : List (List Int)) (v : Value) : Option (List Int) := (hs.findIdx? fun u => @decide (u = v) (Classical.propDecidable _)).map (ct xs)
theorem Parts.cont {e e' : TypeId} {k : IntKind} {hdr : Value} {xs : List (List Int)} {F : Nat → Prop} {hs : List Value} {Fs : Nat → Nat → Prop} (h : Parts w e e' k hdr xs F hs Fs) {i : Nat} (hi : i < xs.length) : D.cont hs xs (hd hs i) = some (ct xs i) := by
  have hl := h.len
  unfold D.cont
  cases hf : hs.findIdx? (fun u => @decide (u = hd hs i) (Classical.propDecidable _)) with
  | none =>
    rw [List.findIdx?_eq_none_iff] at hf
    have := hf (hd hs i) (List.mem_of_getElem? (hd_get (by omega)))
    simp at this
  | some j =>
    rw [List.findIdx?_eq_some_iff_getElem] at hf
    obtain ⟨hj, h1, _⟩ := hf
    have e : hd hs j = hd hs i := by
      have h2 : hs[j] = hd hs j := Option.some.inj ((List.getElem?_eq_getElem hj).symm.trans (hd_get hj))
      rw [← h2]
      simpa using h1
    show some (ct xs j) = _
    rw [h.same (by omega) hi e]
theorem cont_some {hs : List Value} {xs : List (List Int)} (hl : hs.length = xs.length) {v : Value} {c : List Int} (h : cont hs xs v = some c) : ∃ i, i < xs.length ∧ hd hs i = v ∧ ct xs i = c := by
  unfold cont at h
  cases hf : hs.findIdx? (fun u => @decide (u = v) (Classical.propDecidable _)) with
  | none => rw [hf] at h; cases h
  | some j =>
    rw [hf] at h
    cases h
    rw [List.findIdx?_eq_some_iff_getElem] at hf
    obtain ⟨hj, h1, _⟩ := hf
    have h2 : hs[j] = hd hs j := Option.some.inj ((List.getElem?_eq_getElem hj).symm.trans (hd_get hj))
    exact ⟨j, by omega, by rw [← h2]; simpa using h1, rfl⟩
end
def Good2 {β : Type} (f : List Value → (Value → Value → Option β) → Option (List Value)) (xs : List (List Int)) (c : List Int → List Int → Option β) (ys : List (List Int)) : Prop :=
  ∀ (hs : List Value) (c' : Value → Value → Option β), hs.length = xs.length → (∀ i j, i < xs.length → j < xs.length → c' (hd hs i) (hd hs j) = c (ct xs i) (ct xs j)) → ∃ hs', f hs c' = some hs' ∧ Sel hs xs hs' ys
noncomputable def G2 {β : Type} (f : List Value → (Value → Value → Option β) → Option (List Value)) (xs : List (List Int)) (c : List Int → List Int → Option β) : Option (List (List Int)) := open Classical in if h : ∃ ys, Good2 f xs c ys then some (Classical.choose h) else none
def Good1 {β : Type} (f : List Value → (Value → Option β) → Option (List Value)) (xs : List (List Int)) (c : List Int → Option β) (ys : List (List Int)) : Prop :=
  ∀ (hs : List Value) (c' : Value → Option β), hs.length = xs.length → (∀ i, i < xs.length → c' (hd hs i) = c (ct xs i)) → ∃ hs', f hs c' = some hs' ∧ Sel hs xs hs' ys
noncomputable def G1 {β : Type} (f : List Value → (Value → Option β) → Option (List Value)) (xs : List (List Int)) (c : List Int → Option β) : Option (List (List Int)) := open Classical in if h : ∃ ys, Good1 f xs c ys then some (Classical.choose h) else none
def labels (n : Nat) : List Value := (List.range n).map fun (i : Nat) => Value.int .i64 (i : Int)
theorem labels_hd {n i : Nat} (h : i < n) : hd (labels n) i = .int .i64 (i : Int) := by
  unfold hd labels
  simp [List.getD_eq_getElem?_getD, h]
theorem Sel.uniq {xs : List (List Int)} {hs' : List Value} {ys zs : List (List Int)} (h : Sel (labels xs.length) xs hs' ys) (k : Sel (labels xs.length) xs hs' zs) : ys = zs := by
  obtain ⟨s1, _, l1, e1, rfl⟩ := h
  obtain ⟨s2, _, l2, e2, rfl⟩ := k
  have : s1 = s2 := by
    have e := e1.symm.trans e2
    have m : ∀ (s : List Nat), (∀ i ∈ s, i < xs.length) → s.map (hd (labels xs.length)) = s.map fun (i : Nat) => Value.int .i64 (i : Int) := fun s hs => List.map_congr_left fun i hi => labels_hd (hs i hi)
    rw [m s1 l1, m s2 l2] at e
    exact (List.map_inj_right (fun a b h => by injection h with _ h; omega)).1 e
  rw [this]
noncomputable def lab2 {β : Type} (xs : List (List Int)) (c : List Int → List Int → Option β) : Value → Value → Option β
  | .int _ i, .int _ j => c (ct xs i.toNat) (ct xs j.toNat)
  | _, _ => none
theorem G2_eq {β : Type} {f : List Value → (Value → Value → Option β) → Option (List Value)} {xs : List (List Int)} {c : List Int → List Int → Option β} {ys : List (List Int)} (h : Good2 f xs c ys) : G2 f xs c = some ys := by
  unfold G2
  have he : ∃ ys, Good2 f xs c ys := ⟨ys, h⟩
  rw [dif_pos he]
  have h2 := Classical.choose_spec he
  have hl : (labels xs.length).length = xs.length := by simp [labels]
  have hc : ∀ i j, i < xs.length → j < xs.length → lab2 xs c (hd (labels xs.length) i) (hd (labels xs.length) j) = c (ct xs i) (ct xs j) := fun i j hi hj => by rw [labels_hd hi, labels_hd hj]; show c (ct xs ((i : Int)).toNat) (ct xs ((j : Int)).toNat) = _; rw [Int.toNat_natCast, Int.toNat_natCast]
  obtain ⟨a, a1, a2⟩ := h (labels xs.length) (lab2 xs c) hl hc
  obtain ⟨b, b1, b2⟩ := h2 (labels xs.length) (lab2 xs c) hl hc
  rw [a1] at b1
  cases b1
  rw [Sel.uniq b2 a2]
theorem G2_inv {β : Type} {f : List Value → (Value → Value → Option β) → Option (List Value)} {xs : List (List Int)} {c : List Int → List Int → Option β} {ys : List (List Int)} (h : G2 f xs c = some ys) : Good2 f xs c ys := by
  unfold G2 at h
  split at h
  · rename_i he
    cases h
    exact Classical.choose_spec he
  · cases h
end Go.Proofs.Ytjknpaplgclflaa.D
set_option linter.unusedVariables false
namespace Go.Proofs.Ytjknpaplgclflaa.D
open Go Go.RowKit
section
variable {P : Program} {B Z : Nat → Prop} {w : World} {e e' : TypeId} {k : IntKind} {hdr : Value} {xs : List (List Int)} {F : Nat → Prop} {hs : List Value} {Fs : Nat → Nat → Prop} {r : Ty}
theorem cells_of_one {u v : Value} (h1 : u.cells.toList = [v]) (h2 : u.oneCell' = true) : u = v := by
  cases u <;> simp [Value.oneCell', Value.cells] at h1 h2 ⊢ <;> exact h1
theorem fn2_raw (h : Parts w e e' k hdr xs F hs Fs) {f : dens [.sl e' (.int k), .sl e' (.int k)] → Option r.den} {v : Value} (hf : FnR P (fun b => Z b ∨ B b) w [.sl e' (.int k), .sl e' (.int k)] r f v) (hlt : ∀ i b, Fs i b → b < w.heap.size) :
    FnR P (fun b => (Z b ∨ ∃ i, Fs i b) ∨ B b) w [.raw, .raw] r (fun z => (cont hs xs z.1).bind fun a => (cont hs xs z.2.1).bind fun b => f (a, (b, ()))) v := by
  obtain ⟨g, first, caps, q1, q2, q3⟩ := hf
  refine ⟨g, first, caps, q1, q2, fun w1 Z1 z y vs hsm hy hZ1 hargs => ?_⟩
  obtain ⟨u1, cs1, r1, rfl, c1, o1, rep1, u2, cs2, r2, rfl, c2, o2, rep2, rfl⟩ := hargs
  obtain ⟨rfl, _⟩ := rep1
  obtain ⟨rfl, _⟩ := rep2
  have e1 := cells_of_one c1 (o1 rfl)
  have e2 := cells_of_one c2 (o2 rfl)
  obtain ⟨a, ha, hy⟩ := Option.bind_eq_some_iff.1 hy
  obtain ⟨b, hb, hy⟩ := Option.bind_eq_some_iff.1 hy
  obtain ⟨i, hi, i1, rfl⟩ := cont_some h.len ha
  obtain ⟨j, hj, j1, rfl⟩ := cont_some h.len hb
  have hsm2 : ∀ i b, Fs i b → w1.heap[b]? = w.heap[b]? := fun i b hb => hsm b (.inl (.inr ⟨i, hb⟩))
  have hsz : ∀ b, (∃ i, Fs i b) → b < w1.heap.size := fun b ⟨i, hb⟩ => by
    have h0 := hlt i b hb
    have h1 := hsm2 i b hb
    rw [Array.getElem?_eq_getElem h0] at h1
    exact (Array.getElem?_eq_some_iff.1 h1).1
  have v1 := h.view hsm2 hi
  have v2 := h.view hsm2 hj
  rw [i1, ← e1] at v1
  rw [j1, ← e2] at v2
  refine q3 w1 (fun b => ∃ i, Fs i b) (ct xs i, (ct xs j, ())) y [u1, u2] (fun b hb => hsm b (hb.elim (fun h => .inl (.inl h)) .inr)) hy hsz ⟨u1, [u1], [u2], rfl, by rw [c1, e1], o1, v1, u2, [u2], [], rfl, by rw [c2, e2], o2, v2, rfl⟩
end
theorem deep_sort {P : Program} {g : FuncId} {e e' : TypeId} {k : IntKind} {r : Ty} {f : List Value → (Value → Value → Option r.den) → Option (List Value)}
    (hv : Valid P g ⟨[.one (.own e true .raw), .one (.fn [.raw, .raw] r)], [], List Value, fun x => f x.1 (fun a b => x.2.1 (a, (b, ()))), fun y => ((), (y, ()))⟩) :
    Valid P g ⟨[.one (.own e true (.sl e' (.int k))), .one (.fn [.sl e' (.int k), .sl e' (.int k)] r)], [], List (List Int), fun x => G2 f x.1 (fun a b => x.2.1 (a, (b, ()))), fun y => ((), (y, ()))⟩ := by
  refine ⟨hv.1, fun x ys hx Z B S w vs ha hS hZ hB => ?_⟩
  obtain ⟨v, vs', F0, F1, rfl, h1, ⟨v2, vs2, F2, F3, rfl, h2, h3, _⟩, hF0, hF1, hF01⟩ := ha
  cases h3
  have h1 : RowRep w e 1 (Rep Z w true (.sl e' (.int k))) v x.1 F0 := h1
  have h2 : FnR P (fun b => Z b ∨ B b) w [.sl e' (.int k), .sl e' (.int k)] r x.2.1 v2 := h2
  obtain ⟨hs, Fs, hp⟩ := parts h1
  have hFS : ∀ i b, Fs i b → S b := fun i b hb => hF0 b (hp.sub i b hb).2.1
  have hlt : ∀ i b, Fs i b → b < w.heap.size := fun i b hb => (hS b (hFS i b hb)).2.2
  have hfn := fn2_raw (P := P) (B := B) (Z := Z) hp h2 hlt
  obtain ⟨hs', hf, sel, hnd, hsl, e1, e2⟩ := G2_inv hx hs (fun a b => (cont hs x.1 a).bind fun a => (cont hs x.1 b).bind fun b => x.2.1 (a, (b, ()))) hp.len (fun i j hi hj => by rw [hp.cont hi, hp.cont hj]; rfl)
  have hcall := hv.2 (hs, ((fun z => (cont hs x.1 z.1).bind fun a => (cont hs x.1 z.2.1).bind fun b => x.2.1 (a, (b, ()))), ())) hs' hf (fun b => Z b ∨ ∃ i, Fs i b) B (fun b => v.ownBlock = some b) w [v, v2]
    ⟨v, [v2], fun b => v.ownBlock = some b, fun _ => False, rfl, hp.raw _, ⟨v2, [], fun _ => False, fun _ => False, rfl, hfn, rfl, fun _ h => h, fun _ h => h, fun _ h => h.elim⟩, fun _ h => h, fun _ h => h.elim, fun _ _ h => h⟩
    (fun b hb => ⟨fun hz => hz.elim (hS b (hF0 b (hp.own b hb))).1 fun ⟨i, hi⟩ => (hp.sub i b hi).2.2 hb, (hS b (hF0 b (hp.own b hb))).2⟩) (fun b hb => hb.elim (hZ b) fun ⟨i, hi⟩ => hlt i b hi) hB
  refine hcall.mono ?_
  rintro en w' ⟨u, rfl, Z', Fi, Fo, q⟩
  obtain ⟨u1, us1, G0, G1, eu, hrow, _, hG0, _, _⟩ := q.io
  cases eu
  have hrow : RowRep w' e 1 (Rep Z' w' true .raw) v hs' G0 := hrow
  have hsm : ∀ i b, Fs i b → w'.heap[b]? = w.heap[b]? := fun i b hb => q.old b (hlt i b hb) (hp.sub i b hb).2.2
  have hdeep := unparts (Z := Z) hp hsm hrow (fun i b hb hg => (q.new b (.inl (hG0 b hg))).2.2 (q.zm b (.inr ⟨i, hb⟩))) hnd hsl e1
  rw [← e2] at hdeep
  obtain ⟨us, hu, hus⟩ := q.out
  have hus : us = [] := hus
  subst hus
  refine ⟨u, rfl, Z, fun b => G0 b ∨ ∃ i ∈ sel, Fs i b, fun _ => False, ⟨⟨v, [v2], _, fun _ => False, rfl, hdeep, ⟨v2, [], fun _ => False, fun _ => False, rfl, trivial, trivial, fun _ h => h, fun _ h => h, fun _ h => h.elim⟩, fun _ h => h, fun _ h => h.elim, fun _ _ h => h⟩, ⟨[], hu, rfl⟩, fun _ _ h => h, fun b hb => ?_, fun _ h => h, fun b hb => ⟨.inl hb, Nat.lt_of_lt_of_le (hZ b hb) q.size⟩, q.os, q.tape, q.output, q.size, fun b hb hn => q.old b hb fun hb' => hn (hF0 b (hp.own b hb'))⟩⟩
  rcases hb with (hb | ⟨i, hi, hb⟩) | hb
  · obtain ⟨n1, n2, n3⟩ := q.new b (.inl (hG0 b hb))
    exact ⟨n1.imp (fun h => hF0 b (hp.own b h)) id, n2, fun hz => n3 (q.zm b (.inl hz))⟩
  · exact ⟨.inl (hFS i b hb), Nat.lt_of_lt_of_le (hlt i b hb) q.size, (hS b (hFS i b hb)).1⟩
  · exact hb.elim
theorem deep_eat2 {P : Program} {g : FuncId} {e e' : TypeId} {k : IntKind} {r : Ty} {f : List Value → (Value → Value → Option r.den) → Option (List Value)}
    (hv : Valid P g ⟨[.eat e true .raw, .one (.fn [.raw, .raw] r)], [.one (.own e true .raw)], List Value, fun x => f x.1 (fun a b => x.2.1 (a, (b, ()))), fun y => ((y, ()), ())⟩) :
    Valid P g ⟨[.eat e true (.sl e' (.int k)), .one (.fn [.sl e' (.int k), .sl e' (.int k)] r)], [.one (.own e true (.sl e' (.int k)))], List (List Int), fun x => G2 f x.1 (fun a b => x.2.1 (a, (b, ()))), fun y => ((y, ()), ())⟩ := by
  refine ⟨hv.1, fun x ys hx Z B S w vs ha hS hZ hB => ?_⟩
  obtain ⟨v, vs', F0, F1, rfl, h1, ⟨v2, vs2, F2, F3, rfl, h2, h3, _⟩, hF0, hF1, hF01⟩ := ha
  cases h3
  have h1 : RowRep w e 1 (Rep Z w true (.sl e' (.int k))) v x.1 F0 := h1
  have h2 : FnR P (fun b => Z b ∨ B b) w [.sl e' (.int k), .sl e' (.int k)] r x.2.1 v2 := h2
  obtain ⟨hs, Fs, hp⟩ := parts h1
  have hFS : ∀ i b, Fs i b → S b := fun i b hb => hF0 b (hp.sub i b hb).2.1
  have hlt : ∀ i b, Fs i b → b < w.heap.size := fun i b hb => (hS b (hFS i b hb)).2.2
  have hfn := fn2_raw (P := P) (B := B) (Z := Z) hp h2 hlt
  obtain ⟨hs', hf, sel, hnd, hsl, e1, e2⟩ := G2_inv hx hs (fun a b => (cont hs x.1 a).bind fun a => (cont hs x.1 b).bind fun b => x.2.1 (a, (b, ()))) hp.len (fun i j hi hj => by rw [hp.cont hi, hp.cont hj]; rfl)
  have hcall := hv.2 (hs, ((fun z => (cont hs x.1 z.1).bind fun a => (cont hs x.1 z.2.1).bind fun b => x.2.1 (a, (b, ()))), ())) hs' hf (fun b => Z b ∨ ∃ i, Fs i b) B (fun b => v.ownBlock = some b) w [v, v2]
    ⟨v, [v2], fun b => v.ownBlock = some b, fun _ => False, rfl, hp.raw _, ⟨v2, [], fun _ => False, fun _ => False, rfl, hfn, rfl, fun _ h => h, fun _ h => h, fun _ h => h.elim⟩, fun _ h => h, fun _ h => h.elim, fun _ _ h => h⟩
    (fun b hb => ⟨fun hz => hz.elim (hS b (hF0 b (hp.own b hb))).1 fun ⟨i, hi⟩ => (hp.sub i b hi).2.2 hb, (hS b (hF0 b (hp.own b hb))).2⟩) (fun b hb => hb.elim (hZ b) fun ⟨i, hi⟩ => hlt i b hi) hB
  refine hcall.mono ?_
  rintro en w' ⟨u, rfl, Z', Fi, Fo, q⟩
  obtain ⟨us, hu, u1, us1, G0, G1, rfl, hrow, hus1, hG0, _, _⟩ := q.out
  have hus1 : us1 = [] := hus1
  subst hus1
  have hrow : RowRep w' e 1 (Rep Z' w' true .raw) u1 hs' G0 := hrow
  have hsm : ∀ i b, Fs i b → w'.heap[b]? = w.heap[b]? := fun i b hb => q.old b (hlt i b hb) (hp.sub i b hb).2.2
  have hdeep := unparts (Z := Z) hp hsm hrow (fun i b hb hg => (q.new b (.inr (hG0 b hg))).2.2 (q.zm b (.inr ⟨i, hb⟩))) hnd hsl e1
  rw [← e2] at hdeep
  refine ⟨u, rfl, Z, fun _ => False, fun b => G0 b ∨ ∃ i ∈ sel, Fs i b, ⟨⟨v, [v2], fun _ => False, fun _ => False, rfl, trivial, ⟨v2, [], fun _ => False, fun _ => False, rfl, trivial, trivial, fun _ h => h, fun _ h => h, fun _ h => h.elim⟩, fun _ h => h, fun _ h => h, fun _ h => h.elim⟩, ⟨[u1], hu, u1, [], _, fun _ => False, rfl, hdeep, rfl, fun _ h => h, fun _ h => h.elim, fun _ _ h => h⟩, fun _ h => h.elim, fun b hb => ?_, fun _ h => h, fun b hb => ⟨.inl hb, Nat.lt_of_lt_of_le (hZ b hb) q.size⟩, q.os, q.tape, q.output, q.size, fun b hb hn => q.old b hb fun hb' => hn (hF0 b (hp.own b hb'))⟩⟩
  rcases hb with hb | hb | ⟨i, hi, hb⟩
  · exact hb.elim
  · obtain ⟨n1, n2, n3⟩ := q.new b (.inr (hG0 b hb))
    exact ⟨n1.imp (fun h => hF0 b (hp.own b h)) id, n2, fun hz => n3 (q.zm b (.inl hz))⟩
  · exact ⟨.inl (hFS i b hb), Nat.lt_of_lt_of_le (hlt i b hb) q.size, (hS b (hFS i b hb)).1⟩
end Go.Proofs.Ytjknpaplgclflaa.D
set_option linter.unusedVariables false
namespace Go.Proofs.Ytjknpaplgclflaa.P
open Go Go.RowKit Go.Proofs.Ytjknpaplgclflaa.D
noncomputable def slices_SortFunc_int64.f (l0 : List (List Int)) (f1 : (List Int) → (List Int) → Option Int) : Option (List (List Int)) := G2 R.slices_SortFunc_int64.f l0 f1
noncomputable def slices_SortFunc_int64.con : Con := ⟨[.one (.own 25 true (.sl 2 (.int .i64))), .one (.fn [(.sl 2 (.int .i64)), (.sl 2 (.int .i64))] (.int .i64))], [], List (List Int), fun x => slices_SortFunc_int64.f x.1 (fun z0 z1 => x.2.1 (z0, z1, ())), fun r => ((()), (r, ()))⟩
theorem slices_SortFunc_int64.valid : Valid Try.prog 49 slices_SortFunc_int64.con := deep_sort R.slices_SortFunc_int64.valid
end Go.Proofs.Ytjknpaplgclflaa.P
set_option linter.unusedVariables false
namespace Go.Proofs.Ytjknpaplgclflaa.P
open Go Go.RowKit Go.Proofs.Ytjknpaplgclflaa.D
noncomputable def cmp_isNaN_int64.E : Env := { tt := TT, con := [], frz := [], rows := [], live := [], n := 6, pin := 0, nils := [] }
noncomputable def cmp_isNaN_int64.fn : D.Fn := { body := Try.f86.body.getD .skip, res := Try.f86.results.toList, ins := [.one (.v (.int .i64))], outs := [.one (.v .bool)] }
def cmp_isNaN_int64.enc (y : lsd (flats cmp_isNaN_int64.fn.outs) × lsd (ios cmp_isNaN_int64.fn.ins)) : Bool := y.1.1
noncomputable def cmp_isNaN_int64.f (a0 : Int) : Option Bool := denF cmp_isNaN_int64.E cmp_isNaN_int64.fn cmp_isNaN_int64.enc (a0, ())
set_option maxRecDepth 100000 in
theorem cmp_isNaN_int64.f_eq (a0 : Int) : cmp_isNaN_int64.f a0 = some (!decide (a0 = a0)) := by kernel_rfl
noncomputable def cmp_isNaN_int64.con : Con := ⟨cmp_isNaN_int64.fn.ins, cmp_isNaN_int64.fn.outs, Bool, fun x => cmp_isNaN_int64.f x.1, fun r => ((r, ()), (()))⟩
theorem cmp_isNaN_int64.valid : Valid Try.prog 86 cmp_isNaN_int64.con := fn_valid (f := cmp_isNaN_int64.fn) (E := cmp_isNaN_int64.E) (enc := cmp_isNaN_int64.enc) ⟨ttOk, conNil⟩ (Checked.mixed Try.checked) ⟨Try.func86, by kernel_rfl, by kernel_rfl, by kernel_rfl, by kernel_rfl, by decide, by kernel_rfl, by kernel_rfl⟩ (fun _ => rfl)
end Go.Proofs.Ytjknpaplgclflaa.P
set_option linter.unusedVariables false
namespace Go.Proofs.Ytjknpaplgclflaa.P
open Go Go.RowKit Go.Proofs.Ytjknpaplgclflaa.D
noncomputable def cmp_Compare_int64.E : Env := { tt := TT, con := [(86, cmp_isNaN_int64.con)], frz := [], rows := [], live := [], n := 20, pin := 0, nils := [] }
noncomputable def cmp_Compare_int64.fn : D.Fn := { body := Try.f65.body.getD .skip, res := Try.f65.results.toList, ins := [.one (.v (.int .i64)), .one (.v (.int .i64))], outs := [.one (.v (.int .i64))] }
def cmp_Compare_int64.enc (y : lsd (flats cmp_Compare_int64.fn.outs) × lsd (ios cmp_Compare_int64.fn.ins)) : Int := y.1.1
noncomputable def cmp_Compare_int64.f (a0 : Int) (a1 : Int) : Option Int := denF cmp_Compare_int64.E cmp_Compare_int64.fn cmp_Compare_int64.enc (a0, a1, ())
set_option maxRecDepth 100000 in
theorem cmp_Compare_int64.f_eq (a0 : Int) (a1 : Int) : cmp_Compare_int64.f a0 a1 = (cmp_isNaN_int64.f a0).bind fun t8 => (cmp_isNaN_int64.f a1).bind fun t10 => if t8 = true then (if t10 = true then (some 0) else (some (-1))) else (if t10 = true then (some 1) else (if a0 < a1 then (some (-1)) else (if a0 > a1 then (some 1) else (some 0)))) := by kernel_rfl
noncomputable def cmp_Compare_int64.con : Con := ⟨cmp_Compare_int64.fn.ins, cmp_Compare_int64.fn.outs, Int, fun x => cmp_Compare_int64.f x.1 x.2.1, fun r => ((r, ()), (()))⟩
theorem cmp_Compare_int64.valid : Valid Try.prog 65 cmp_Compare_int64.con := fn_valid (f := cmp_Compare_int64.fn) (E := cmp_Compare_int64.E) (enc := cmp_Compare_int64.enc) ⟨ttOk, (conCons cmp_isNaN_int64.valid conNil)⟩ (Checked.mixed Try.checked) ⟨Try.func65, by kernel_rfl, by kernel_rfl, by kernel_rfl, by kernel_rfl, by decide, by kernel_rfl, by kernel_rfl⟩ (fun _ => rfl)
end Go.Proofs.Ytjknpaplgclflaa.P
set_option linter.unusedVariables false
namespace Go.Proofs.Ytjknpaplgclflaa.P
open Go Go.RowKit Go.Proofs.Ytjknpaplgclflaa.D
noncomputable def slices_Compare_int64.E : Env := { tt := TT, con := [(65, cmp_Compare_int64.con)], frz := [], rows := [], live := [(2, [0, 1, 9, 10, 11])], n := 36, pin := 0, nils := [] }
noncomputable def slices_Compare_int64.fn : D.Fn := { body := Try.f50.body.getD .skip, res := Try.f50.results.toList, ins := [.one (.v (.sl 2 (.int .i64))), .one (.v (.sl 2 (.int .i64)))], outs := [.one (.v (.int .i64))] }
def slices_Compare_int64.enc (y : lsd (flats slices_Compare_int64.fn.outs) × lsd (ios slices_Compare_int64.fn.ins)) : Int := y.1.1
noncomputable def slices_Compare_int64.f (l0 : List Int) (l1 : List Int) : Option Int := denF slices_Compare_int64.E slices_Compare_int64.fn slices_Compare_int64.enc (l0, l1, ())
noncomputable def slices_Compare_int64.l0 (x0 : List Int) (x1 : List Int) (x9 : List Int) (x10 : Int) (x11 : Int) : Option Int := denAt slices_Compare_int64.E slices_Compare_int64.fn slices_Compare_int64.enc [1, 0, 1, 0] { fr := [(0, .lf (.sl (.int .i64) x0)), (1, .lf (.sl (.int .i64) x1)), (9, .lf (.sl (.int .i64) x9)), (10, .lf (.int .i64 x10)), (11, .lf (.int .i64 x11))], ob := [], nx := 0 }
set_option maxRecDepth 100000 in
theorem slices_Compare_int64.f_eq (l0 : List Int) (l1 : List Int) : slices_Compare_int64.f l0 l1 = slices_Compare_int64.l0 l0 l1 l0 (l0.length : Int) 0 := by kernel_rfl
set_option maxRecDepth 100000 in
theorem slices_Compare_int64.l0_eq (x0 : List Int) (x1 : List Int) (x9 : List Int) (x10 : Int) (x11 : Int) : slices_Compare_int64.l0 x0 x1 x9 x10 x11 = if x11 < x10 then (if 0 ≤ x11 then (if x11 < (x9.length : Int) then (if x11 ≥ (x1.length : Int) then (some 1) else (if 0 ≤ x11 then (if x11 < (x1.length : Int) then ((cmp_Compare_int64.f (rd x9 x11) (rd x1 x11)).bind fun t26 => if t26 = 0 then (slices_Compare_int64.l0 x0 x1 x9 x10 (wrapI (x11 + 1))) else (some t26)) else none) else none)) else none) else none) else (if (x0.length : Int) < (x1.length : Int) then (some (-1)) else (some 0)) := (loop_unfold _ _ _ _).trans (by kernel_rfl)
noncomputable def slices_Compare_int64.con : Con := ⟨slices_Compare_int64.fn.ins, slices_Compare_int64.fn.outs, Int, fun x => slices_Compare_int64.f x.1 x.2.1, fun r => ((r, ()), (()))⟩
theorem slices_Compare_int64.valid : Valid Try.prog 50 slices_Compare_int64.con := fn_valid (f := slices_Compare_int64.fn) (E := slices_Compare_int64.E) (enc := slices_Compare_int64.enc) ⟨ttOk, (conCons cmp_Compare_int64.valid conNil)⟩ (Checked.mixed Try.checked) ⟨Try.func50, by kernel_rfl, by kernel_rfl, by kernel_rfl, by kernel_rfl, by decide, by kernel_rfl, by kernel_rfl⟩ (fun _ => rfl)
end Go.Proofs.Ytjknpaplgclflaa.P
set_option linter.unusedVariables false
namespace Go.Proofs.Ytjknpaplgclflaa.R
open Go Go.RowKit Go.Proofs.Ytjknpaplgclflaa.D
noncomputable def slices_CompactFunc_int64.E : Env := { tt := TT, con := [], frz := [], rows := [], live := [(4, [0, 1, 5]), (9, [0, 1, 5, 6, 7])], n := 66, pin := 0, nils := [] }
noncomputable def slices_CompactFunc_int64.fn : D.Fn := { body := Try.f51.body.getD .skip, res := Try.f51.results.toList, ins := [.eat 25 true .raw, .one (.fn [.raw, .raw] .bool)], outs := [.one (.own 25 true .raw)] }
def slices_CompactFunc_int64.enc (y : lsd (flats slices_CompactFunc_int64.fn.outs) × lsd (ios slices_CompactFunc_int64.fn.ins)) : (List Value) := y.1.1
noncomputable def slices_CompactFunc_int64.f (l0 : List Value) (f1 : Value → Value → Option Bool) : Option (List Value) := denF slices_CompactFunc_int64.E slices_CompactFunc_int64.fn slices_CompactFunc_int64.enc (l0, fun x => f1 x.1 x.2.1, ())
noncomputable def slices_CompactFunc_int64.l0 (fx1 : Value → Value → Option Bool) (x5 : Int) (r0 : List Value) : Option (List Value) := denAt slices_CompactFunc_int64.E slices_CompactFunc_int64.fn slices_CompactFunc_int64.enc [1, 1, 0, 1, 0] { fr := [(0, .lf (.own 0)), (1, .lf (.fn [.raw, .raw] .bool (fun x => fx1 x.1 x.2.1))), (5, .lf (.int .i64 x5))], ob := [(0, .row 25 true .raw r0)], nx := 1 }
noncomputable def slices_CompactFunc_int64.l1 (fx1 : Value → Value → Option Bool) (x5 : Int) (x6 : Nat) (x7 : Int) (r0 : List Value) : Option (List Value) := denAt slices_CompactFunc_int64.E slices_CompactFunc_int64.fn slices_CompactFunc_int64.enc [1, 1, 0, 1, 0, 0, 1, 0, 0, 1, 0, 1, 0, 1, 0] { fr := [(0, .lf (.own 0)), (1, .lf (.fn [.raw, .raw] .bool (fun x => fx1 x.1 x.2.1))), (5, .lf (.int .i64 x5)), (6, .lf (.sub 0 x6)), (7, .lf (.int .i64 x7))], ob := [(0, .row 25 true .raw r0)], nx := 1 }
set_option maxRecDepth 100000 in
theorem slices_CompactFunc_int64.f_eq (l0 : List Value) (f1 : Value → Value → Option Bool) : slices_CompactFunc_int64.f l0 f1 = if (l0.length : Int) < 2 then (some l0) else (slices_CompactFunc_int64.l0 f1 1 l0) := by kernel_rfl
set_option maxRecDepth 100000 in
theorem slices_CompactFunc_int64.l0_eq (fx1 : Value → Value → Option Bool) (x5 : Int) (r0 : List Value) : slices_CompactFunc_int64.l0 fx1 x5 r0 = if x5 < (r0.length : Int) then (if 0 ≤ x5 then (if x5 < (r0.length : Int) then (if 0 ≤ x5 then (if x5 < (r0.length : Int) then (if 0 ≤ wrapI (x5 - 1) then (if wrapI (x5 - 1) < (r0.length : Int) then (if 0 ≤ wrapI (x5 - 1) then (if wrapI (x5 - 1) < (r0.length : Int) then ((fx1 (Ty.rd .raw r0 x5) (Ty.rd .raw r0 (wrapI (x5 - 1)))).bind fun t28 => if t28 = true then (if 0 < (r0.length : Int) then (if 0 ≤ x5 then (if x5 ≤ (r0.length : Int) then (slices_CompactFunc_int64.l1 fx1 x5 ((x5 : Int).toNat) 1 r0) else none) else none) else none) else (slices_CompactFunc_int64.l0 fx1 (wrapI (x5 + 1)) r0)) else none) else none) else none) else none) else none) else none) else none) else none) else (some r0) := (loop_unfold _ _ _ _).trans (by kernel_rfl)
set_option maxRecDepth 100000 in
theorem slices_CompactFunc_int64.l1_eq (fx1 : Value → Value → Option Bool) (x5 : Int) (x6 : Nat) (x7 : Int) (r0 : List Value) : slices_CompactFunc_int64.l1 fx1 x5 x6 x7 r0 = if x7 < ((r0.length - x6 : Nat) : Int) then (if 0 ≤ x7 then (if (x6 : Int) + x7 < (r0.length : Int) then (if 0 ≤ (x6 : Int) + x7 then (if (x6 : Int) + x7 < (r0.length : Int) then (if 0 ≤ wrapI (x7 - 1) then (if (x6 : Int) + (wrapI (x7 - 1)) < (r0.length : Int) then (if 0 ≤ (x6 : Int) + (wrapI (x7 - 1)) then (if (x6 : Int) + (wrapI (x7 - 1)) < (r0.length : Int) then ((fx1 (Ty.rd .raw r0 ((x6 : Int) + x7)) (Ty.rd .raw r0 ((x6 : Int) + (wrapI (x7 - 1))))).bind fun t48 => if t48 = true then (slices_CompactFunc_int64.l1 fx1 x5 x6 (wrapI (x7 + 1)) r0) else (if 0 ≤ x7 then (if (x6 : Int) + x7 < (r0.length : Int) then (if 0 ≤ (x6 : Int) + x7 then (if (x6 : Int) + x7 < (r0.length : Int) then (if 0 ≤ x5 then (if x5 < (r0.length : Int) then (if 0 ≤ x5 then (if x5 < (r0.length : Int) then (slices_CompactFunc_int64.l1 fx1 (wrapI (x5 + 1)) x6 (wrapI (x7 + 1)) (r0.set (x5 : Int).toNat (Ty.rd .raw r0 ((x6 : Int) + x7)))) else none) else none) else none) else none) else none) else none) else none) else none)) else none) else none) else none) else none) else none) else none) else none) else none) else (if 0 < (r0.length : Int) then (if 0 ≤ x5 then (if x5 ≤ (r0.length : Int) then (if 0 < ((r0.take ((x5 : Int).toNat) ++ List.replicate (r0.length - ((x5 : Int).toNat)) (Value.slice none 0 0)).length : Int) then (if 0 ≤ x5 then (if x5 ≤ ((r0.take ((x5 : Int).toNat) ++ List.replicate (r0.length - ((x5 : Int).toNat)) (Value.slice none 0 0)).length : Int) then (some ((r0.take ((x5 : Int).toNat) ++ List.replicate (r0.length - ((x5 : Int).toNat)) (Value.slice none 0 0)).take (x5 : Int).toNat)) else none) else none) else none) else none) else none) else none) := (loop_unfold _ _ _ _).trans (by kernel_rfl)
noncomputable def slices_CompactFunc_int64.con : Con := ⟨slices_CompactFunc_int64.fn.ins, slices_CompactFunc_int64.fn.outs, (List Value), fun x => slices_CompactFunc_int64.f x.1 (fun z0 z1 => x.2.1 (z0, z1, ())), fun r => ((r, ()), (()))⟩
theorem slices_CompactFunc_int64.valid : Valid Try.prog 51 slices_CompactFunc_int64.con := fn_valid (f := slices_CompactFunc_int64.fn) (E := slices_CompactFunc_int64.E) (enc := slices_CompactFunc_int64.enc) ⟨ttOk, conNil⟩ (Checked.mixed Try.checked) ⟨Try.func51, by kernel_rfl, by kernel_rfl, by kernel_rfl, by kernel_rfl, by decide, by kernel_rfl, by kernel_rfl⟩ (fun _ => rfl)
end Go.Proofs.Ytjknpaplgclflaa.R
set_option linter.unusedVariables false
namespace Go.Proofs.Ytjknpaplgclflaa.P
open Go Go.RowKit Go.Proofs.Ytjknpaplgclflaa.D
noncomputable def slices_CompactFunc_int64.f (l0 : List (List Int)) (f1 : (List Int) → (List Int) → Option Bool) : Option (List (List Int)) := G2 R.slices_CompactFunc_int64.f l0 f1
noncomputable def slices_CompactFunc_int64.con : Con := ⟨[.eat 25 true (.sl 2 (.int .i64)), .one (.fn [(.sl 2 (.int .i64)), (.sl 2 (.int .i64))] .bool)], [.one (.own 25 true (.sl 2 (.int .i64)))], List (List Int), fun x => slices_CompactFunc_int64.f x.1 (fun z0 z1 => x.2.1 (z0, z1, ())), fun r => ((r, ()), (()))⟩
theorem slices_CompactFunc_int64.valid : Valid Try.prog 51 slices_CompactFunc_int64.con := deep_eat2 R.slices_CompactFunc_int64.valid
end Go.Proofs.Ytjknpaplgclflaa.P
set_option linter.unusedVariables false
namespace Go.Proofs.Ytjknpaplgclflaa.P
open Go Go.RowKit Go.Proofs.Ytjknpaplgclflaa.D
noncomputable def impl_principalMaps.E : Env := { tt := TT, con := [(48, impl_principalMap.con), (49, slices_SortFunc_int64.con), (50, slices_Compare_int64.con), (51, slices_CompactFunc_int64.con), (41, slices_Equal_int64.con)], frz := [], rows := [], live := [(3, [1, 3, 7, 8])], n := 22, pin := 0, nils := [] }
noncomputable def impl_principalMaps.fn : D.Fn := { body := Try.f31.body.getD .skip, res := Try.f31.results.toList, ins := [.agg [.v (.int .i64), .v (.sl 2 (.int .i64))]], outs := [.one (.own 25 true (.sl 2 (.int .i64)))] }
def impl_principalMaps.enc (y : lsd (flats impl_principalMaps.fn.outs) × lsd (ios impl_principalMaps.fn.ins)) : (List (List Int)) := y.1.1
noncomputable def impl_principalMaps.f (a0_0 : Int) (l0_1 : List Int) : Option (List (List Int)) := denF impl_principalMaps.E impl_principalMaps.fn impl_principalMaps.enc (a0_0, l0_1, ())
noncomputable def impl_principalMaps.l0 (x7 : Int) (x8 : Int) (b0_0 : Int) (b0_1 : List Int) (r1 : List (List Int)) : Option (List (List Int)) := denAt impl_principalMaps.E impl_principalMaps.fn impl_principalMaps.enc [1, 1, 0, 1, 0] { fr := [(1, .lf (.box 0 0)), (3, .lf (.own 1)), (7, .lf (.int .i64 x7)), (8, .lf (.int .i64 x8))], ob := [(0, .box 34 false [.int .i64 b0_0, .sl (.int .i64) b0_1]), (1, .row 25 true (.sl 2 (.int .i64)) r1)], nx := 2 }
set_option maxRecDepth 100000 in
theorem impl_principalMaps.f_eq (a0_0 : Int) (l0_1 : List Int) : impl_principalMaps.f a0_0 l0_1 = impl_principalMaps.l0 a0_0 0 a0_0 l0_1 ([] : List (List Int)) := by kernel_rfl
set_option maxRecDepth 100000 in
theorem impl_principalMaps.l0_eq (x7 : Int) (x8 : Int) (b0_0 : Int) (b0_1 : List Int) (r1 : List (List Int)) : impl_principalMaps.l0 x7 x8 b0_0 b0_1 r1 = if x8 < x7 then ((impl_principalMap.f b0_0 b0_1 x8).bind fun t14 => if r1.length + ([t14] : List (List Int)).length ≤ 5864062014805 then (impl_principalMaps.l0 x7 (wrapI (x8 + 1)) b0_0 b0_1 (r1 ++ ([t14] : List (List Int)))) else none) else ((slices_SortFunc_int64.f r1 (fun z0 z1 => (slices_Compare_int64.f z0 z1).map fun z => z)).bind fun t19 => (slices_CompactFunc_int64.f t19 (fun z0 z1 => (slices_Equal_int64.f z0 z1).map fun z => z)).bind fun t21 => some t21) := (loop_unfold _ _ _ _).trans (by kernel_rfl)
noncomputable def impl_principalMaps.con : Con := ⟨impl_principalMaps.fn.ins, impl_principalMaps.fn.outs, (List (List Int)), fun x => impl_principalMaps.f x.1 x.2.1, fun r => ((r, ()), (()))⟩
theorem impl_principalMaps.valid : Valid Try.prog 31 impl_principalMaps.con := fn_valid (f := impl_principalMaps.fn) (E := impl_principalMaps.E) (enc := impl_principalMaps.enc) ⟨ttOk, (conCons impl_principalMap.valid (conCons slices_SortFunc_int64.valid (conCons slices_Compare_int64.valid (conCons slices_CompactFunc_int64.valid (conCons slices_Equal_int64.valid conNil)))))⟩ (Checked.mixed Try.checked) ⟨Try.func31, by kernel_rfl, by kernel_rfl, by kernel_rfl, by kernel_rfl, by decide, by kernel_rfl, by kernel_rfl⟩ (fun _ => rfl)
end Go.Proofs.Ytjknpaplgclflaa.P
set_option linter.unusedVariables false
namespace Go.Proofs.Ytjknpaplgclflaa.P
open Go Go.RowKit Go.Proofs.Ytjknpaplgclflaa.D
noncomputable def impl_PrincipalMaps.E : Env := { tt := TT, con := [(30, impl_moduleCode.con), (31, impl_principalMaps.con)], frz := [], rows := [9], live := [], n := 16, pin := 0, nils := [] }
noncomputable def impl_PrincipalMaps.fn : D.Fn := { body := Try.f11.body.getD .skip, res := Try.f11.results.toList, ins := [.agg [.v (.sl 25 (.sl 2 (.int .i64)))], .agg [.v (.int .i64), .v (.sl 2 (.int .i64))]], outs := [.one (.own 25 true (.sl 2 (.int .i64))), .one (.v (.int .i64))] }
def impl_PrincipalMaps.enc (y : lsd (flats impl_PrincipalMaps.fn.outs) × lsd (ios impl_PrincipalMaps.fn.ins)) : (List (List Int)) × Int := (y.1.1, y.1.2.1)
noncomputable def impl_PrincipalMaps.f (l0_0 : List (List Int)) (a1_0 : Int) (l1_1 : List Int) : Option ((List (List Int)) × Int) := denF impl_PrincipalMaps.E impl_PrincipalMaps.fn impl_PrincipalMaps.enc (l0_0, a1_0, l1_1, ())
set_option maxRecDepth 100000 in
theorem impl_PrincipalMaps.f_eq (l0_0 : List (List Int)) (a1_0 : Int) (l1_1 : List Int) : impl_PrincipalMaps.f l0_0 a1_0 l1_1 = (impl_moduleCode.f l0_0 ([(a1_0, l1_1)] : List (Int × (List Int)))).bind fun t10 => if t10 = 0 then ((impl_principalMaps.f a1_0 l1_1).bind fun t15 => some (t15, 0)) else (some (([] : List (List Int)), t10)) := by kernel_rfl
noncomputable def impl_PrincipalMaps.con : Con := ⟨impl_PrincipalMaps.fn.ins, impl_PrincipalMaps.fn.outs, (List (List Int)) × Int, fun x => impl_PrincipalMaps.f x.1 x.2.1 x.2.2.1, fun r => ((r.1, r.2, ()), (()))⟩
theorem impl_PrincipalMaps.valid : Valid Try.prog 11 impl_PrincipalMaps.con := fn_valid (f := impl_PrincipalMaps.fn) (E := impl_PrincipalMaps.E) (enc := impl_PrincipalMaps.enc) ⟨ttOk, (conCons impl_moduleCode.valid (conCons impl_principalMaps.valid conNil))⟩ (Checked.mixed Try.checked) ⟨Try.func11, by kernel_rfl, by kernel_rfl, by kernel_rfl, by kernel_rfl, by decide, by kernel_rfl, by kernel_rfl⟩ (fun _ => rfl)
end Go.Proofs.Ytjknpaplgclflaa.P
set_option linter.unusedVariables false
namespace Go.Proofs.Ytjknpaplgclflaa.P
open Go Go.RowKit Go.Proofs.Ytjknpaplgclflaa.D
noncomputable def laws_eqInt64S.E : Env := { tt := TT, con := [], frz := [], rows := [], live := [(4, [0, 1, 5])], n := 26, pin := 0, nils := [] }
noncomputable def laws_eqInt64S.fn : D.Fn := { body := Try.f32.body.getD .skip, res := Try.f32.results.toList, ins := [.one (.v (.sl 2 (.int .i64))), .one (.v (.sl 2 (.int .i64)))], outs := [.one (.v .bool)] }
def laws_eqInt64S.enc (y : lsd (flats laws_eqInt64S.fn.outs) × lsd (ios laws_eqInt64S.fn.ins)) : Bool := y.1.1
noncomputable def laws_eqInt64S.f (l0 : List Int) (l1 : List Int) : Option Bool := denF laws_eqInt64S.E laws_eqInt64S.fn laws_eqInt64S.enc (l0, l1, ())
noncomputable def laws_eqInt64S.l0 (x0 : List Int) (x1 : List Int) (x5 : Int) : Option Bool := denAt laws_eqInt64S.E laws_eqInt64S.fn laws_eqInt64S.enc [1, 1, 0, 1, 0] { fr := [(0, .lf (.sl (.int .i64) x0)), (1, .lf (.sl (.int .i64) x1)), (5, .lf (.int .i64 x5))], ob := [], nx := 0 }
set_option maxRecDepth 100000 in
theorem laws_eqInt64S.f_eq (l0 : List Int) (l1 : List Int) : laws_eqInt64S.f l0 l1 = if (l0.length : Int) = (l1.length : Int) then (laws_eqInt64S.l0 l0 l1 0) else (some false) := by kernel_rfl
set_option maxRecDepth 100000 in
theorem laws_eqInt64S.l0_eq (x0 : List Int) (x1 : List Int) (x5 : Int) : laws_eqInt64S.l0 x0 x1 x5 = if x5 < (x0.length : Int) then (if 0 ≤ x5 then (if x5 < (x0.length : Int) then (if 0 ≤ x5 then (if x5 < (x1.length : Int) then (if (rd x0 x5) = (rd x1 x5) then (laws_eqInt64S.l0 x0 x1 (wrapI (x5 + 1))) else (some false)) else none) else none) else none) else none) else (some true) := (loop_unfold _ _ _ _).trans (by kernel_rfl)
noncomputable def laws_eqInt64S.con : Con := ⟨laws_eqInt64S.fn.ins, laws_eqInt64S.fn.outs, Bool, fun x => laws_eqInt64S.f x.1 x.2.1, fun r => ((r, ()), (()))⟩
theorem laws_eqInt64S.valid : Valid Try.prog 32 laws_eqInt64S.con := fn_valid (f := laws_eqInt64S.fn) (E := laws_eqInt64S.E) (enc := laws_eqInt64S.enc) ⟨ttOk, conNil⟩ (Checked.mixed Try.checked) ⟨Try.func32, by kernel_rfl, by kernel_rfl, by kernel_rfl, by kernel_rfl, by decide, by kernel_rfl, by kernel_rfl⟩ (fun _ => rfl)
end Go.Proofs.Ytjknpaplgclflaa.P
set_option linter.unusedVariables false
namespace Go.Proofs.Ytjknpaplgclflaa.P
open Go Go.RowKit Go.Proofs.Ytjknpaplgclflaa.D
noncomputable def laws_eqInt64SS.E : Env := { tt := TT, con := [(32, laws_eqInt64S.con)], frz := [], rows := [], live := [(4, [0, 1, 5])], n := 27, pin := 0, nils := [] }
noncomputable def laws_eqInt64SS.fn : D.Fn := { body := Try.f12.body.getD .skip, res := Try.f12.results.toList, ins := [.one (.v (.sl 25 (.sl 2 (.int .i64)))), .one (.v (.sl 25 (.sl 2 (.int .i64))))], outs := [.one (.v .bool)] }
def laws_eqInt64SS.enc (y : lsd (flats laws_eqInt64SS.fn.outs) × lsd (ios laws_eqInt64SS.fn.ins)) : Bool := y.1.1
noncomputable def laws_eqInt64SS.f (l0 : List (List Int)) (l1 : List (List Int)) : Option Bool := denF laws_eqInt64SS.E laws_eqInt64SS.fn laws_eqInt64SS.enc (l0, l1, ())
noncomputable def laws_eqInt64SS.l0 (x0 : List (List Int)) (x1 : List (List Int)) (x5 : Int) : Option Bool := denAt laws_eqInt64SS.E laws_eqInt64SS.fn laws_eqInt64SS.enc [1, 1, 0, 1, 0] { fr := [(0, .lf (.sl (.sl 2 (.int .i64)) x0)), (1, .lf (.sl (.sl 2 (.int .i64)) x1)), (5, .lf (.int .i64 x5))], ob := [], nx := 0 }
set_option maxRecDepth 100000 in
theorem laws_eqInt64SS.f_eq (l0 : List (List Int)) (l1 : List (List Int)) : laws_eqInt64SS.f l0 l1 = if (l0.length : Int) = (l1.length : Int) then (laws_eqInt64SS.l0 l0 l1 0) else (some false) := by kernel_rfl
set_option maxRecDepth 100000 in
theorem laws_eqInt64SS.l0_eq (x0 : List (List Int)) (x1 : List (List Int)) (x5 : Int) : laws_eqInt64SS.l0 x0 x1 x5 = if x5 < (x0.length : Int) then (if 0 ≤ x5 then (if x5 < (x0.length : Int) then (if 0 ≤ x5 then (if x5 < (x1.length : Int) then ((laws_eqInt64S.f (row x0 x5) (row x1 x5)).bind fun t25 => if t25 = true then (laws_eqInt64SS.l0 x0 x1 (wrapI (x5 + 1))) else (some false)) else none) else none) else none) else none) else (some true) := (loop_unfold _ _ _ _).trans (by kernel_rfl)
noncomputable def laws_eqInt64SS.con : Con := ⟨laws_eqInt64SS.fn.ins, laws_eqInt64SS.fn.outs, Bool, fun x => laws_eqInt64SS.f x.1 x.2.1, fun r => ((r, ()), (()))⟩
theorem laws_eqInt64SS.valid : Valid Try.prog 12 laws_eqInt64SS.con := fn_valid (f := laws_eqInt64SS.fn) (E := laws_eqInt64SS.E) (enc := laws_eqInt64SS.enc) ⟨ttOk, (conCons laws_eqInt64S.valid conNil)⟩ (Checked.mixed Try.checked) ⟨Try.func12, by kernel_rfl, by kernel_rfl, by kernel_rfl, by kernel_rfl, by decide, by kernel_rfl, by kernel_rfl⟩ (fun _ => rfl)
end Go.Proofs.Ytjknpaplgclflaa.P
set_option linter.unusedVariables false
namespace Go.Proofs.Ytjknpaplgclflaa.P
open Go Go.RowKit Go.Proofs.Ytjknpaplgclflaa.D
noncomputable def laws_eqGroup.E : Env := { tt := TT, con := [(12, laws_eqInt64SS.con)], frz := [], rows := [], live := [], n := 11, pin := 0, nils := [] }
noncomputable def laws_eqGroup.fn : D.Fn := { body := Try.f13.body.getD .skip, res := Try.f13.results.toList, ins := [.agg [.v (.sl 25 (.sl 2 (.int .i64)))], .agg [.v (.sl 25 (.sl 2 (.int .i64)))]], outs := [.one (.v .bool)] }
def laws_eqGroup.enc (y : lsd (flats laws_eqGroup.fn.outs) × lsd (ios laws_eqGroup.fn.ins)) : Bool := y.1.1
noncomputable def laws_eqGroup.f (l0_0 : List (List Int)) (l1_0 : List (List Int)) : Option Bool := denF laws_eqGroup.E laws_eqGroup.fn laws_eqGroup.enc (l0_0, l1_0, ())
set_option maxRecDepth 100000 in
theorem laws_eqGroup.f_eq (l0_0 : List (List Int)) (l1_0 : List (List Int)) : laws_eqGroup.f l0_0 l1_0 = (laws_eqInt64SS.f l0_0 l1_0).bind fun t9 => if t9 = true then (some true) else (some false) := by kernel_rfl
noncomputable def laws_eqGroup.con : Con := ⟨laws_eqGroup.fn.ins, laws_eqGroup.fn.outs, Bool, fun x => laws_eqGroup.f x.1 x.2.1, fun r => ((r, ()), (()))⟩
theorem laws_eqGroup.valid : Valid Try.prog 13 laws_eqGroup.con := fn_valid (f := laws_eqGroup.fn) (E := laws_eqGroup.E) (enc := laws_eqGroup.enc) ⟨ttOk, (conCons laws_eqInt64SS.valid conNil)⟩ (Checked.mixed Try.checked) ⟨Try.func13, by kernel_rfl, by kernel_rfl, by kernel_rfl, by kernel_rfl, by decide, by kernel_rfl, by kernel_rfl⟩ (fun _ => rfl)
end Go.Proofs.Ytjknpaplgclflaa.P
set_option linter.unusedVariables false
namespace Go.Proofs.Ytjknpaplgclflaa.P
open Go Go.RowKit Go.Proofs.Ytjknpaplgclflaa.D
noncomputable def laws_eqModule.E : Env := { tt := TT, con := [(32, laws_eqInt64S.con)], frz := [], rows := [], live := [], n := 16, pin := 0, nils := [] }
noncomputable def laws_eqModule.fn : D.Fn := { body := Try.f14.body.getD .skip, res := Try.f14.results.toList, ins := [.agg [.v (.int .i64), .v (.sl 2 (.int .i64))], .agg [.v (.int .i64), .v (.sl 2 (.int .i64))]], outs := [.one (.v .bool)] }
def laws_eqModule.enc (y : lsd (flats laws_eqModule.fn.outs) × lsd (ios laws_eqModule.fn.ins)) : Bool := y.1.1
noncomputable def laws_eqModule.f (a0_0 : Int) (l0_1 : List Int) (a1_0 : Int) (l1_1 : List Int) : Option Bool := denF laws_eqModule.E laws_eqModule.fn laws_eqModule.enc (a0_0, l0_1, a1_0, l1_1, ())
set_option maxRecDepth 100000 in
theorem laws_eqModule.f_eq (a0_0 : Int) (l0_1 : List Int) (a1_0 : Int) (l1_1 : List Int) : laws_eqModule.f a0_0 l0_1 a1_0 l1_1 = if a0_0 = a1_0 then ((laws_eqInt64S.f l0_1 l1_1).bind fun t14 => if t14 = true then (some true) else (some false)) else (some false) := by kernel_rfl
noncomputable def laws_eqModule.con : Con := ⟨laws_eqModule.fn.ins, laws_eqModule.fn.outs, Bool, fun x => laws_eqModule.f x.1 x.2.1 x.2.2.1 x.2.2.2.1, fun r => ((r, ()), (()))⟩
theorem laws_eqModule.valid : Valid Try.prog 14 laws_eqModule.con := fn_valid (f := laws_eqModule.fn) (E := laws_eqModule.E) (enc := laws_eqModule.enc) ⟨ttOk, (conCons laws_eqInt64S.valid conNil)⟩ (Checked.mixed Try.checked) ⟨Try.func14, by kernel_rfl, by kernel_rfl, by kernel_rfl, by kernel_rfl, by decide, by kernel_rfl, by kernel_rfl⟩ (fun _ => rfl)
end Go.Proofs.Ytjknpaplgclflaa.P
set_option linter.unusedVariables false
namespace Go.Proofs.Ytjknpaplgclflaa.P
open Go Go.RowKit Go.Proofs.Ytjknpaplgclflaa.D
noncomputable def laws_markInt64S.E : Env := { tt := TT, con := [], frz := [], rows := [], live := [(2, [0, 1, 5])], n := 19, pin := 1, nils := [] }
noncomputable def laws_markInt64S.fn : D.Fn := { body := Try.f33.body.getD .skip, res := Try.f33.results.toList, ins := [.one (.own 2 true (.int .i64)), .one (.v (.int .i64))], outs := [.one (.v (.int .i64))] }
def laws_markInt64S.enc (y : lsd (flats laws_markInt64S.fn.outs) × lsd (ios laws_markInt64S.fn.ins)) : Int × (List Int) := (y.1.1, y.2.1)
noncomputable def laws_markInt64S.f (l0 : List Int) (a1 : Int) : Option (Int × (List Int)) := denF laws_markInt64S.E laws_markInt64S.fn laws_markInt64S.enc (l0, a1, ())
noncomputable def laws_markInt64S.l0 (x1 : Int) (x5 : Int) (r0 : List Int) : Option (Int × (List Int)) := denAt laws_markInt64S.E laws_markInt64S.fn laws_markInt64S.enc [1, 0, 1, 0] { fr := [(0, .lf (.own 0)), (1, .lf (.int .i64 x1)), (5, .lf (.int .i64 x5))], ob := [(0, .row 2 true (.int .i64) r0)], nx := 1 }
set_option maxRecDepth 100000 in
theorem laws_markInt64S.f_eq (l0 : List Int) (a1 : Int) : laws_markInt64S.f l0 a1 = laws_markInt64S.l0 a1 0 l0 := by kernel_rfl
set_option maxRecDepth 100000 in
theorem laws_markInt64S.l0_eq (x1 : Int) (x5 : Int) (r0 : List Int) : laws_markInt64S.l0 x1 x5 r0 = if x5 < (r0.length : Int) then (if 0 ≤ x5 then (if x5 < (r0.length : Int) then (if 0 ≤ x5 then (if x5 < (r0.length : Int) then (laws_markInt64S.l0 (wrapI (x1 + 1)) (wrapI (x5 + 1)) (r0.set (x5 : Int).toNat x1)) else none) else none) else none) else none) else (some (x1, r0)) := (loop_unfold _ _ _ _).trans (by kernel_rfl)
noncomputable def laws_markInt64S.con : Con := ⟨laws_markInt64S.fn.ins, laws_markInt64S.fn.outs, Int × (List Int), fun x => laws_markInt64S.f x.1 x.2.1, fun r => ((r.1, ()), (r.2, ()))⟩
theorem laws_markInt64S.valid : Valid Try.prog 33 laws_markInt64S.con := fn_valid (f := laws_markInt64S.fn) (E := laws_markInt64S.E) (enc := laws_markInt64S.enc) ⟨ttOk, conNil⟩ (Checked.mixed Try.checked) ⟨Try.func33, by kernel_rfl, by kernel_rfl, by kernel_rfl, by kernel_rfl, by decide, by kernel_rfl, by kernel_rfl⟩ (fun _ => rfl)
end Go.Proofs.Ytjknpaplgclflaa.P
set_option linter.unusedVariables false
namespace Go.Proofs.Ytjknpaplgclflaa.P
open Go Go.RowKit Go.Proofs.Ytjknpaplgclflaa.D
noncomputable def laws_markInt64SS.E : Env := { tt := TT, con := [(33, laws_markInt64S.con)], frz := [], rows := [], live := [(2, [0, 1, 5])], n := 19, pin := 1, nils := [] }
noncomputable def laws_markInt64SS.fn : D.Fn := { body := Try.f17.body.getD .skip, res := Try.f17.results.toList, ins := [.one (.own 25 true (.sl 2 (.int .i64))), .one (.v (.int .i64))], outs := [.one (.v (.int .i64))] }
def laws_markInt64SS.enc (y : lsd (flats laws_markInt64SS.fn.outs) × lsd (ios laws_markInt64SS.fn.ins)) : Int × (List (List Int)) := (y.1.1, y.2.1)
noncomputable def laws_markInt64SS.f (l0 : List (List Int)) (a1 : Int) : Option (Int × (List (List Int))) := denF laws_markInt64SS.E laws_markInt64SS.fn laws_markInt64SS.enc (l0, a1, ())
noncomputable def laws_markInt64SS.l0 (x1 : Int) (x5 : Int) (r0 : List (List Int)) : Option (Int × (List (List Int))) := denAt laws_markInt64SS.E laws_markInt64SS.fn laws_markInt64SS.enc [1, 0, 1, 0] { fr := [(0, .lf (.own 0)), (1, .lf (.int .i64 x1)), (5, .lf (.int .i64 x5))], ob := [(0, .row 25 true (.sl 2 (.int .i64)) r0)], nx := 1 }
set_option maxRecDepth 100000 in
theorem laws_markInt64SS.f_eq (l0 : List (List Int)) (a1 : Int) : laws_markInt64SS.f l0 a1 = laws_markInt64SS.l0 a1 0 l0 := by kernel_rfl
set_option maxRecDepth 100000 in
theorem laws_markInt64SS.l0_eq (x1 : Int) (x5 : Int) (r0 : List (List Int)) : laws_markInt64SS.l0 x1 x5 r0 = if x5 < (r0.length : Int) then (if 0 ≤ x5 then (if x5 < (r0.length : Int) then (if 0 ≤ x5 then (if x5 < (r0.length : Int) then ((laws_markInt64S.f (row r0 x5) x1).bind fun t17 => laws_markInt64SS.l0 t17.1 (wrapI (x5 + 1)) (r0.set (x5 : Int).toNat t17.2)) else none) else none) else none) else none) else (some (x1, r0)) := (loop_unfold _ _ _ _).trans (by kernel_rfl)
noncomputable def laws_markInt64SS.con : Con := ⟨laws_markInt64SS.fn.ins, laws_markInt64SS.fn.outs, Int × (List (List Int)), fun x => laws_markInt64SS.f x.1 x.2.1, fun r => ((r.1, ()), (r.2, ()))⟩
theorem laws_markInt64SS.valid : Valid Try.prog 17 laws_markInt64SS.con := fn_valid (f := laws_markInt64SS.fn) (E := laws_markInt64SS.E) (enc := laws_markInt64SS.enc) ⟨ttOk, (conCons laws_markInt64S.valid conNil)⟩ (Checked.mixed Try.checked) ⟨Try.func17, by kernel_rfl, by kernel_rfl, by kernel_rfl, by kernel_rfl, by decide, by kernel_rfl, by kernel_rfl⟩ (fun _ => rfl)
end Go.Proofs.Ytjknpaplgclflaa.P
set_option linter.unusedVariables false
namespace Go.Proofs.Ytjknpaplgclflaa.P
open Go Go.RowKit Go.Proofs.Ytjknpaplgclflaa.D
noncomputable def laws_markGroup.E : Env := { tt := TT, con := [(17, laws_markInt64SS.con)], frz := [], rows := [], live := [], n := 10, pin := 1, nils := [] }
noncomputable def laws_markGroup.fn : D.Fn := { body := Try.f15.body.getD .skip, res := Try.f15.results.toList, ins := [.agg [.own 25 true (.sl 2 (.int .i64))], .one (.v (.int .i64))], outs := [.one (.v (.int .i64))] }
def laws_markGroup.enc (y : lsd (flats laws_markGroup.fn.outs) × lsd (ios laws_markGroup.fn.ins)) : Int × (List (List Int)) := (y.1.1, y.2.1)
noncomputable def laws_markGroup.f (l0_0 : List (List Int)) (a1 : Int) : Option (Int × (List (List Int))) := denF laws_markGroup.E laws_markGroup.fn laws_markGroup.enc (l0_0, a1, ())
set_option maxRecDepth 100000 in
theorem laws_markGroup.f_eq (l0_0 : List (List Int)) (a1 : Int) : laws_markGroup.f l0_0 a1 = (laws_markInt64SS.f l0_0 a1).bind fun t8 => some (t8.1, t8.2) := by kernel_rfl
noncomputable def laws_markGroup.con : Con := ⟨laws_markGroup.fn.ins, laws_markGroup.fn.outs, Int × (List (List Int)), fun x => laws_markGroup.f x.1 x.2.1, fun r => ((r.1, ()), (r.2, ()))⟩
theorem laws_markGroup.valid : Valid Try.prog 15 laws_markGroup.con := fn_valid (f := laws_markGroup.fn) (E := laws_markGroup.E) (enc := laws_markGroup.enc) ⟨ttOk, (conCons laws_markInt64SS.valid conNil)⟩ (Checked.mixed Try.checked) ⟨Try.func15, by kernel_rfl, by kernel_rfl, by kernel_rfl, by kernel_rfl, by decide, by kernel_rfl, by kernel_rfl⟩ (fun _ => rfl)
end Go.Proofs.Ytjknpaplgclflaa.P
set_option linter.unusedVariables false
namespace Go.Proofs.Ytjknpaplgclflaa.P
open Go Go.RowKit Go.Proofs.Ytjknpaplgclflaa.D
noncomputable def laws_markModule.E : Env := { tt := TT, con := [(33, laws_markInt64S.con)], frz := [], rows := [], live := [], n := 10, pin := 1, nils := [] }
noncomputable def laws_markModule.fn : D.Fn := { body := Try.f16.body.getD .skip, res := Try.f16.results.toList, ins := [.agg [.v (.int .i64), .own 2 true (.int .i64)], .one (.v (.int .i64))], outs := [.one (.v (.int .i64))] }
def laws_markModule.enc (y : lsd (flats laws_markModule.fn.outs) × lsd (ios laws_markModule.fn.ins)) : Int × (List Int) := (y.1.1, y.2.1)
noncomputable def laws_markModule.f (a0_0 : Int) (l0_1 : List Int) (a1 : Int) : Option (Int × (List Int)) := denF laws_markModule.E laws_markModule.fn laws_markModule.enc (a0_0, l0_1, a1, ())
set_option maxRecDepth 100000 in
theorem laws_markModule.f_eq (a0_0 : Int) (l0_1 : List Int) (a1 : Int) : laws_markModule.f a0_0 l0_1 a1 = (laws_markInt64S.f l0_1 a1).bind fun t8 => some (t8.1, t8.2) := by kernel_rfl
noncomputable def laws_markModule.con : Con := ⟨laws_markModule.fn.ins, laws_markModule.fn.outs, Int × (List Int), fun x => laws_markModule.f x.1 x.2.1 x.2.2.1, fun r => ((r.1, ()), (r.2, ()))⟩
theorem laws_markModule.valid : Valid Try.prog 16 laws_markModule.con := fn_valid (f := laws_markModule.fn) (E := laws_markModule.E) (enc := laws_markModule.enc) ⟨ttOk, (conCons laws_markInt64S.valid conNil)⟩ (Checked.mixed Try.checked) ⟨Try.func16, by kernel_rfl, by kernel_rfl, by kernel_rfl, by kernel_rfl, by decide, by kernel_rfl, by kernel_rfl⟩ (fun _ => rfl)
end Go.Proofs.Ytjknpaplgclflaa.P
set_option linter.unusedVariables false
namespace Go.Proofs.Ytjknpaplgclflaa.P
open Go Go.RowKit Go.Proofs.Ytjknpaplgclflaa.D
noncomputable def laws_heldInt64S.E : Env := { tt := TT, con := [], frz := [], rows := [], live := [(2, [0, 1, 5])], n := 21, pin := 0, nils := [] }
noncomputable def laws_heldInt64S.fn : D.Fn := { body := Try.f34.body.getD .skip, res := Try.f34.results.toList, ins := [.one (.v (.sl 2 (.int .i64))), .one (.v (.int .i64))], outs := [.one (.v (.int .i64))] }
def laws_heldInt64S.enc (y : lsd (flats laws_heldInt64S.fn.outs) × lsd (ios laws_heldInt64S.fn.ins)) : Int := y.1.1
noncomputable def laws_heldInt64S.f (l0 : List Int) (a1 : Int) : Option Int := denF laws_heldInt64S.E laws_heldInt64S.fn laws_heldInt64S.enc (l0, a1, ())
noncomputable def laws_heldInt64S.l0 (x0 : List Int) (x1 : Int) (x5 : Int) : Option Int := denAt laws_heldInt64S.E laws_heldInt64S.fn laws_heldInt64S.enc [1, 0, 1, 0] { fr := [(0, .lf (.sl (.int .i64) x0)), (1, .lf (.int .i64 x1)), (5, .lf (.int .i64 x5))], ob := [], nx := 0 }
set_option maxRecDepth 100000 in
theorem laws_heldInt64S.f_eq (l0 : List Int) (a1 : Int) : laws_heldInt64S.f l0 a1 = laws_heldInt64S.l0 l0 a1 0 := by kernel_rfl
set_option maxRecDepth 100000 in
theorem laws_heldInt64S.l0_eq (x0 : List Int) (x1 : Int) (x5 : Int) : laws_heldInt64S.l0 x0 x1 x5 = if x5 < (x0.length : Int) then (if 0 ≤ x5 then (if x5 < (x0.length : Int) then (if (rd x0 x5) = x1 then (laws_heldInt64S.l0 x0 (wrapI (x1 + 1)) (wrapI (x5 + 1))) else (some (-1))) else none) else none) else (some x1) := (loop_unfold _ _ _ _).trans (by kernel_rfl)
noncomputable def laws_heldInt64S.con : Con := ⟨laws_heldInt64S.fn.ins, laws_heldInt64S.fn.outs, Int, fun x => laws_heldInt64S.f x.1 x.2.1, fun r => ((r, ()), (()))⟩
theorem laws_heldInt64S.valid : Valid Try.prog 34 laws_heldInt64S.con := fn_valid (f := laws_heldInt64S.fn) (E := laws_heldInt64S.E) (enc := laws_heldInt64S.enc) ⟨ttOk, conNil⟩ (Checked.mixed Try.checked) ⟨Try.func34, by kernel_rfl, by kernel_rfl, by kernel_rfl, by kernel_rfl, by decide, by kernel_rfl, by kernel_rfl⟩ (fun _ => rfl)
end Go.Proofs.Ytjknpaplgclflaa.P
set_option linter.unusedVariables false
namespace Go.Proofs.Ytjknpaplgclflaa.P
open Go Go.RowKit Go.Proofs.Ytjknpaplgclflaa.D
noncomputable def laws_heldInt64SS.E : Env := { tt := TT, con := [(34, laws_heldInt64S.con)], frz := [], rows := [], live := [(2, [0, 1, 5])], n := 21, pin := 0, nils := [] }
noncomputable def laws_heldInt64SS.fn : D.Fn := { body := Try.f18.body.getD .skip, res := Try.f18.results.toList, ins := [.one (.v (.sl 25 (.sl 2 (.int .i64)))), .one (.v (.int .i64))], outs := [.one (.v (.int .i64))] }
def laws_heldInt64SS.enc (y : lsd (flats laws_heldInt64SS.fn.outs) × lsd (ios laws_heldInt64SS.fn.ins)) : Int := y.1.1
noncomputable def laws_heldInt64SS.f (l0 : List (List Int)) (a1 : Int) : Option Int := denF laws_heldInt64SS.E laws_heldInt64SS.fn laws_heldInt64SS.enc (l0, a1, ())
noncomputable def laws_heldInt64SS.l0 (x0 : List (List Int)) (x1 : Int) (x5 : Int) : Option Int := denAt laws_heldInt64SS.E laws_heldInt64SS.fn laws_heldInt64SS.enc [1, 0, 1, 0] { fr := [(0, .lf (.sl (.sl 2 (.int .i64)) x0)), (1, .lf (.int .i64 x1)), (5, .lf (.int .i64 x5))], ob := [], nx := 0 }
set_option maxRecDepth 100000 in
theorem laws_heldInt64SS.f_eq (l0 : List (List Int)) (a1 : Int) : laws_heldInt64SS.f l0 a1 = laws_heldInt64SS.l0 l0 a1 0 := by kernel_rfl
set_option maxRecDepth 100000 in
theorem laws_heldInt64SS.l0_eq (x0 : List (List Int)) (x1 : Int) (x5 : Int) : laws_heldInt64SS.l0 x0 x1 x5 = if x5 < (x0.length : Int) then (if 0 ≤ x5 then (if x5 < (x0.length : Int) then ((laws_heldInt64S.f (row x0 x5) x1).bind fun t17 => if t17 < 0 then (some (-1)) else (laws_heldInt64SS.l0 x0 t17 (wrapI (x5 + 1)))) else none) else none) else (some x1) := (loop_unfold _ _ _ _).trans (by kernel_rfl)
noncomputable def laws_heldInt64SS.con : Con := ⟨laws_heldInt64SS.fn.ins, laws_heldInt64SS.fn.outs, Int, fun x => laws_heldInt64SS.f x.1 x.2.1, fun r => ((r, ()), (()))⟩
theorem laws_heldInt64SS.valid : Valid Try.prog 18 laws_heldInt64SS.con := fn_valid (f := laws_heldInt64SS.fn) (E := laws_heldInt64SS.E) (enc := laws_heldInt64SS.enc) ⟨ttOk, (conCons laws_heldInt64S.valid conNil)⟩ (Checked.mixed Try.checked) ⟨Try.func18, by kernel_rfl, by kernel_rfl, by kernel_rfl, by kernel_rfl, by decide, by kernel_rfl, by kernel_rfl⟩ (fun _ => rfl)
end Go.Proofs.Ytjknpaplgclflaa.P
set_option linter.unusedVariables false
namespace Go.Proofs.Ytjknpaplgclflaa.P
open Go Go.RowKit Go.Proofs.Ytjknpaplgclflaa.D
noncomputable def laws_FnExactPrincipalMaps.E : Env := { tt := TT, con := [(6, laws_szGroup.con), (7, laws_szModule.con), (9, laws_toGroup.con), (10, laws_toModule.con), (8, spec_PrincipalMaps.con), (11, impl_PrincipalMaps.con), (12, laws_eqInt64SS.con), (13, laws_eqGroup.con), (14, laws_eqModule.con), (15, laws_markGroup.con), (16, laws_markModule.con), (17, laws_markInt64SS.con), (18, laws_heldInt64SS.con)], frz := [29, 31], rows := [], live := [], n := 119, pin := 0, nils := [] }
noncomputable def laws_FnExactPrincipalMaps.fn : D.Fn := { body := Try.f3.body.getD .skip, res := Try.f3.results.toList, ins := [.agg [.v (.sl 25 (.sl 2 (.int .i64)))], .agg [.v (.int .i64), .v (.sl 2 (.int .i64))]], outs := [.one (.v .bool)] }
def laws_FnExactPrincipalMaps.enc (y : lsd (flats laws_FnExactPrincipalMaps.fn.outs) × lsd (ios laws_FnExactPrincipalMaps.fn.ins)) : Bool := y.1.1
noncomputable def laws_FnExactPrincipalMaps.f (l0_0 : List (List Int)) (a1_0 : Int) (l1_1 : List Int) : Option Bool := denF laws_FnExactPrincipalMaps.E laws_FnExactPrincipalMaps.fn laws_FnExactPrincipalMaps.enc (l0_0, a1_0, l1_1, ())
set_option maxRecDepth 100000 in
theorem laws_FnExactPrincipalMaps.f_eq (l0_0 : List (List Int)) (a1_0 : Int) (l1_1 : List Int) : laws_FnExactPrincipalMaps.f l0_0 a1_0 l1_1 = (laws_szGroup.f l0_0 1048576).bind fun t19 => if t19 < 0 then (some true) else ((laws_szModule.f a1_0 l1_1 t19).bind fun t24 => if t24 < 0 then (some true) else ((laws_toGroup.f l0_0).bind fun t29 => (laws_toModule.f a1_0 l1_1).bind fun t31 => (spec_PrincipalMaps.f t29 t31.1 t31.2).bind fun t32 => (laws_toGroup.f l0_0).bind fun t36 => (laws_toModule.f a1_0 l1_1).bind fun t38 => (impl_PrincipalMaps.f t36 t38.1 t38.2).bind fun t42 => (laws_eqInt64SS.f t42.1 t32.1).bind fun t47 => if t47 = true then (if t42.2 = t32.2 then ((laws_toGroup.f l0_0).bind fun t56 => (laws_eqGroup.f t36 t56).bind fun t57 => if t57 = true then ((laws_toModule.f a1_0 l1_1).bind fun t61 => (laws_eqModule.f t38.1 t38.2 t61.1 t61.2).bind fun t62 => if t62 = true then ((laws_markGroup.f t36 1).bind fun t66 => (laws_markModule.f t38.1 t38.2 t66.1).bind fun t69 => if t69.1 < 0 then (some false) else ((laws_eqInt64SS.f t42.1 t32.1).bind fun t75 => if t75 = true then (if t42.2 = t32.2 then ((laws_markInt64SS.f t42.1 1).bind fun t85 => (laws_heldInt64SS.f t85.2 1).bind fun t88 => if t88 < 0 then (some false) else (if t88 = t85.1 then ((laws_toGroup.f l0_0).bind fun t96 => (laws_toModule.f a1_0 l1_1).bind fun t98 => (impl_PrincipalMaps.f t96 t98.1 t98.2).bind fun t99 => (laws_eqInt64SS.f t99.1 t32.1).bind fun t104 => if t104 = true then (if t99.2 = t32.2 then ((laws_heldInt64SS.f t85.2 1).bind fun t113 => if t113 < 0 then (some false) else (if t113 = t85.1 then (some true) else (some false))) else (some false)) else (some false)) else (some false))) else (some false)) else (some false))) else (some false)) else (some false)) else (some false)) else (some false))) := by kernel_rfl
noncomputable def laws_FnExactPrincipalMaps.con : Con := ⟨laws_FnExactPrincipalMaps.fn.ins, laws_FnExactPrincipalMaps.fn.outs, Bool, fun x => laws_FnExactPrincipalMaps.f x.1 x.2.1 x.2.2.1, fun r => ((r, ()), (()))⟩
theorem laws_FnExactPrincipalMaps.valid : Valid Try.prog 3 laws_FnExactPrincipalMaps.con := fn_valid (f := laws_FnExactPrincipalMaps.fn) (E := laws_FnExactPrincipalMaps.E) (enc := laws_FnExactPrincipalMaps.enc) ⟨ttOk, (conCons laws_szGroup.valid (conCons laws_szModule.valid (conCons laws_toGroup.valid (conCons laws_toModule.valid (conCons spec_PrincipalMaps.valid (conCons impl_PrincipalMaps.valid (conCons laws_eqInt64SS.valid (conCons laws_eqGroup.valid (conCons laws_eqModule.valid (conCons laws_markGroup.valid (conCons laws_markModule.valid (conCons laws_markInt64SS.valid (conCons laws_heldInt64SS.valid conNil)))))))))))))⟩ (Checked.mixed Try.checked) ⟨Try.func3, by kernel_rfl, by kernel_rfl, by kernel_rfl, by kernel_rfl, by decide, by kernel_rfl, by kernel_rfl⟩ (fun _ => rfl)
end Go.Proofs.Ytjknpaplgclflaa.P
set_option linter.unusedVariables false
namespace Go.Proofs.Ytjknpaplgclflaa.V
open Go Go.RowKit Go.Proofs.Ytjknpaplgclflaa.D
theorem w64 {x : Int} (h0 : -9223372036854775808 ≤ x) (h1 : x ≤ 9223372036854775807) : wrapI x = x := by unfold wrapI; rw [hid_eq]; unfold wrap64; omega
theorem wn {j : Nat} (h : j < 4611686018427387904) : wrapI ((j : Int) + 1) = ((j + 1 : Nat) : Int) := by rw [w64 (by omega) (by omega)]; omega
theorem go_pos {α : Type} {p : Prop} {inst : Decidable p} {a b r : α} (h : p) (k : a = r) : (if p then a else b) = r := by rw [if_pos h]; exact k
theorem go_neg {α : Type} {p : Prop} {inst : Decidable p} {a b r : α} (h : ¬ p) (k : b = r) : (if p then a else b) = r := by rw [if_neg h]; exact k
theorem go_bind {α β : Type} {c : Option α} {f : α → Option β} {a : α} {r : Option β} (h : c = some a) (k : f a = r) : c.bind f = r := by rw [h]; exact k
theorem maxLen_le : maxLen ≤ 9223372036854775807 := by unfold maxLen; omega
theorem le_maxLen {n : Nat} (h : n ≤ 9223372036854775807) : n ≤ maxLen := by unfold maxLen; omega
noncomputable def ite_ {α : Type} (p : Prop) (a b : α) : α := @ite α p (Classical.propDecidable p) a b
theorem ite_pos {α : Type} {p : Prop} (h : p) (a b : α) : ite_ p a b = a := by unfold ite_; simp [h]
theorem ite_neg {α : Type} {p : Prop} (h : ¬ p) (a b : α) : ite_ p a b = b := by unfold ite_; simp [h]
noncomputable def B (p : Prop) : Bool := @decide p (Classical.propDecidable p)
theorem B_pos {p : Prop} (h : p) : B p = true := by unfold B; simp [h]
theorem B_neg {p : Prop} (h : ¬ p) : B p = false := by unfold B; simp [h]
theorem B_not {p : Prop} (h : ¬ p) : ¬ (B p = true) := by rw [B_neg h]; decide
theorem B_congr {p q : Prop} (h : p ↔ q) : B p = B q := by rw [show p = q from propext h]
theorem B_decide (p : Prop) {inst : Decidable p} : decide p = B p := by by_cases h : p <;> simp [h, B]
theorem B_true : B True = true := B_pos trivial
theorem scan {R : Type} (n : Nat) (L : Int → R) (P : Int → Prop) (bad : R)
    (hs : ∀ i : Int, 0 ≤ i → i < n → (∀ j : Int, 0 ≤ j → j < i → P j) → (P i → L i = L (i + 1)) ∧ (¬ P i → L i = bad)) :
    ((∀ j : Int, 0 ≤ j → j < n → P j) ∧ L 0 = L n) ∨ (∃ m : Int, 0 ≤ m ∧ m < n ∧ (∀ j : Int, 0 ≤ j → j < m → P j) ∧ ¬ P m ∧ L 0 = L m ∧ L 0 = bad) := by
  suffices H : ∀ d m : Nat, m + d = n → (∀ j : Int, 0 ≤ j → j < m → P j) →
      ((∀ j : Int, 0 ≤ j → j < n → P j) ∧ L m = L n) ∨ (∃ i : Int, 0 ≤ i ∧ i < n ∧ (∀ j : Int, 0 ≤ j → j < i → P j) ∧ ¬ P i ∧ L m = L i ∧ L m = bad) by
    simpa using H n 0 (by omega) (fun j h0 h1 => by omega)
  intro d
  induction d with
  | zero =>
    intro m hm hp
    have : (m : Int) = n := by omega
    rw [this] at hp ⊢
    exact .inl ⟨hp, rfl⟩
  | succ d ih =>
    intro m hm hp
    obtain ⟨h1, h2⟩ := hs m (by omega) (by omega) hp
    by_cases h : P m
    · have hp' : ∀ j : Int, 0 ≤ j → j < ((m + 1 : Nat) : Int) → P j := fun j h0 hj => by
        by_cases e : j = m
        · rw [e]; exact h
        · exact hp j h0 (by omega)
      have := ih (m + 1) (by omega) hp'
      rwa [Int.natCast_add, Int.natCast_one, ← h1 h] at this
    · exact .inr ⟨m, by omega, by omega, hp, h, rfl, h2 h⟩
theorem scanB (n : Nat) (L : Int → Option Bool) (P : Int → Prop) (Q : Prop)
    (hs : ∀ i : Int, 0 ≤ i → i < n → (∀ j : Int, 0 ≤ j → j < i → P j) → (P i → L i = L (i + 1)) ∧ (¬ P i → L i = some false))
    (he : (∀ j : Int, 0 ≤ j → j < n → P j) → L n = some (B Q)) : L 0 = some (B ((∀ j : Int, 0 ≤ j → j < n → P j) ∧ Q)) := by
  rcases scan n L P (some false) hs with ⟨h1, h2⟩ | ⟨j, h0, h1, _, h2, _, h3⟩
  · rw [B_congr (show ((∀ j : Int, 0 ≤ j → j < n → P j) ∧ Q) ↔ Q from ⟨fun h => h.2, fun h => ⟨h1, h⟩⟩), h2]
    exact he h1
  · rw [B_neg fun h => h2 (h.1 j h0 h1)]
    exact h3
theorem scanT (n : Nat) (L : Int → Option Bool) (P : Int → Prop)
    (hs : ∀ i : Int, 0 ≤ i → i < n → (∀ j : Int, 0 ≤ j → j < i → P j) → (P i → L i = L (i + 1)) ∧ (¬ P i → L i = some false))
    (he : (∀ j : Int, 0 ≤ j → j < n → P j) → L n = some true) : L 0 = some (B (∀ j : Int, 0 ≤ j → j < n → P j)) := by
  have := scanB n L P True hs (fun h => by rw [B_true]; exact he h)
  rwa [B_congr (show ((∀ j : Int, 0 ≤ j → j < n → P j) ∧ True) ↔ _ from ⟨fun h => h.1, fun h => ⟨h, trivial⟩⟩)] at this
theorem scanI {R : Type} (n : Nat) (L : Int → R) (P : Int → Prop) (bad go : R)
    (hs : ∀ i : Int, 0 ≤ i → i < n → (∀ j : Int, 0 ≤ j → j < i → P j) → (P i → L i = L (i + 1)) ∧ (¬ P i → L i = bad)) (he : (∀ j : Int, 0 ≤ j → j < n → P j) → L n = go) :
    ((∀ j : Int, 0 ≤ j → j < n → P j) → L 0 = go) ∧ (¬ (∀ j : Int, 0 ≤ j → j < n → P j) → L 0 = bad) := by
  rcases scan n L P bad hs with ⟨h1, h2⟩ | ⟨j, h0, h1, _, h2, _, h3⟩
  · exact ⟨fun _ => h2.trans (he h1), fun h => absurd h1 h⟩
  · exact ⟨fun h => absurd (h j h0 h1) h2, fun _ => h3⟩
theorem up {R : Type} (n : Nat) (L : Nat → R) (h : ∀ i, i < n → L i = L (i + 1)) : L 0 = L n := by
  suffices H : ∀ m, m ≤ n → L 0 = L m from H n (Nat.le_refl _)
  intro m
  induction m with
  | zero => exact fun _ => rfl
  | succ m ih => exact fun hm => (ih (by omega)).trans (h m (by omega))
theorem rd_get {xs : List Int} {j : Nat} (h : j < xs.length) : rd xs (j : Int) = xs[j] := by simp [rd, List.getD_eq_getElem?_getD, List.getElem?_eq_getElem h]
theorem rd_at {xs : List Int} {i : Int} (h0 : 0 ≤ i) (h1 : i < xs.length) : xs[i.toNat]? = some (rd xs i) := by
  have h : i.toNat < xs.length := by omega
  simp [rd, List.getD_eq_getElem?_getD, List.getElem?_eq_getElem h]
theorem rd_mem {xs : List Int} {i : Int} (h0 : 0 ≤ i) (h1 : i < xs.length) : rd xs i ∈ xs := List.mem_of_getElem? (rd_at h0 h1)
theorem ext_rd {xs ys : List Int} (hl : xs.length = ys.length) (h : ∀ i : Int, 0 ≤ i → i < xs.length → rd xs i = rd ys i) : xs = ys := by
  apply List.ext_getElem hl
  intro i h1 h2
  have := h i (by omega) (by omega)
  simpa [rd, List.getD_eq_getElem?_getD, List.getElem?_eq_getElem h1, List.getElem?_eq_getElem h2] using this
theorem row_get {g : List (List Int)} {j : Nat} (h : j < g.length) : row g (j : Int) = g[j] := by simp [row, List.getD_eq_getElem?_getD, List.getElem?_eq_getElem h]
theorem row_mem {g : List (List Int)} {a : Int} (h0 : 0 ≤ a) (h1 : a < g.length) : row g a ∈ g := by
  have h : a.toNat < g.length := by omega
  unfold row
  rw [List.getD_eq_getElem?_getD, List.getElem?_eq_getElem h]
  exact List.getElem_mem h
theorem mem_row {g : List (List Int)} {r : List Int} (h : r ∈ g) : ∃ i : Int, 0 ≤ i ∧ i < g.length ∧ row g i = r := by
  obtain ⟨i, hi, rfl⟩ := List.mem_iff_getElem.1 h
  exact ⟨i, by omega, by omega, row_get hi⟩
theorem ext_row {xs ys : List (List Int)} (hl : xs.length = ys.length) (h : ∀ i : Int, 0 ≤ i → i < xs.length → row xs i = row ys i) : xs = ys := by
  apply List.ext_getElem hl
  intro i h1 h2
  have := h i (by omega) (by omega)
  rwa [row_get h1, row_get h2] at this
def AllIn (n : Int) (xs : List Int) : Prop := ∀ i : Int, 0 ≤ i → i < xs.length → 0 ≤ rd xs i ∧ rd xs i < n
theorem allIn_two {n x y : Int} (h0 : 0 ≤ x) (h1 : x < n) (h2 : 0 ≤ y) (h3 : y < n) : AllIn n [x, y] := by
  intro i i0 i1
  have : i = 0 ∨ i = 1 := by simp at i1; omega
  rcases this with rfl | rfl <;> simp [rd, *]
theorem AllIn.mem {n : Int} {xs : List Int} (h : AllIn n xs) {x : Int} (hx : x ∈ xs) : 0 ≤ x ∧ x < n := by
  obtain ⟨i, hi, rfl⟩ := List.mem_iff_getElem.1 hx
  have := h i (by omega) (by omega)
  rwa [rd_get hi] at this
theorem allIn_of {n : Int} {xs : List Int} (h : ∀ x ∈ xs, 0 ≤ x ∧ x < n) : AllIn n xs := fun i i0 i1 => h _ (rd_mem i0 i1)
theorem AllIn.drop {n : Int} {xs : List Int} (h : AllIn n xs) (j : Nat) : AllIn n (xs.drop j) := allIn_of fun x hx => h.mem (List.mem_of_mem_drop hx)
theorem AllIn.take {n : Int} {xs : List Int} (h : AllIn n xs) (j : Nat) : AllIn n (xs.take j) := allIn_of fun x hx => h.mem (List.mem_of_mem_take hx)
theorem AllIn.append {n : Int} {xs ys : List Int} (h : AllIn n xs) (k : AllIn n ys) : AllIn n (xs ++ ys) := allIn_of fun x hx => by
  rcases List.mem_append.1 hx with h' | h'
  · exact h.mem h'
  · exact k.mem h'
theorem tmod_nn {a m : Int} (h : 0 ≤ a) : Int.tmod a m = a % m := Int.tmod_eq_emod_of_nonneg h
end Go.Proofs.Ytjknpaplgclflaa.V
