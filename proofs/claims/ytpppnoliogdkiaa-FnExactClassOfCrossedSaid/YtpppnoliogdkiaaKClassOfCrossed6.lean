/- What the proof of the law ClassOfCrossed stands on, part 6: words, each Go function's Lean function, and that the Go code comes to its answers; no condition. (Packed by wip/myprint/pack.py out of what the kit's printer wrote, its words among it, partly by our patches of it, and out of texts of this session.) -/
import Derived.ChangeSlices
import Derived.ChangeSame
import Derived.Deep.Matrix
import Derived.Lib.SmallJoins
import Derived.Test.YtpppnoliogdkiaaKClassOfCrossed3
import Derived.Test.YtpppnoliogdkiaaKClassOfCrossed4
import Derived.Test.YtpppnoliogdkiaaKClassOfCrossed5
set_option linter.unusedVariables false
namespace Go.Proofs.Ytpppnoliogdkiaa.D
open Go Go.RowKit
theorem valid_view {P : Program} {g : FuncId} {c : Con} (hv : Valid P g c) {x : lsd (flats c.ins)} {r : c.R} (hx : c.f x = some r) {w : World} {vs : List Value} (ha : ASRs P (fun _ => False) (fun k => k < w.heap.size) w c.ins x vs (fun _ => False)) :
    Calls P g vs.toArray w fun e w' => ∃ u, e = .returned u ∧ Below w.heap.size w w' ∧ ∃ Z' Fo us, u = outV us ∧ ASRs P (fun _ => False) Z' w' c.outs (c.dec r).1 us Fo := by
  refine (hv.2 x r hx (fun k => k < w.heap.size) (fun _ => False) (fun _ => False) w vs ha (fun _ h => h.elim) (fun _ h => h) (fun _ h => h.elim)).mono ?_
  rintro e w' ⟨u, rfl, Z', Fi, Fo, hp⟩
  obtain ⟨us, hu, ho⟩ := hp.out
  exact ⟨u, rfl, ⟨hp.os, hp.tape, hp.output, hp.size, fun k hk => hp.old k hk fun h => h⟩, Z', Fo, us, hu, ho⟩
theorem cell_lt {w : World} {a : Addr} {v : Value} (h : w.cell? a = some v) : a.block < w.heap.size := by
  unfold World.cell? at h
  cases hb : w.heap[a.block]? with
  | none => rw [hb] at h; cases h
  | some o => exact (Array.getElem?_eq_some_iff.1 hb).1
theorem view_raw {α : Type} {w : World} {sz : Nat} {R : α → List Value → Prop} {A : Option Addr} {c : Nat} {xs : List α} (hz : 0 < sz) (hc : xs.length ≤ c) (hm : xs.length ≤ 9223372036854775807)
    (h : 0 < xs.length → ∃ ad, A = some ad ∧ ∀ (j : Nat) (p : α), xs[j]? = some p → ∃ cs, cs.length = sz ∧ R p cs ∧ ∀ (i : Nat) (u : Value), cs[i]? = some u → w.cell? (ad.add (j * sz + i)) = some u) : ViewRep (fun k => k < w.heap.size) w sz R A c xs := by
  refine ⟨hc, hm, fun hl => ?_⟩
  obtain ⟨ad, rfl, hcell⟩ := h hl
  refine ⟨ad, rfl, ?_, hcell⟩
  obtain ⟨cs, h1, h2, h3⟩ := hcell 0 xs[0] (List.getElem?_eq_getElem hl)
  have := cell_lt (h3 0 cs[0] (List.getElem?_eq_getElem (by omega)))
  rwa [add_block] at this
theorem law_true {P : Program} {g : FuncId} {c : Con} (hv : Valid P g c) {x : lsd (flats c.ins)} {r : c.R} (hx : c.f x = some r) {w : World} {vs : List Value} (ha : ASRs P (fun _ => False) (fun k => k < w.heap.size) w c.ins x vs (fun _ => False)) (ho : c.outs = [.one (.v .bool)]) (hr : ∀ y : lsd (flats [.one (.v .bool)]), HEq y (c.dec r).1 → y.1 = true) :
    Calls P g vs.toArray w fun e w' => e = .returned (.bool true) ∧ Below w.heap.size w w' := by
  refine (valid_view hv hx ha).mono ?_
  rintro e w' ⟨u, rfl, hb, Z', Fo, us, rfl, hh⟩
  refine ⟨?_, hb⟩
  obtain ⟨ins, outs, R, f, dec⟩ := c
  have ho : outs = [.one (.v .bool)] := ho
  subst ho
  obtain ⟨v, vs', F0, F1, rfl, h1, h2, _⟩ := hh
  cases h2
  have h1 : [v] = [.bool (dec r).1.1] := h1
  have hb1 : (dec r).1.1 = true := hr _ HEq.rfl
  cases h1
  rw [hb1]
  rfl
end Go.Proofs.Ytpppnoliogdkiaa.D
set_option linter.unusedVariables false
namespace Go.Proofs.Ytpppnoliogdkiaa.D
open Go Go.RowKit Go.ChangeShapes Go.WideShapes Go.Joins Go.Deep
section
variable {H : Type} {enc : TypeId × Value → H} {P : Program} {w : World} {base : Nat} {held : Bool}
abbrev Zw (w : World) : Nat → Prop := fun k => k < w.heap.size
abbrev No : Nat → Prop := fun _ => False
theorem rep_ints {q : TypeId} (hn : nf q = false) {k : IntKind} {a : Addr} {len cap : Nat} {zs : List Int} (hl : len ≤ cap) (hm : cap ≤ maxLen) (hz : zs.length = cap) (hc : ∀ i, i < zs.length → w.cell? (a.add i) = some (.int k (zs.getD i 0))) (hw : ∀ n ∈ zs, (Lit.int k n).wf = true) :
    ∃ l : List Int, len = l.length ∧ l.length ≤ maxLen ∧ (∀ x ∈ l, (Lit.int k x).wf = true) ∧ Rep (Zw w) w false (.sl q (.int k)) l [.slice (some a) len cap] No := by
  have hlen : (zs.take len).length = len := by rw [List.length_take]; omega
  refine ⟨zs.take len, hlen.symm, by omega, fun x hx => hw x (List.mem_of_mem_take hx), some a, cap, by rw [hlen], ?_, fun h => by rw [hn] at h; cases h⟩
  refine view_raw Nat.one_pos (by show (zs.take len).length ≤ _; omega) (by show (zs.take len).length ≤ _; simp only [maxLen] at hm; omega) fun _ => ⟨a, rfl, fun j p hj => ?_⟩
  have hj : (zs.take len)[j]? = some p := hj
  have hjl : j < len := by
    have := (List.getElem?_eq_some_iff.1 hj).1
    omega
  refine ⟨[.int k p], rfl, rfl, fun i u hu => ?_⟩
  cases i with
  | zero =>
    simp only [List.getElem?_cons_zero, Option.some.injEq] at hu
    subst hu
    have h := hc j (by omega)
    have hp : zs.getD j 0 = p := by
      rw [List.getElem?_take] at hj
      simp only [hjl, if_true] at hj
      simp [List.getD, hj]
    rw [hp] at h
    simpa [Ty.size] using h
  | succ i => simp at hu
theorem rep_none {q : TypeId} {t : Ty} : Rep (Zw w) w false (.sl q t) ([] : List t.den) [.slice none 0 0] No :=
  ⟨none, 0, rfl, ⟨Nat.le_refl _, Nat.zero_le _, fun h => absurd h (by simp)⟩, fun _ _ => rfl⟩
theorem come_ints {t e : TypeId} {k : IntKind} {fuel : Nat} {v : Value} {x : DataW H × List MemPlace} (ht : P.underlying t = some (.slice e)) (he : P.underlying e = some (.int k)) (hc : P.cellsOf e = 1)
    (h : DataW.trod enc P w base (fun _ => true) held fuel t [v] = some x) (hn : nf e = false := by rfl) :
    ∃ l : List Int, l.length ≤ maxLen ∧ (∀ x ∈ l, (Lit.int k x).wf = true) ∧ Rep (Zw w) w false (.sl e (.int k)) l [v] No := by
  rcases open_ints ht he hc h with ⟨hcs, _⟩ | ⟨a, len, cap, zs, hcs, _, hl, hm, hz, _, hcell, hw⟩
  · refine ⟨[], by simp, by simp, ?_⟩
    rw [hcs]
    exact rep_none
  · simp only [if_true] at hz
    obtain ⟨l, h1, h2, h3, h4⟩ := rep_ints (q := e) hn hl hm hz hcell hw
    exact ⟨l, h2, h3, by rw [hcs]; exact h4⟩
theorem come_rows {t e q : TypeId} {k : IntKind} {fuel : Nat} {v : Value} {x : DataW H × List MemPlace} (ht : P.underlying t = some (.slice e)) (he : P.underlying e = some (.slice q)) (hq : P.underlying q = some (.int k))
    (ce : P.cellsOf e = 1) (cq : P.cellsOf q = 1) (h : DataW.trod enc P w base (fun _ => true) held fuel t [v] = some x) (hne : nf e = false := by rfl) (hn : nf q = false := by rfl) :
    ∃ l : List (List Int), l.length ≤ maxLen ∧ (∀ r ∈ l, r.length ≤ maxLen ∧ ∀ x ∈ r, (Lit.int k x).wf = true) ∧ Rep (Zw w) w false (.sl e (.sl q (.int k))) l [v] No := by
  rcases open_int_rows ht he hq ce cq h with ⟨hcs, _⟩ | ⟨a, len, cap, A, L, C, Z, hcs, _, hl, hm, _, hr⟩
  · refine ⟨[], by simp, by simp, ?_⟩
    rw [hcs]
    exact rep_none
  · have each : ∀ r, r < cap → ∃ y : List Int, y.length ≤ maxLen ∧ (∀ x ∈ y, (Lit.int k x).wf = true) ∧ Rep (Zw w) w false (.sl q (.int k)) y [.slice (A r) (L r) (C r)] No := by
      intro r hrc
      obtain ⟨_, h1, h2, h3, h4, h5, h6⟩ := hr r hrc
      cases hA : A r with
      | none =>
        have hC := h5 hA
        refine ⟨[], by simp, by simp, ?_⟩
        have hL : L r = 0 := by omega
        rw [hL, hC]
        exact rep_none
      | some a' =>
        obtain ⟨l, _, h7, h8, h9⟩ := rep_ints (q := q) hn h1 h2 h3 (fun i hi => (h6 a' hA).2 i (by omega)) h4
        exact ⟨l, h7, h8, h9⟩
    obtain ⟨Y, hY⟩ := choose_lt each
    have hlen : ((List.range len).map Y).length = len := by simp
    refine ⟨(List.range len).map Y, by omega, fun r hr' => ?_, ?_⟩
    · obtain ⟨j, hj, rfl⟩ := List.mem_map.1 hr'
      obtain ⟨h1, h2, _⟩ := hY j (by have := List.mem_range.1 hj; omega)
      exact ⟨h1, h2⟩
    · rw [hcs]
      refine ⟨some a, cap, by rw [hlen], ?_, fun h => by rw [hne] at h; cases h⟩
      refine view_raw Nat.one_pos (by show ((List.range len).map Y).length ≤ _; omega) (by show ((List.range len).map Y).length ≤ _; simp only [maxLen] at hm; omega) fun _ => ⟨a, rfl, fun j p hj => ?_⟩
      have hj : ((List.range len).map Y)[j]? = some p := hj
      have hjl : j < len := by
        have := (List.getElem?_eq_some_iff.1 hj).1
        omega
      have hp : p = Y j := by simpa [hjl] using hj.symm
      subst hp
      obtain ⟨h1, h2, h3⟩ := hY j (by omega)
      refine ⟨[.slice (A j) (L j) (C j)], rfl, h3, fun i u hu => ?_⟩
      cases i with
      | zero =>
        simp only [List.getElem?_cons_zero, Option.some.injEq] at hu
        subst hu
        have := (hr j (by omega)).1
        simpa [Ty.size] using this
      | succ i => simp at hu
theorem come_int {t : TypeId} {k : IntKind} {fuel : Nat} {v : Value} {x : DataW H × List MemPlace} (ht : P.underlying t = some (.int k)) (h : DataW.trod enc P w base (fun _ => true) held fuel t [v] = some x) : ∃ n : Int, (Lit.int k n).wf = true ∧ Rep (Zw w) w false (.int k) n [v] No := by
  obtain ⟨n, h1, _, h2⟩ := DataW.trod_int ht h
  exact ⟨n, h2, h1⟩
theorem open_agg1 {r : Reach} {b0 : Nat} {t : TypeId} {f0 : Field} {v : Value} {d : DataW H} {p : List MemPlace} {spare : Nat → Bool} (hs : P.underlying t = some (.struct #[f0])) (hone : oneCellFields P #[f0] = true) (hC : P.cellsOf t = 1)
    (hv : Value.okWide P w r b0 t v) (h : DataW.Trod enc P w base spare held t v d p) :
    ∃ (v0 : Value) (y0 : DataW H × List MemPlace) (n : Nat), v = .agg #[v0] ∧ DataW.trod enc P w base spare held n f0.type [v0] = some y0 := by
  obtain ⟨cs, rfl, hsz⟩ := okWide_struct hs hv
  have hsz1 : cs.size = 1 := hsz.trans hC
  obtain ⟨c0, rfl⟩ : ∃ c0, cs = #[c0] := by
    obtain ⟨l⟩ := cs
    match l, hsz1 with
    | [c0], _ => exact ⟨c0, rfl⟩
  obtain ⟨fuel, hf⟩ := h
  obtain ⟨y0, n, hx, _, h0⟩ := trod_struct1 hs hf
  obtain ⟨o0, k0⟩ := hone_of hone 0 f0 rfl
  exact ⟨c0, y0, n, rfl, by simpa [Value.cells, o0, k0] using h0⟩
theorem args_nil : ASRs P No (Zw w) w [] () [] No := rfl
theorem args_one {t : Ty} {x : t.den} {v : Value} {ins : List ASh} {y : lsd (flats ins)} {vs : List Value} (h : Rep (Zw w) w false t x [v] No) (hr : ASRs P No (Zw w) w ins y vs No) : ASRs P No (Zw w) w (.one (.v t) :: ins) (x, y) (v :: vs) No :=
  ⟨v, vs, No, No, rfl, h, hr, fun _ h => h, fun _ h => h, fun _ h => h.elim⟩
theorem args_agg1 {t : Ty} {x : t.den} {v : Value} {ins : List ASh} {y : lsd (flats ins)} {vs : List Value} (h : Rep (Zw w) w false t x [v] No) (hr : ASRs P No (Zw w) w ins y vs No) : ASRs P No (Zw w) w (.agg [.v t] :: ins) (x, y) (.agg #[v] :: vs) No :=
  ⟨.agg #[v], vs, No, No, rfl, ⟨[v], rfl, v, [], No, No, rfl, h, rfl, fun _ h => h, fun _ h => h, fun _ h => h.elim⟩, hr, fun _ h => h, fun _ h => h, fun _ h => h.elim⟩
theorem args_agg2 {t t' : Ty} {x : t.den} {x' : t'.den} {v v' : Value} {ins : List ASh} {y : lsd (flats ins)} {vs : List Value} (h : Rep (Zw w) w false t x [v] No) (h' : Rep (Zw w) w false t' x' [v'] No) (hr : ASRs P No (Zw w) w ins y vs No) : ASRs P No (Zw w) w (.agg [.v t, .v t'] :: ins) (x, x', y) (.agg #[v, v'] :: vs) No :=
  ⟨.agg #[v, v'], vs, No, No, rfl, ⟨[v, v'], rfl, v, [v'], No, No, rfl, h, ⟨v', [], No, No, rfl, h', rfl, fun _ h => h, fun _ h => h, fun _ h => h.elim⟩, fun _ h => h, fun _ h => h, fun _ h => h.elim⟩, hr, fun _ h => h, fun _ h => h, fun _ h => h.elim⟩
end
end Go.Proofs.Ytpppnoliogdkiaa.D
set_option linter.unusedVariables false
namespace Go.Proofs.Ytpppnoliogdkiaa.D
open Go Go.RowKit
theorem valid_int1 {P : Program} {g : FuncId} {k k' : IntKind} {F : Int → Option Int} (hc : Callable P g) (h : ∀ (x y : Int) (w : World), F x = some y → Calls P g #[.int k x] w fun e w' => e = .returned (.int k' y) ∧ w' = w) :
    Valid P g ⟨[.one (.v (.int k))], [.one (.v (.int k'))], Int, fun x => F x.1, fun r => ((r, ()), ())⟩ := by
  refine ⟨hc, fun x r hx Z B S w vs ha hS hZ hB => ?_⟩
  obtain ⟨v, vs', F0, F1, rfl, h1, h2, _⟩ := ha
  cases h2
  have h1 : [v] = [.int k x.1] := h1
  cases h1
  refine (h x.1 r w hx).mono ?_
  rintro e w' ⟨rfl, rfl⟩
  refine ⟨_, rfl, Z, fun _ => False, fun _ => False, ⟨⟨_, [], fun _ => False, fun _ => False, rfl, trivial, trivial, fun _ h => h, fun _ h => h, fun _ h => h.elim⟩, ⟨[.int k' r], rfl, _, [], fun _ => False, fun _ => False, rfl, rfl, rfl, fun _ h => h, fun _ h => h, fun _ h => h.elim⟩, fun _ h => h.elim, fun _ h => (h.elim id id : False).elim, fun _ h => h, fun k hk => ⟨.inl hk, hZ k hk⟩, rfl, rfl, rfl, Nat.le_refl _, fun _ _ _ => rfl⟩⟩
end Go.Proofs.Ytpppnoliogdkiaa.D
set_option linter.unusedVariables false
namespace Go.Proofs.Ytpppnoliogdkiaa.P
open Go Go.RowKit Go.Proofs.Ytpppnoliogdkiaa.D
noncomputable def bits_Len.f (a0 : Int) : Option Int := if 0 ≤ a0 ∧ a0 ≤ 18446744073709551615 then some (Lib.bitLen a0.toNat : Int) else none
noncomputable def bits_Len.con : Con := ⟨[.one (.v (.int .u64))], [.one (.v (.int .i64))], Int, fun x => bits_Len.f x.1, fun r => ((r, ()), (()))⟩
theorem bits_Len.valid : Valid Try.prog 190 bits_Len.con := valid_int1 ⟨_, Try.func190, by kernel_rfl, by kernel_rfl⟩ fun x y w h => by
  unfold bits_Len.f at h
  split at h
  · cases h
    exact Try.bits_Len x w (by omega) (by omega)
  · cases h
end Go.Proofs.Ytpppnoliogdkiaa.P
set_option linter.unusedVariables false
namespace Go.Proofs.Ytpppnoliogdkiaa.P
open Go Go.RowKit Go.Proofs.Ytpppnoliogdkiaa.D
noncomputable def slices_SortFunc_int64.E : Env := { tt := TT, con := [(190, bits_Len.con), (189, slices_pdqsortCmpFunc_int64.con)], frz := [], rows := [], live := [], n := 14, pin := 1, nils := [] }
noncomputable def slices_SortFunc_int64.fn : D.Fn := { body := Try.f167.body.getD .skip, res := Try.f167.results.toList, ins := [.one (.own 25 false (.sl 2 (.int .i64))), .one (.fn [(.sl 2 (.int .i64)), (.sl 2 (.int .i64))] (.int .i64))], outs := [] }
def slices_SortFunc_int64.enc (y : lsd (flats slices_SortFunc_int64.fn.outs) × lsd (ios slices_SortFunc_int64.fn.ins)) : (List (List Int)) := y.2.1
noncomputable def slices_SortFunc_int64.f (l0 : List (List Int)) (f1 : (List Int) → (List Int) → Option Int) : Option (List (List Int)) := denF slices_SortFunc_int64.E slices_SortFunc_int64.fn slices_SortFunc_int64.enc (l0, fun x => f1 x.1 x.2.1, ())
set_option maxRecDepth 100000 in
theorem slices_SortFunc_int64.f_eq (l0 : List (List Int)) (f1 : (List Int) → (List Int) → Option Int) : slices_SortFunc_int64.f l0 f1 = (bits_Len.f (wr .u64 (l0.length : Int))).bind fun t11 => (slices_pdqsortCmpFunc_int64.f l0 0 (l0.length : Int) t11 (fun z0 z1 => (f1 z0 z1).map fun z => z)).bind fun t13 => some t13 := by kernel_rfl
noncomputable def slices_SortFunc_int64.con : Con := ⟨slices_SortFunc_int64.fn.ins, slices_SortFunc_int64.fn.outs, (List (List Int)), fun x => slices_SortFunc_int64.f x.1 (fun z0 z1 => x.2.1 (z0, z1, ())), fun r => ((()), (r, ()))⟩
theorem slices_SortFunc_int64.valid : Valid Try.prog 167 slices_SortFunc_int64.con := fn_valid (f := slices_SortFunc_int64.fn) (E := slices_SortFunc_int64.E) (enc := slices_SortFunc_int64.enc) ⟨ttOk, (conCons bits_Len.valid (conCons slices_pdqsortCmpFunc_int64.valid conNil))⟩ (Checked.mixed Try.checked) ⟨Try.func167, by kernel_rfl, by kernel_rfl, by kernel_rfl, by kernel_rfl, by decide, by kernel_rfl, by kernel_rfl⟩ (fun _ => rfl)
end Go.Proofs.Ytpppnoliogdkiaa.P
set_option linter.unusedVariables false
namespace Go.Proofs.Ytpppnoliogdkiaa.P
open Go Go.RowKit Go.Proofs.Ytpppnoliogdkiaa.D
noncomputable def cmp_isNaN_int64.E : Env := { tt := TT, con := [], frz := [], rows := [], live := [], n := 6, pin := 0, nils := [] }
noncomputable def cmp_isNaN_int64.fn : D.Fn := { body := Try.f207.body.getD .skip, res := Try.f207.results.toList, ins := [.one (.v (.int .i64))], outs := [.one (.v .bool)] }
def cmp_isNaN_int64.enc (y : lsd (flats cmp_isNaN_int64.fn.outs) × lsd (ios cmp_isNaN_int64.fn.ins)) : Bool := y.1.1
noncomputable def cmp_isNaN_int64.f (a0 : Int) : Option Bool := denF cmp_isNaN_int64.E cmp_isNaN_int64.fn cmp_isNaN_int64.enc (a0, ())
set_option maxRecDepth 100000 in
theorem cmp_isNaN_int64.f_eq (a0 : Int) : cmp_isNaN_int64.f a0 = some (!decide (a0 = a0)) := by kernel_rfl
noncomputable def cmp_isNaN_int64.con : Con := ⟨cmp_isNaN_int64.fn.ins, cmp_isNaN_int64.fn.outs, Bool, fun x => cmp_isNaN_int64.f x.1, fun r => ((r, ()), (()))⟩
theorem cmp_isNaN_int64.valid : Valid Try.prog 207 cmp_isNaN_int64.con := fn_valid (f := cmp_isNaN_int64.fn) (E := cmp_isNaN_int64.E) (enc := cmp_isNaN_int64.enc) ⟨ttOk, conNil⟩ (Checked.mixed Try.checked) ⟨Try.func207, by kernel_rfl, by kernel_rfl, by kernel_rfl, by kernel_rfl, by decide, by kernel_rfl, by kernel_rfl⟩ (fun _ => rfl)
end Go.Proofs.Ytpppnoliogdkiaa.P
set_option linter.unusedVariables false
namespace Go.Proofs.Ytpppnoliogdkiaa.P
open Go Go.RowKit Go.Proofs.Ytpppnoliogdkiaa.D
noncomputable def cmp_Compare_int64.E : Env := { tt := TT, con := [(207, cmp_isNaN_int64.con)], frz := [], rows := [], live := [], n := 20, pin := 0, nils := [] }
noncomputable def cmp_Compare_int64.fn : D.Fn := { body := Try.f191.body.getD .skip, res := Try.f191.results.toList, ins := [.one (.v (.int .i64)), .one (.v (.int .i64))], outs := [.one (.v (.int .i64))] }
def cmp_Compare_int64.enc (y : lsd (flats cmp_Compare_int64.fn.outs) × lsd (ios cmp_Compare_int64.fn.ins)) : Int := y.1.1
noncomputable def cmp_Compare_int64.f (a0 : Int) (a1 : Int) : Option Int := denF cmp_Compare_int64.E cmp_Compare_int64.fn cmp_Compare_int64.enc (a0, a1, ())
set_option maxRecDepth 100000 in
theorem cmp_Compare_int64.f_eq (a0 : Int) (a1 : Int) : cmp_Compare_int64.f a0 a1 = (cmp_isNaN_int64.f a0).bind fun t8 => (cmp_isNaN_int64.f a1).bind fun t10 => if t8 = true then (if t10 = true then (some 0) else (some (-1))) else (if t10 = true then (some 1) else (if a0 < a1 then (some (-1)) else (if a0 > a1 then (some 1) else (some 0)))) := by kernel_rfl
noncomputable def cmp_Compare_int64.con : Con := ⟨cmp_Compare_int64.fn.ins, cmp_Compare_int64.fn.outs, Int, fun x => cmp_Compare_int64.f x.1 x.2.1, fun r => ((r, ()), (()))⟩
theorem cmp_Compare_int64.valid : Valid Try.prog 191 cmp_Compare_int64.con := fn_valid (f := cmp_Compare_int64.fn) (E := cmp_Compare_int64.E) (enc := cmp_Compare_int64.enc) ⟨ttOk, (conCons cmp_isNaN_int64.valid conNil)⟩ (Checked.mixed Try.checked) ⟨Try.func191, by kernel_rfl, by kernel_rfl, by kernel_rfl, by kernel_rfl, by decide, by kernel_rfl, by kernel_rfl⟩ (fun _ => rfl)
end Go.Proofs.Ytpppnoliogdkiaa.P
set_option linter.unusedVariables false
namespace Go.Proofs.Ytpppnoliogdkiaa.P
open Go Go.RowKit Go.Proofs.Ytpppnoliogdkiaa.D
noncomputable def slices_Compare_int64.E : Env := { tt := TT, con := [(191, cmp_Compare_int64.con)], frz := [], rows := [], live := [(2, [0, 1, 9, 10, 11])], n := 36, pin := 0, nils := [] }
noncomputable def slices_Compare_int64.fn : D.Fn := { body := Try.f168.body.getD .skip, res := Try.f168.results.toList, ins := [.one (.v (.sl 2 (.int .i64))), .one (.v (.sl 2 (.int .i64)))], outs := [.one (.v (.int .i64))] }
def slices_Compare_int64.enc (y : lsd (flats slices_Compare_int64.fn.outs) × lsd (ios slices_Compare_int64.fn.ins)) : Int := y.1.1
noncomputable def slices_Compare_int64.f (l0 : List Int) (l1 : List Int) : Option Int := denF slices_Compare_int64.E slices_Compare_int64.fn slices_Compare_int64.enc (l0, l1, ())
noncomputable def slices_Compare_int64.l0 (x0 : List Int) (x1 : List Int) (x9 : List Int) (x10 : Int) (x11 : Int) : Option Int := denAt slices_Compare_int64.E slices_Compare_int64.fn slices_Compare_int64.enc [1, 0, 1, 0] { fr := [(0, .lf (.sl (.int .i64) x0)), (1, .lf (.sl (.int .i64) x1)), (9, .lf (.sl (.int .i64) x9)), (10, .lf (.int .i64 x10)), (11, .lf (.int .i64 x11))], ob := [], nx := 0 }
set_option maxRecDepth 100000 in
theorem slices_Compare_int64.f_eq (l0 : List Int) (l1 : List Int) : slices_Compare_int64.f l0 l1 = slices_Compare_int64.l0 l0 l1 l0 (l0.length : Int) 0 := by kernel_rfl
set_option maxRecDepth 100000 in
theorem slices_Compare_int64.l0_eq (x0 : List Int) (x1 : List Int) (x9 : List Int) (x10 : Int) (x11 : Int) : slices_Compare_int64.l0 x0 x1 x9 x10 x11 = if x11 < x10 then (if 0 ≤ x11 then (if x11 < (x9.length : Int) then (if x11 ≥ (x1.length : Int) then (some 1) else (if 0 ≤ x11 then (if x11 < (x1.length : Int) then ((cmp_Compare_int64.f (rd x9 x11) (rd x1 x11)).bind fun t26 => if t26 = 0 then (slices_Compare_int64.l0 x0 x1 x9 x10 (wrapI (x11 + 1))) else (some t26)) else none) else none)) else none) else none) else (if (x0.length : Int) < (x1.length : Int) then (some (-1)) else (some 0)) := (loop_unfold _ _ _ _).trans (by kernel_rfl)
noncomputable def slices_Compare_int64.con : Con := ⟨slices_Compare_int64.fn.ins, slices_Compare_int64.fn.outs, Int, fun x => slices_Compare_int64.f x.1 x.2.1, fun r => ((r, ()), (()))⟩
theorem slices_Compare_int64.valid : Valid Try.prog 168 slices_Compare_int64.con := fn_valid (f := slices_Compare_int64.fn) (E := slices_Compare_int64.E) (enc := slices_Compare_int64.enc) ⟨ttOk, (conCons cmp_Compare_int64.valid conNil)⟩ (Checked.mixed Try.checked) ⟨Try.func168, by kernel_rfl, by kernel_rfl, by kernel_rfl, by kernel_rfl, by decide, by kernel_rfl, by kernel_rfl⟩ (fun _ => rfl)
end Go.Proofs.Ytpppnoliogdkiaa.P
set_option linter.unusedVariables false
namespace Go.Proofs.Ytpppnoliogdkiaa.P
open Go Go.RowKit Go.Proofs.Ytpppnoliogdkiaa.D
noncomputable def slices_CompactFunc_int64.E : Env := { tt := TT, con := [], frz := [], rows := [], live := [(4, [0, 1, 5]), (9, [0, 1, 5, 6, 7])], n := 66, pin := 0, nils := [] }
noncomputable def slices_CompactFunc_int64.fn : D.Fn := { body := Try.f169.body.getD .skip, res := Try.f169.results.toList, ins := [.eat 25 false (.sl 2 (.int .i64)), .one (.fn [(.sl 2 (.int .i64)), (.sl 2 (.int .i64))] .bool)], outs := [.one (.own 25 false (.sl 2 (.int .i64)))] }
def slices_CompactFunc_int64.enc (y : lsd (flats slices_CompactFunc_int64.fn.outs) × lsd (ios slices_CompactFunc_int64.fn.ins)) : (List (List Int)) := y.1.1
noncomputable def slices_CompactFunc_int64.f (l0 : List (List Int)) (f1 : (List Int) → (List Int) → Option Bool) : Option (List (List Int)) := denF slices_CompactFunc_int64.E slices_CompactFunc_int64.fn slices_CompactFunc_int64.enc (l0, fun x => f1 x.1 x.2.1, ())
noncomputable def slices_CompactFunc_int64.l0 (fx1 : (List Int) → (List Int) → Option Bool) (x5 : Int) (r0 : List (List Int)) : Option (List (List Int)) := denAt slices_CompactFunc_int64.E slices_CompactFunc_int64.fn slices_CompactFunc_int64.enc [1, 1, 0, 1, 0] { fr := [(0, .lf (.own 0)), (1, .lf (.fn [(.sl 2 (.int .i64)), (.sl 2 (.int .i64))] .bool (fun x => fx1 x.1 x.2.1))), (5, .lf (.int .i64 x5))], ob := [(0, .row 25 false (.sl 2 (.int .i64)) r0)], nx := 1 }
noncomputable def slices_CompactFunc_int64.l1 (fx1 : (List Int) → (List Int) → Option Bool) (x5 : Int) (x6 : Nat) (x7 : Int) (r0 : List (List Int)) : Option (List (List Int)) := denAt slices_CompactFunc_int64.E slices_CompactFunc_int64.fn slices_CompactFunc_int64.enc [1, 1, 0, 1, 0, 0, 1, 0, 0, 1, 0, 1, 0, 1, 0] { fr := [(0, .lf (.own 0)), (1, .lf (.fn [(.sl 2 (.int .i64)), (.sl 2 (.int .i64))] .bool (fun x => fx1 x.1 x.2.1))), (5, .lf (.int .i64 x5)), (6, .lf (.sub 0 x6)), (7, .lf (.int .i64 x7))], ob := [(0, .row 25 false (.sl 2 (.int .i64)) r0)], nx := 1 }
set_option maxRecDepth 100000 in
theorem slices_CompactFunc_int64.f_eq (l0 : List (List Int)) (f1 : (List Int) → (List Int) → Option Bool) : slices_CompactFunc_int64.f l0 f1 = if (l0.length : Int) < 2 then (some l0) else (slices_CompactFunc_int64.l0 f1 1 l0) := by kernel_rfl
set_option maxRecDepth 100000 in
theorem slices_CompactFunc_int64.l0_eq (fx1 : (List Int) → (List Int) → Option Bool) (x5 : Int) (r0 : List (List Int)) : slices_CompactFunc_int64.l0 fx1 x5 r0 = if x5 < (r0.length : Int) then (if 0 ≤ x5 then (if x5 < (r0.length : Int) then (if 0 ≤ x5 then (if x5 < (r0.length : Int) then (if 0 ≤ wrapI (x5 - 1) then (if wrapI (x5 - 1) < (r0.length : Int) then (if 0 ≤ wrapI (x5 - 1) then (if wrapI (x5 - 1) < (r0.length : Int) then ((fx1 (row r0 x5) (row r0 (wrapI (x5 - 1)))).bind fun t28 => if t28 = true then (if 0 < (r0.length : Int) then (if 0 ≤ x5 then (if x5 ≤ (r0.length : Int) then (slices_CompactFunc_int64.l1 fx1 x5 ((x5 : Int).toNat) 1 r0) else none) else none) else none) else (slices_CompactFunc_int64.l0 fx1 (wrapI (x5 + 1)) r0)) else none) else none) else none) else none) else none) else none) else none) else none) else (some r0) := (loop_unfold _ _ _ _).trans (by kernel_rfl)
set_option maxRecDepth 100000 in
theorem slices_CompactFunc_int64.l1_eq (fx1 : (List Int) → (List Int) → Option Bool) (x5 : Int) (x6 : Nat) (x7 : Int) (r0 : List (List Int)) : slices_CompactFunc_int64.l1 fx1 x5 x6 x7 r0 = if x7 < ((r0.length - x6 : Nat) : Int) then (if 0 ≤ x7 then (if (x6 : Int) + x7 < (r0.length : Int) then (if 0 ≤ (x6 : Int) + x7 then (if (x6 : Int) + x7 < (r0.length : Int) then (if 0 ≤ wrapI (x7 - 1) then (if (x6 : Int) + (wrapI (x7 - 1)) < (r0.length : Int) then (if 0 ≤ (x6 : Int) + (wrapI (x7 - 1)) then (if (x6 : Int) + (wrapI (x7 - 1)) < (r0.length : Int) then ((fx1 (row r0 ((x6 : Int) + x7)) (row r0 ((x6 : Int) + (wrapI (x7 - 1))))).bind fun t48 => if t48 = true then (slices_CompactFunc_int64.l1 fx1 x5 x6 (wrapI (x7 + 1)) r0) else (if 0 ≤ x7 then (if (x6 : Int) + x7 < (r0.length : Int) then (if 0 ≤ (x6 : Int) + x7 then (if (x6 : Int) + x7 < (r0.length : Int) then (if 0 ≤ x5 then (if x5 < (r0.length : Int) then (if 0 ≤ x5 then (if x5 < (r0.length : Int) then (slices_CompactFunc_int64.l1 fx1 (wrapI (x5 + 1)) x6 (wrapI (x7 + 1)) (r0.set (x5 : Int).toNat (row r0 ((x6 : Int) + x7)))) else none) else none) else none) else none) else none) else none) else none) else none)) else none) else none) else none) else none) else none) else none) else none) else none) else (if 0 < (r0.length : Int) then (if 0 ≤ x5 then (if x5 ≤ (r0.length : Int) then (if 0 < ((r0.take ((x5 : Int).toNat) ++ List.replicate (r0.length - ((x5 : Int).toNat)) []).length : Int) then (if 0 ≤ x5 then (if x5 ≤ ((r0.take ((x5 : Int).toNat) ++ List.replicate (r0.length - ((x5 : Int).toNat)) []).length : Int) then (some ((r0.take ((x5 : Int).toNat) ++ List.replicate (r0.length - ((x5 : Int).toNat)) []).take (x5 : Int).toNat)) else none) else none) else none) else none) else none) else none) := (loop_unfold _ _ _ _).trans (by kernel_rfl)
noncomputable def slices_CompactFunc_int64.con : Con := ⟨slices_CompactFunc_int64.fn.ins, slices_CompactFunc_int64.fn.outs, (List (List Int)), fun x => slices_CompactFunc_int64.f x.1 (fun z0 z1 => x.2.1 (z0, z1, ())), fun r => ((r, ()), (()))⟩
theorem slices_CompactFunc_int64.valid : Valid Try.prog 169 slices_CompactFunc_int64.con := fn_valid (f := slices_CompactFunc_int64.fn) (E := slices_CompactFunc_int64.E) (enc := slices_CompactFunc_int64.enc) ⟨ttOk, conNil⟩ (Checked.mixed Try.checked) ⟨Try.func169, by kernel_rfl, by kernel_rfl, by kernel_rfl, by kernel_rfl, by decide, by kernel_rfl, by kernel_rfl⟩ (fun _ => rfl)
end Go.Proofs.Ytpppnoliogdkiaa.P
set_option linter.unusedVariables false
namespace Go.Proofs.Ytpppnoliogdkiaa.P
open Go Go.RowKit Go.Proofs.Ytpppnoliogdkiaa.D
noncomputable def slices_Equal_int64.E : Env := { tt := TT, con := [], frz := [], rows := [], live := [(4, [0, 1, 12, 13])], n := 26, pin := 0, nils := [] }
noncomputable def slices_Equal_int64.fn : D.Fn := { body := Try.f170.body.getD .skip, res := Try.f170.results.toList, ins := [.one (.v (.sl 2 (.int .i64))), .one (.v (.sl 2 (.int .i64)))], outs := [.one (.v .bool)] }
def slices_Equal_int64.enc (y : lsd (flats slices_Equal_int64.fn.outs) × lsd (ios slices_Equal_int64.fn.ins)) : Bool := y.1.1
noncomputable def slices_Equal_int64.f (l0 : List Int) (l1 : List Int) : Option Bool := denF slices_Equal_int64.E slices_Equal_int64.fn slices_Equal_int64.enc (l0, l1, ())
noncomputable def slices_Equal_int64.l0 (x0 : List Int) (x1 : List Int) (x12 : Int) (x13 : Int) : Option Bool := denAt slices_Equal_int64.E slices_Equal_int64.fn slices_Equal_int64.enc [1, 1, 0, 1, 0] { fr := [(0, .lf (.sl (.int .i64) x0)), (1, .lf (.sl (.int .i64) x1)), (12, .lf (.int .i64 x12)), (13, .lf (.int .i64 x13))], ob := [], nx := 0 }
set_option maxRecDepth 100000 in
theorem slices_Equal_int64.f_eq (l0 : List Int) (l1 : List Int) : slices_Equal_int64.f l0 l1 = if (l0.length : Int) = (l1.length : Int) then (slices_Equal_int64.l0 l0 l1 (l0.length : Int) 0) else (some false) := by kernel_rfl
set_option maxRecDepth 100000 in
theorem slices_Equal_int64.l0_eq (x0 : List Int) (x1 : List Int) (x12 : Int) (x13 : Int) : slices_Equal_int64.l0 x0 x1 x12 x13 = if x13 < x12 then (if 0 ≤ x13 then (if x13 < (x0.length : Int) then (if 0 ≤ x13 then (if x13 < (x1.length : Int) then (if (rd x0 x13) = (rd x1 x13) then (slices_Equal_int64.l0 x0 x1 x12 (wrapI (x13 + 1))) else (some false)) else none) else none) else none) else none) else (some true) := (loop_unfold _ _ _ _).trans (by kernel_rfl)
noncomputable def slices_Equal_int64.con : Con := ⟨slices_Equal_int64.fn.ins, slices_Equal_int64.fn.outs, Bool, fun x => slices_Equal_int64.f x.1 x.2.1, fun r => ((r, ()), (()))⟩
theorem slices_Equal_int64.valid : Valid Try.prog 170 slices_Equal_int64.con := fn_valid (f := slices_Equal_int64.fn) (E := slices_Equal_int64.E) (enc := slices_Equal_int64.enc) ⟨ttOk, conNil⟩ (Checked.mixed Try.checked) ⟨Try.func170, by kernel_rfl, by kernel_rfl, by kernel_rfl, by kernel_rfl, by decide, by kernel_rfl, by kernel_rfl⟩ (fun _ => rfl)
end Go.Proofs.Ytpppnoliogdkiaa.P
set_option linter.unusedVariables false
namespace Go.Proofs.Ytpppnoliogdkiaa.P
open Go Go.RowKit Go.Proofs.Ytpppnoliogdkiaa.D
noncomputable def impl_principalMaps.E : Env := { tt := TT, con := [(166, impl_principalMap.con), (167, slices_SortFunc_int64.con), (168, slices_Compare_int64.con), (169, slices_CompactFunc_int64.con), (170, slices_Equal_int64.con)], frz := [14], rows := [5, 15], live := [(3, [1, 3, 7, 8])], n := 22, pin := 0, nils := [] }
noncomputable def impl_principalMaps.fn : D.Fn := { body := Try.f120.body.getD .skip, res := Try.f120.results.toList, ins := [.agg [.v (.int .i64), .v (.sl 2 (.int .i64))]], outs := [.one (.own 25 false (.sl 2 (.int .i64)))] }
def impl_principalMaps.enc (y : lsd (flats impl_principalMaps.fn.outs) × lsd (ios impl_principalMaps.fn.ins)) : (List (List Int)) := y.1.1
noncomputable def impl_principalMaps.f (a0_0 : Int) (l0_1 : List Int) : Option (List (List Int)) := denF impl_principalMaps.E impl_principalMaps.fn impl_principalMaps.enc (a0_0, l0_1, ())
noncomputable def impl_principalMaps.l0 (x7 : Int) (x8 : Int) (b0_0 : Int) (b0_1 : List Int) (r1 : List (List Int)) : Option (List (List Int)) := denAt impl_principalMaps.E impl_principalMaps.fn impl_principalMaps.enc [1, 1, 0, 1, 0] { fr := [(1, .lf (.box 0 0)), (3, .lf (.own 1)), (7, .lf (.int .i64 x7)), (8, .lf (.int .i64 x8))], ob := [(0, .box 34 false [.int .i64 b0_0, .sl (.int .i64) b0_1]), (1, .row 25 false (.sl 2 (.int .i64)) r1)], nx := 2 }
set_option maxRecDepth 100000 in
theorem impl_principalMaps.f_eq (a0_0 : Int) (l0_1 : List Int) : impl_principalMaps.f a0_0 l0_1 = impl_principalMaps.l0 a0_0 0 a0_0 l0_1 ([] : List (List Int)) := by kernel_rfl
set_option maxRecDepth 100000 in
theorem impl_principalMaps.l0_eq (x7 : Int) (x8 : Int) (b0_0 : Int) (b0_1 : List Int) (r1 : List (List Int)) : impl_principalMaps.l0 x7 x8 b0_0 b0_1 r1 = if x8 < x7 then ((impl_principalMap.f b0_0 b0_1 x8).bind fun t14 => if r1.length + ([t14] : List (List Int)).length ≤ 5864062014805 then (impl_principalMaps.l0 x7 (wrapI (x8 + 1)) b0_0 b0_1 (r1 ++ ([t14] : List (List Int)))) else none) else ((slices_SortFunc_int64.f r1 (fun z0 z1 => (slices_Compare_int64.f z0 z1).map fun z => z)).bind fun t19 => (slices_CompactFunc_int64.f t19 (fun z0 z1 => (slices_Equal_int64.f z0 z1).map fun z => z)).bind fun t21 => some t21) := (loop_unfold _ _ _ _).trans (by kernel_rfl)
noncomputable def impl_principalMaps.con : Con := ⟨impl_principalMaps.fn.ins, impl_principalMaps.fn.outs, (List (List Int)), fun x => impl_principalMaps.f x.1 x.2.1, fun r => ((r, ()), (()))⟩
theorem impl_principalMaps.valid : Valid Try.prog 120 impl_principalMaps.con := fn_valid (f := impl_principalMaps.fn) (E := impl_principalMaps.E) (enc := impl_principalMaps.enc) ⟨ttOk, (conCons impl_principalMap.valid (conCons slices_SortFunc_int64.valid (conCons slices_Compare_int64.valid (conCons slices_CompactFunc_int64.valid (conCons slices_Equal_int64.valid conNil)))))⟩ (Checked.mixed Try.checked) ⟨Try.func120, by kernel_rfl, by kernel_rfl, by kernel_rfl, by kernel_rfl, by decide, by kernel_rfl, by kernel_rfl⟩ (fun _ => rfl)
end Go.Proofs.Ytpppnoliogdkiaa.P
set_option linter.unusedVariables false
namespace Go.Proofs.Ytpppnoliogdkiaa.P
open Go Go.RowKit Go.Proofs.Ytpppnoliogdkiaa.D
noncomputable def impl_order.E : Env := { tt := TT, con := [], frz := [], rows := [], live := [], n := 6, pin := 0, nils := [] }
noncomputable def impl_order.fn : D.Fn := { body := Try.f134.body.getD .skip, res := Try.f134.results.toList, ins := [.agg [.v (.sl 25 (.sl 2 (.int .i64)))]], outs := [.one (.v (.int .i64))] }
def impl_order.enc (y : lsd (flats impl_order.fn.outs) × lsd (ios impl_order.fn.ins)) : Int := y.1.1
noncomputable def impl_order.f (l0_0 : List (List Int)) : Option Int := denF impl_order.E impl_order.fn impl_order.enc (l0_0, ())
set_option maxRecDepth 100000 in
theorem impl_order.f_eq (l0_0 : List (List Int)) : impl_order.f l0_0 = some (l0_0.length : Int) := by kernel_rfl
noncomputable def impl_order.con : Con := ⟨impl_order.fn.ins, impl_order.fn.outs, Int, fun x => impl_order.f x.1, fun r => ((r, ()), (()))⟩
theorem impl_order.valid : Valid Try.prog 134 impl_order.con := fn_valid (f := impl_order.fn) (E := impl_order.E) (enc := impl_order.enc) ⟨ttOk, conNil⟩ (Checked.mixed Try.checked) ⟨Try.func134, by kernel_rfl, by kernel_rfl, by kernel_rfl, by kernel_rfl, by decide, by kernel_rfl, by kernel_rfl⟩ (fun _ => rfl)
end Go.Proofs.Ytpppnoliogdkiaa.P
set_option linter.unusedVariables false
namespace Go.Proofs.Ytpppnoliogdkiaa.P
open Go Go.RowKit Go.Proofs.Ytpppnoliogdkiaa.D
noncomputable def impl_areIn.E : Env := { tt := TT, con := [], frz := [], rows := [], live := [(2, [0, 7, 8, 9])], n := 21, pin := 0, nils := [] }
noncomputable def impl_areIn.fn : D.Fn := { body := Try.f148.body.getD .skip, res := Try.f148.results.toList, ins := [.one (.v (.int .i64)), .one (.v (.sl 2 (.int .i64)))], outs := [.one (.v .bool)] }
def impl_areIn.enc (y : lsd (flats impl_areIn.fn.outs) × lsd (ios impl_areIn.fn.ins)) : Bool := y.1.1
noncomputable def impl_areIn.f (a0 : Int) (l1 : List Int) : Option Bool := denF impl_areIn.E impl_areIn.fn impl_areIn.enc (a0, l1, ())
noncomputable def impl_areIn.l0 (x0 : Int) (x7 : List Int) (x8 : Int) (x9 : Int) : Option Bool := denAt impl_areIn.E impl_areIn.fn impl_areIn.enc [1, 0, 1, 0] { fr := [(0, .lf (.int .i64 x0)), (7, .lf (.sl (.int .i64) x7)), (8, .lf (.int .i64 x8)), (9, .lf (.int .i64 x9))], ob := [], nx := 0 }
set_option maxRecDepth 100000 in
theorem impl_areIn.f_eq (a0 : Int) (l1 : List Int) : impl_areIn.f a0 l1 = impl_areIn.l0 a0 l1 (l1.length : Int) 0 := by kernel_rfl
set_option maxRecDepth 100000 in
theorem impl_areIn.l0_eq (x0 : Int) (x7 : List Int) (x8 : Int) (x9 : Int) : impl_areIn.l0 x0 x7 x8 x9 = if x9 < x8 then (if 0 ≤ x9 then (if x9 < (x7.length : Int) then (if (rd x7 x9) < 0 then (some false) else (if (rd x7 x9) ≥ x0 then (some false) else (impl_areIn.l0 x0 x7 x8 (wrapI (x9 + 1))))) else none) else none) else (some true) := (loop_unfold _ _ _ _).trans (by kernel_rfl)
noncomputable def impl_areIn.con : Con := ⟨impl_areIn.fn.ins, impl_areIn.fn.outs, Bool, fun x => impl_areIn.f x.1 x.2.1, fun r => ((r, ()), (()))⟩
theorem impl_areIn.valid : Valid Try.prog 148 impl_areIn.con := fn_valid (f := impl_areIn.fn) (E := impl_areIn.E) (enc := impl_areIn.enc) ⟨ttOk, conNil⟩ (Checked.mixed Try.checked) ⟨Try.func148, by kernel_rfl, by kernel_rfl, by kernel_rfl, by kernel_rfl, by decide, by kernel_rfl, by kernel_rfl⟩ (fun _ => rfl)
end Go.Proofs.Ytpppnoliogdkiaa.P
set_option linter.unusedVariables false
namespace Go.Proofs.Ytpppnoliogdkiaa.P
open Go Go.RowKit Go.Proofs.Ytpppnoliogdkiaa.D
noncomputable def slices_Index_int64.E : Env := { tt := TT, con := [], frz := [], rows := [], live := [(2, [0, 1, 7, 8])], n := 19, pin := 0, nils := [] }
noncomputable def slices_Index_int64.fn : D.Fn := { body := Try.f183.body.getD .skip, res := Try.f183.results.toList, ins := [.one (.v (.sl 2 (.int .i64))), .one (.v (.int .i64))], outs := [.one (.v (.int .i64))] }
def slices_Index_int64.enc (y : lsd (flats slices_Index_int64.fn.outs) × lsd (ios slices_Index_int64.fn.ins)) : Int := y.1.1
noncomputable def slices_Index_int64.f (l0 : List Int) (a1 : Int) : Option Int := denF slices_Index_int64.E slices_Index_int64.fn slices_Index_int64.enc (l0, a1, ())
noncomputable def slices_Index_int64.l0 (x0 : List Int) (x1 : Int) (x7 : Int) (x8 : Int) : Option Int := denAt slices_Index_int64.E slices_Index_int64.fn slices_Index_int64.enc [1, 0, 1, 0] { fr := [(0, .lf (.sl (.int .i64) x0)), (1, .lf (.int .i64 x1)), (7, .lf (.int .i64 x7)), (8, .lf (.int .i64 x8))], ob := [], nx := 0 }
set_option maxRecDepth 100000 in
theorem slices_Index_int64.f_eq (l0 : List Int) (a1 : Int) : slices_Index_int64.f l0 a1 = slices_Index_int64.l0 l0 a1 (l0.length : Int) 0 := by kernel_rfl
set_option maxRecDepth 100000 in
theorem slices_Index_int64.l0_eq (x0 : List Int) (x1 : Int) (x7 : Int) (x8 : Int) : slices_Index_int64.l0 x0 x1 x7 x8 = if x8 < x7 then (if 0 ≤ x8 then (if x8 < (x0.length : Int) then (if x1 = (rd x0 x8) then (some x8) else (slices_Index_int64.l0 x0 x1 x7 (wrapI (x8 + 1)))) else none) else none) else (some (-1)) := (loop_unfold _ _ _ _).trans (by kernel_rfl)
noncomputable def slices_Index_int64.con : Con := ⟨slices_Index_int64.fn.ins, slices_Index_int64.fn.outs, Int, fun x => slices_Index_int64.f x.1 x.2.1, fun r => ((r, ()), (()))⟩
theorem slices_Index_int64.valid : Valid Try.prog 183 slices_Index_int64.con := fn_valid (f := slices_Index_int64.fn) (E := slices_Index_int64.E) (enc := slices_Index_int64.enc) ⟨ttOk, conNil⟩ (Checked.mixed Try.checked) ⟨Try.func183, by kernel_rfl, by kernel_rfl, by kernel_rfl, by kernel_rfl, by decide, by kernel_rfl, by kernel_rfl⟩ (fun _ => rfl)
end Go.Proofs.Ytpppnoliogdkiaa.P
set_option linter.unusedVariables false
namespace Go.Proofs.Ytpppnoliogdkiaa.P
open Go Go.RowKit Go.Proofs.Ytpppnoliogdkiaa.D
noncomputable def slices_Contains_int64.E : Env := { tt := TT, con := [(183, slices_Index_int64.con)], frz := [], rows := [], live := [], n := 9, pin := 0, nils := [] }
noncomputable def slices_Contains_int64.fn : D.Fn := { body := Try.f149.body.getD .skip, res := Try.f149.results.toList, ins := [.one (.v (.sl 2 (.int .i64))), .one (.v (.int .i64))], outs := [.one (.v .bool)] }
def slices_Contains_int64.enc (y : lsd (flats slices_Contains_int64.fn.outs) × lsd (ios slices_Contains_int64.fn.ins)) : Bool := y.1.1
noncomputable def slices_Contains_int64.f (l0 : List Int) (a1 : Int) : Option Bool := denF slices_Contains_int64.E slices_Contains_int64.fn slices_Contains_int64.enc (l0, a1, ())
set_option maxRecDepth 100000 in
theorem slices_Contains_int64.f_eq (l0 : List Int) (a1 : Int) : slices_Contains_int64.f l0 a1 = (slices_Index_int64.f l0 a1).bind fun t7 => some (decide (t7 ≥ 0)) := by kernel_rfl
noncomputable def slices_Contains_int64.con : Con := ⟨slices_Contains_int64.fn.ins, slices_Contains_int64.fn.outs, Bool, fun x => slices_Contains_int64.f x.1 x.2.1, fun r => ((r, ()), (()))⟩
theorem slices_Contains_int64.valid : Valid Try.prog 149 slices_Contains_int64.con := fn_valid (f := slices_Contains_int64.fn) (E := slices_Contains_int64.E) (enc := slices_Contains_int64.enc) ⟨ttOk, (conCons slices_Index_int64.valid conNil)⟩ (Checked.mixed Try.checked) ⟨Try.func149, by kernel_rfl, by kernel_rfl, by kernel_rfl, by kernel_rfl, by decide, by kernel_rfl, by kernel_rfl⟩ (fun _ => rfl)
end Go.Proofs.Ytpppnoliogdkiaa.P
set_option linter.unusedVariables false
namespace Go.Proofs.Ytpppnoliogdkiaa.P
open Go Go.RowKit Go.Proofs.Ytpppnoliogdkiaa.D
noncomputable def impl_IsGroup.E : Env := { tt := TT, con := [(134, impl_order.con), (148, impl_areIn.con), (149, slices_Contains_int64.con)], frz := [], rows := [], live := [(5, [1, 3, 18, 19, 20]), (11, [1, 3, 35, 36]), (16, [1, 3, 6, 35, 36, 68, 69]), (19, [1, 3, 6, 7, 35, 36, 68, 69, 72, 73])], n := 110, pin := 0, nils := [] }
noncomputable def impl_IsGroup.fn : D.Fn := { body := Try.f106.body.getD .skip, res := Try.f106.results.toList, ins := [.agg [.v (.sl 25 (.sl 2 (.int .i64)))]], outs := [.one (.v .bool)] }
def impl_IsGroup.enc (y : lsd (flats impl_IsGroup.fn.outs) × lsd (ios impl_IsGroup.fn.ins)) : Bool := y.1.1
noncomputable def impl_IsGroup.f (l0_0 : List (List Int)) : Option Bool := denF impl_IsGroup.E impl_IsGroup.fn impl_IsGroup.enc (l0_0, ())
noncomputable def impl_IsGroup.l0 (x3 : Int) (x18 : List (List Int)) (x19 : Int) (x20 : Int) (b0_0 : List (List Int)) : Option Bool := denAt impl_IsGroup.E impl_IsGroup.fn impl_IsGroup.enc [1, 1, 1, 0, 1, 0] { fr := [(1, .lf (.box 0 0)), (3, .lf (.int .i64 x3)), (18, .lf (.sl (.sl 2 (.int .i64)) x18)), (19, .lf (.int .i64 x19)), (20, .lf (.int .i64 x20))], ob := [(0, .box 32 false [.sl (.sl 2 (.int .i64)) b0_0])], nx := 1 }
noncomputable def impl_IsGroup.l1 (x3 : Int) (x35 : Int) (x36 : Int) (b0_0 : List (List Int)) : Option Bool := denAt impl_IsGroup.E impl_IsGroup.fn impl_IsGroup.enc [1, 1, 1, 1, 0, 1, 0] { fr := [(1, .lf (.box 0 0)), (3, .lf (.int .i64 x3)), (35, .lf (.int .i64 x35)), (36, .lf (.int .i64 x36))], ob := [(0, .box 32 false [.sl (.sl 2 (.int .i64)) b0_0])], nx := 1 }
noncomputable def impl_IsGroup.l2 (x3 : Int) (x6 : Int) (x35 : Int) (x36 : Int) (x68 : Int) (x69 : Int) (b0_0 : List (List Int)) : Option Bool := denAt impl_IsGroup.E impl_IsGroup.fn impl_IsGroup.enc [1, 1, 1, 1, 0, 1, 0, 0, 1, 1, 0, 0, 1, 1, 1, 0] { fr := [(1, .lf (.box 0 0)), (3, .lf (.int .i64 x3)), (6, .lf (.int .i64 x6)), (35, .lf (.int .i64 x35)), (36, .lf (.int .i64 x36)), (68, .lf (.int .i64 x68)), (69, .lf (.int .i64 x69))], ob := [(0, .box 32 false [.sl (.sl 2 (.int .i64)) b0_0])], nx := 1 }
noncomputable def impl_IsGroup.l3 (x3 : Int) (x6 : Int) (x7 : Int) (x35 : Int) (x36 : Int) (x68 : Int) (x69 : Int) (x72 : Int) (x73 : Int) (b0_0 : List (List Int)) : Option Bool := denAt impl_IsGroup.E impl_IsGroup.fn impl_IsGroup.enc [1, 1, 1, 1, 0, 1, 0, 0, 1, 1, 0, 0, 1, 1, 1, 0, 0, 1, 1, 0, 0, 1, 1, 0] { fr := [(1, .lf (.box 0 0)), (3, .lf (.int .i64 x3)), (6, .lf (.int .i64 x6)), (7, .lf (.int .i64 x7)), (35, .lf (.int .i64 x35)), (36, .lf (.int .i64 x36)), (68, .lf (.int .i64 x68)), (69, .lf (.int .i64 x69)), (72, .lf (.int .i64 x72)), (73, .lf (.int .i64 x73))], ob := [(0, .box 32 false [.sl (.sl 2 (.int .i64)) b0_0])], nx := 1 }
set_option maxRecDepth 100000 in
theorem impl_IsGroup.f_eq (l0_0 : List (List Int)) : impl_IsGroup.f l0_0 = (impl_order.f l0_0).bind fun t10 => if t10 < 1 then (some false) else (if t10 > 8 then (some false) else (impl_IsGroup.l0 t10 l0_0 (l0_0.length : Int) 0 l0_0)) := by kernel_rfl
set_option maxRecDepth 100000 in
theorem impl_IsGroup.l0_eq (x3 : Int) (x18 : List (List Int)) (x19 : Int) (x20 : Int) (b0_0 : List (List Int)) : impl_IsGroup.l0 x3 x18 x19 x20 b0_0 = if x20 < x19 then (if 0 ≤ x20 then (if x20 < (x18.length : Int) then (if ((row x18 x20).length : Int) = x3 then ((impl_areIn.f x3 (row x18 x20)).bind fun t31 => if t31 = true then (impl_IsGroup.l0 x3 x18 x19 (wrapI (x20 + 1)) b0_0) else (some false)) else (some false)) else none) else none) else (impl_IsGroup.l1 x3 x3 0 b0_0) := (loop_unfold _ _ _ _).trans (by kernel_rfl)
set_option maxRecDepth 100000 in
theorem impl_IsGroup.l1_eq (x3 : Int) (x35 : Int) (x36 : Int) (b0_0 : List (List Int)) : impl_IsGroup.l1 x3 x35 x36 b0_0 = if x36 < x35 then (if 0 < (b0_0.length : Int) then (if 0 ≤ x36 then (if x36 < ((row b0_0 0).length : Int) then (if (T b0_0 0 x36) = x36 then (if 0 ≤ x36 then (if x36 < (b0_0.length : Int) then (if 0 < ((row b0_0 x36).length : Int) then (if (T b0_0 x36 0) = x36 then (if 0 ≤ x36 then (if x36 < (b0_0.length : Int) then ((slices_Contains_int64.f (row b0_0 x36) 0).bind fun t65 => if t65 = true then (impl_IsGroup.l2 x3 x36 x35 x36 x3 0 b0_0) else (some false)) else none) else none) else (some false)) else none) else none) else none) else (some false)) else none) else none) else none) else (some true) := (loop_unfold _ _ _ _).trans (by kernel_rfl)
set_option maxRecDepth 100000 in
theorem impl_IsGroup.l2_eq (x3 : Int) (x6 : Int) (x35 : Int) (x36 : Int) (x68 : Int) (x69 : Int) (b0_0 : List (List Int)) : impl_IsGroup.l2 x3 x6 x35 x36 x68 x69 b0_0 = if x69 < x68 then (impl_IsGroup.l3 x3 x6 x69 x35 x36 x68 x69 x3 0 b0_0) else (impl_IsGroup.l1 x3 x35 (wrapI (x36 + 1)) b0_0) := (loop_unfold _ _ _ _).trans (by kernel_rfl)
set_option maxRecDepth 100000 in
theorem impl_IsGroup.l3_eq (x3 : Int) (x6 : Int) (x7 : Int) (x35 : Int) (x36 : Int) (x68 : Int) (x69 : Int) (x72 : Int) (x73 : Int) (b0_0 : List (List Int)) : impl_IsGroup.l3 x3 x6 x7 x35 x36 x68 x69 x72 x73 b0_0 = if x73 < x72 then (if 0 ≤ x6 then (if x6 < (b0_0.length : Int) then (if 0 ≤ x7 then (if x7 < ((row b0_0 x6).length : Int) then (if 0 ≤ T b0_0 x6 x7 then (if T b0_0 x6 x7 < (b0_0.length : Int) then (if 0 ≤ x73 then (if x73 < ((row b0_0 (T b0_0 x6 x7)).length : Int) then (if 0 ≤ x6 then (if x6 < (b0_0.length : Int) then (if 0 ≤ x7 then (if x7 < (b0_0.length : Int) then (if 0 ≤ x73 then (if x73 < ((row b0_0 x7).length : Int) then (if 0 ≤ T b0_0 x7 x73 then (if T b0_0 x7 x73 < ((row b0_0 x6).length : Int) then (if (T b0_0 (T b0_0 x6 x7) x73) = (T b0_0 x6 (T b0_0 x7 x73)) then (impl_IsGroup.l3 x3 x6 x7 x35 x36 x68 x69 x72 (wrapI (x73 + 1)) b0_0) else (some false)) else none) else none) else none) else none) else none) else none) else none) else none) else none) else none) else none) else none) else none) else none) else none) else none) else (impl_IsGroup.l2 x3 x6 x35 x36 x68 (wrapI (x69 + 1)) b0_0) := (loop_unfold _ _ _ _).trans (by kernel_rfl)
noncomputable def impl_IsGroup.con : Con := ⟨impl_IsGroup.fn.ins, impl_IsGroup.fn.outs, Bool, fun x => impl_IsGroup.f x.1, fun r => ((r, ()), (()))⟩
theorem impl_IsGroup.valid : Valid Try.prog 106 impl_IsGroup.con := fn_valid (f := impl_IsGroup.fn) (E := impl_IsGroup.E) (enc := impl_IsGroup.enc) ⟨ttOk, (conCons impl_order.valid (conCons impl_areIn.valid (conCons slices_Contains_int64.valid conNil)))⟩ (Checked.mixed Try.checked) ⟨Try.func106, by kernel_rfl, by kernel_rfl, by kernel_rfl, by kernel_rfl, by decide, by kernel_rfl, by kernel_rfl⟩ (fun _ => rfl)
end Go.Proofs.Ytpppnoliogdkiaa.P
set_option linter.unusedVariables false
namespace Go.Proofs.Ytpppnoliogdkiaa.P
open Go Go.RowKit Go.Proofs.Ytpppnoliogdkiaa.D
noncomputable def impl_isModulus.E : Env := { tt := TT, con := [], frz := [], rows := [], live := [], n := 9, pin := 0, nils := [] }
noncomputable def impl_isModulus.fn : D.Fn := { body := Try.f107.body.getD .skip, res := Try.f107.results.toList, ins := [.one (.v (.int .i64))], outs := [.one (.v .bool)] }
def impl_isModulus.enc (y : lsd (flats impl_isModulus.fn.outs) × lsd (ios impl_isModulus.fn.ins)) : Bool := y.1.1
noncomputable def impl_isModulus.f (a0 : Int) : Option Bool := denF impl_isModulus.E impl_isModulus.fn impl_isModulus.enc (a0, ())
set_option maxRecDepth 100000 in
theorem impl_isModulus.f_eq (a0 : Int) : impl_isModulus.f a0 = if a0 ≥ 2 then (some (decide (a0 ≤ 12))) else (some false) := by kernel_rfl
noncomputable def impl_isModulus.con : Con := ⟨impl_isModulus.fn.ins, impl_isModulus.fn.outs, Bool, fun x => impl_isModulus.f x.1, fun r => ((r, ()), (()))⟩
theorem impl_isModulus.valid : Valid Try.prog 107 impl_isModulus.con := fn_valid (f := impl_isModulus.fn) (E := impl_isModulus.E) (enc := impl_isModulus.enc) ⟨ttOk, conNil⟩ (Checked.mixed Try.checked) ⟨Try.func107, by kernel_rfl, by kernel_rfl, by kernel_rfl, by kernel_rfl, by decide, by kernel_rfl, by kernel_rfl⟩ (fun _ => rfl)
end Go.Proofs.Ytpppnoliogdkiaa.P
set_option linter.unusedVariables false
namespace Go.Proofs.Ytpppnoliogdkiaa.P
open Go Go.RowKit Go.Proofs.Ytpppnoliogdkiaa.D
noncomputable def impl_gcd.E : Env := { tt := TT, con := [], frz := [], rows := [], live := [(1, [0, 1])], n := 12, pin := 0, nils := [] }
noncomputable def impl_gcd.fn : D.Fn := { body := Try.f184.body.getD .skip, res := Try.f184.results.toList, ins := [.one (.v (.int .i64)), .one (.v (.int .i64))], outs := [.one (.v (.int .i64))] }
def impl_gcd.enc (y : lsd (flats impl_gcd.fn.outs) × lsd (ios impl_gcd.fn.ins)) : Int := y.1.1
noncomputable def impl_gcd.f (a0 : Int) (a1 : Int) : Option Int := denF impl_gcd.E impl_gcd.fn impl_gcd.enc (a0, a1, ())
noncomputable def impl_gcd.l0 (x0 : Int) (x1 : Int) : Option Int := denAt impl_gcd.E impl_gcd.fn impl_gcd.enc [1, 0, 0] { fr := [(0, .lf (.int .i64 x0)), (1, .lf (.int .i64 x1))], ob := [], nx := 0 }
set_option maxRecDepth 100000 in
theorem impl_gcd.f_eq (a0 : Int) (a1 : Int) : impl_gcd.f a0 a1 = impl_gcd.l0 a0 a1 := by kernel_rfl
set_option maxRecDepth 100000 in
theorem impl_gcd.l0_eq (x0 : Int) (x1 : Int) : impl_gcd.l0 x0 x1 = if x1 = 0 then (some x0) else (if x1 = 0 then none else (impl_gcd.l0 x1 ((x0 : Int).tmod x1))) := (loop_unfold _ _ _ _).trans (by kernel_rfl)
noncomputable def impl_gcd.con : Con := ⟨impl_gcd.fn.ins, impl_gcd.fn.outs, Int, fun x => impl_gcd.f x.1 x.2.1, fun r => ((r, ()), (()))⟩
theorem impl_gcd.valid : Valid Try.prog 184 impl_gcd.con := fn_valid (f := impl_gcd.fn) (E := impl_gcd.E) (enc := impl_gcd.enc) ⟨ttOk, conNil⟩ (Checked.mixed Try.checked) ⟨Try.func184, by kernel_rfl, by kernel_rfl, by kernel_rfl, by kernel_rfl, by decide, by kernel_rfl, by kernel_rfl⟩ (fun _ => rfl)
end Go.Proofs.Ytpppnoliogdkiaa.P
set_option linter.unusedVariables false
namespace Go.Proofs.Ytpppnoliogdkiaa.P
open Go Go.RowKit Go.Proofs.Ytpppnoliogdkiaa.D
noncomputable def impl_isUnit.E : Env := { tt := TT, con := [(184, impl_gcd.con)], frz := [], rows := [], live := [], n := 18, pin := 0, nils := [] }
noncomputable def impl_isUnit.fn : D.Fn := { body := Try.f152.body.getD .skip, res := Try.f152.results.toList, ins := [.one (.v (.int .i64)), .one (.v (.int .i64))], outs := [.one (.v .bool)] }
def impl_isUnit.enc (y : lsd (flats impl_isUnit.fn.outs) × lsd (ios impl_isUnit.fn.ins)) : Bool := y.1.1
noncomputable def impl_isUnit.f (a0 : Int) (a1 : Int) : Option Bool := denF impl_isUnit.E impl_isUnit.fn impl_isUnit.enc (a0, a1, ())
set_option maxRecDepth 100000 in
theorem impl_isUnit.f_eq (a0 : Int) (a1 : Int) : impl_isUnit.f a0 a1 = if a1 ≥ 1 then (if a1 < a0 then ((impl_gcd.f a0 a1).bind fun t15 => some (decide (t15 = 1))) else (some false)) else (some false) := by kernel_rfl
noncomputable def impl_isUnit.con : Con := ⟨impl_isUnit.fn.ins, impl_isUnit.fn.outs, Bool, fun x => impl_isUnit.f x.1 x.2.1, fun r => ((r, ()), (()))⟩
theorem impl_isUnit.valid : Valid Try.prog 152 impl_isUnit.con := fn_valid (f := impl_isUnit.fn) (E := impl_isUnit.E) (enc := impl_isUnit.enc) ⟨ttOk, (conCons impl_gcd.valid conNil)⟩ (Checked.mixed Try.checked) ⟨Try.func152, by kernel_rfl, by kernel_rfl, by kernel_rfl, by kernel_rfl, by decide, by kernel_rfl, by kernel_rfl⟩ (fun _ => rfl)
end Go.Proofs.Ytpppnoliogdkiaa.P
set_option linter.unusedVariables false
namespace Go.Proofs.Ytpppnoliogdkiaa.P
open Go Go.RowKit Go.Proofs.Ytpppnoliogdkiaa.D
noncomputable def impl_Group_times.E : Env := { tt := TT, con := [], frz := [], rows := [], live := [(3, [2, 5, 8, 9, 10])], n := 24, pin := 0, nils := [] }
noncomputable def impl_Group_times.fn : D.Fn := { body := Try.f153.body.getD .skip, res := Try.f153.results.toList, ins := [.agg [.v (.sl 25 (.sl 2 (.int .i64)))], .one (.v (.sl 2 (.int .i64)))], outs := [.one (.v (.int .i64))] }
def impl_Group_times.enc (y : lsd (flats impl_Group_times.fn.outs) × lsd (ios impl_Group_times.fn.ins)) : Int := y.1.1
noncomputable def impl_Group_times.f (l0_0 : List (List Int)) (l1 : List Int) : Option Int := denF impl_Group_times.E impl_Group_times.fn impl_Group_times.enc (l0_0, l1, ())
noncomputable def impl_Group_times.l0 (x5 : Int) (x8 : List Int) (x9 : Int) (x10 : Int) (b0_0 : List (List Int)) : Option Int := denAt impl_Group_times.E impl_Group_times.fn impl_Group_times.enc [1, 1, 0, 1, 0] { fr := [(2, .lf (.box 0 0)), (5, .lf (.int .i64 x5)), (8, .lf (.sl (.int .i64) x8)), (9, .lf (.int .i64 x9)), (10, .lf (.int .i64 x10))], ob := [(0, .box 32 false [.sl (.sl 2 (.int .i64)) b0_0])], nx := 1 }
set_option maxRecDepth 100000 in
theorem impl_Group_times.f_eq (l0_0 : List (List Int)) (l1 : List Int) : impl_Group_times.f l0_0 l1 = impl_Group_times.l0 0 l1 (l1.length : Int) 0 l0_0 := by kernel_rfl
set_option maxRecDepth 100000 in
theorem impl_Group_times.l0_eq (x5 : Int) (x8 : List Int) (x9 : Int) (x10 : Int) (b0_0 : List (List Int)) : impl_Group_times.l0 x5 x8 x9 x10 b0_0 = if x10 < x9 then (if 0 ≤ x10 then (if x10 < (x8.length : Int) then (if 0 ≤ x5 then (if x5 < (b0_0.length : Int) then (if 0 ≤ rd x8 x10 then (if rd x8 x10 < ((row b0_0 x5).length : Int) then (impl_Group_times.l0 (T b0_0 x5 (rd x8 x10)) x8 x9 (wrapI (x10 + 1)) b0_0) else none) else none) else none) else none) else none) else none) else (some x5) := (loop_unfold _ _ _ _).trans (by kernel_rfl)
noncomputable def impl_Group_times.con : Con := ⟨impl_Group_times.fn.ins, impl_Group_times.fn.outs, Int, fun x => impl_Group_times.f x.1 x.2.1, fun r => ((r, ()), (()))⟩
theorem impl_Group_times.valid : Valid Try.prog 153 impl_Group_times.con := fn_valid (f := impl_Group_times.fn) (E := impl_Group_times.E) (enc := impl_Group_times.enc) ⟨ttOk, conNil⟩ (Checked.mixed Try.checked) ⟨Try.func153, by kernel_rfl, by kernel_rfl, by kernel_rfl, by kernel_rfl, by decide, by kernel_rfl, by kernel_rfl⟩ (fun _ => rfl)
end Go.Proofs.Ytpppnoliogdkiaa.P
set_option linter.unusedVariables false
namespace Go.Proofs.Ytpppnoliogdkiaa.P
open Go Go.RowKit Go.Proofs.Ytpppnoliogdkiaa.D
noncomputable def impl_isModule.E : Env := { tt := TT, con := [(107, impl_isModulus.con), (134, impl_order.con), (152, impl_isUnit.con), (153, impl_Group_times.con)], frz := [], rows := [], live := [(4, [2, 3, 29, 30, 31]), (10, [2, 3, 42, 43]), (13, [2, 3, 7, 42, 43, 47, 48])], n := 77, pin := 0, nils := [] }
noncomputable def impl_isModule.fn : D.Fn := { body := Try.f151.body.getD .skip, res := Try.f151.results.toList, ins := [.agg [.v (.sl 25 (.sl 2 (.int .i64)))], .agg [.v (.int .i64), .v (.sl 2 (.int .i64))]], outs := [.one (.v .bool)] }
def impl_isModule.enc (y : lsd (flats impl_isModule.fn.outs) × lsd (ios impl_isModule.fn.ins)) : Bool := y.1.1
noncomputable def impl_isModule.f (l0_0 : List (List Int)) (a1_0 : Int) (l1_1 : List Int) : Option Bool := denF impl_isModule.E impl_isModule.fn impl_isModule.enc (l0_0, a1_0, l1_1, ())
noncomputable def impl_isModule.l0 (x29 : List Int) (x30 : Int) (x31 : Int) (b0_0 : List (List Int)) (b1_0 : Int) (b1_1 : List Int) : Option Bool := denAt impl_isModule.E impl_isModule.fn impl_isModule.enc [1, 1, 0, 1, 0] { fr := [(2, .lf (.box 0 0)), (3, .lf (.box 1 0)), (29, .lf (.sl (.int .i64) x29)), (30, .lf (.int .i64 x30)), (31, .lf (.int .i64 x31))], ob := [(0, .box 32 false [.sl (.sl 2 (.int .i64)) b0_0]), (1, .box 34 false [.int .i64 b1_0, .sl (.int .i64) b1_1])], nx := 2 }
noncomputable def impl_isModule.l1 (x42 : Int) (x43 : Int) (b0_0 : List (List Int)) (b1_0 : Int) (b1_1 : List Int) : Option Bool := denAt impl_isModule.E impl_isModule.fn impl_isModule.enc [1, 1, 1, 0, 1, 0] { fr := [(2, .lf (.box 0 0)), (3, .lf (.box 1 0)), (42, .lf (.int .i64 x42)), (43, .lf (.int .i64 x43))], ob := [(0, .box 32 false [.sl (.sl 2 (.int .i64)) b0_0]), (1, .box 34 false [.int .i64 b1_0, .sl (.int .i64) b1_1])], nx := 2 }
noncomputable def impl_isModule.l2 (x7 : Int) (x42 : Int) (x43 : Int) (x47 : Int) (x48 : Int) (b0_0 : List (List Int)) (b1_0 : Int) (b1_1 : List Int) : Option Bool := denAt impl_isModule.E impl_isModule.fn impl_isModule.enc [1, 1, 1, 0, 1, 0, 0, 1, 1, 0, 0, 1, 1, 0] { fr := [(2, .lf (.box 0 0)), (3, .lf (.box 1 0)), (7, .lf (.int .i64 x7)), (42, .lf (.int .i64 x42)), (43, .lf (.int .i64 x43)), (47, .lf (.int .i64 x47)), (48, .lf (.int .i64 x48))], ob := [(0, .box 32 false [.sl (.sl 2 (.int .i64)) b0_0]), (1, .box 34 false [.int .i64 b1_0, .sl (.int .i64) b1_1])], nx := 2 }
set_option maxRecDepth 100000 in
theorem impl_isModule.f_eq (l0_0 : List (List Int)) (a1_0 : Int) (l1_1 : List Int) : impl_isModule.f l0_0 a1_0 l1_1 = (impl_isModulus.f a1_0).bind fun t11 => if t11 = true then ((impl_order.f l0_0).bind fun t18 => if (l1_1.length : Int) = t18 then (if 0 < (l1_1.length : Int) then (if (rd l1_1 0) = 1 then (impl_isModule.l0 l1_1 (l1_1.length : Int) 0 l0_0 a1_0 l1_1) else (some false)) else none) else (some false)) else (some false) := by kernel_rfl
set_option maxRecDepth 100000 in
theorem impl_isModule.l0_eq (x29 : List Int) (x30 : Int) (x31 : Int) (b0_0 : List (List Int)) (b1_0 : Int) (b1_1 : List Int) : impl_isModule.l0 x29 x30 x31 b0_0 b1_0 b1_1 = if x31 < x30 then (if 0 ≤ x31 then (if x31 < (x29.length : Int) then ((impl_isUnit.f b1_0 (rd x29 x31)).bind fun t38 => if t38 = true then (impl_isModule.l0 x29 x30 (wrapI (x31 + 1)) b0_0 b1_0 b1_1) else (some false)) else none) else none) else ((impl_order.f b0_0).bind fun t42 => impl_isModule.l1 t42 0 b0_0 b1_0 b1_1) := (loop_unfold _ _ _ _).trans (by kernel_rfl)
set_option maxRecDepth 100000 in
theorem impl_isModule.l1_eq (x42 : Int) (x43 : Int) (b0_0 : List (List Int)) (b1_0 : Int) (b1_1 : List Int) : impl_isModule.l1 x42 x43 b0_0 b1_0 b1_1 = if x43 < x42 then ((impl_order.f b0_0).bind fun t47 => impl_isModule.l2 x43 x42 x43 t47 0 b0_0 b1_0 b1_1) else (some true) := (loop_unfold _ _ _ _).trans (by kernel_rfl)
set_option maxRecDepth 100000 in
theorem impl_isModule.l2_eq (x7 : Int) (x42 : Int) (x43 : Int) (x47 : Int) (x48 : Int) (b0_0 : List (List Int)) (b1_0 : Int) (b1_1 : List Int) : impl_isModule.l2 x7 x42 x43 x47 x48 b0_0 b1_0 b1_1 = if x48 < x47 then ((impl_Group_times.f b0_0 ([x7, x48] : List Int)).bind fun t57 => if 0 ≤ t57 then (if t57 < (b1_1.length : Int) then (if 0 ≤ x7 then (if x7 < (b1_1.length : Int) then (if 0 ≤ x48 then (if x48 < (b1_1.length : Int) then (if b1_0 = 0 then none else (if (rd b1_1 t57) = ((wrapI ((rd b1_1 x7) * (rd b1_1 x48)) : Int).tmod b1_0) then (impl_isModule.l2 x7 x42 x43 x47 (wrapI (x48 + 1)) b0_0 b1_0 b1_1) else (some false))) else none) else none) else none) else none) else none) else none) else (impl_isModule.l1 x42 (wrapI (x43 + 1)) b0_0 b1_0 b1_1) := (loop_unfold _ _ _ _).trans (by kernel_rfl)
noncomputable def impl_isModule.con : Con := ⟨impl_isModule.fn.ins, impl_isModule.fn.outs, Bool, fun x => impl_isModule.f x.1 x.2.1 x.2.2.1, fun r => ((r, ()), (()))⟩
theorem impl_isModule.valid : Valid Try.prog 151 impl_isModule.con := fn_valid (f := impl_isModule.fn) (E := impl_isModule.E) (enc := impl_isModule.enc) ⟨ttOk, (conCons impl_isModulus.valid (conCons impl_order.valid (conCons impl_isUnit.valid (conCons impl_Group_times.valid conNil))))⟩ (Checked.mixed Try.checked) ⟨Try.func151, by kernel_rfl, by kernel_rfl, by kernel_rfl, by kernel_rfl, by decide, by kernel_rfl, by kernel_rfl⟩ (fun _ => rfl)
end Go.Proofs.Ytpppnoliogdkiaa.P
set_option linter.unusedVariables false
namespace Go.Proofs.Ytpppnoliogdkiaa.P
open Go Go.RowKit Go.Proofs.Ytpppnoliogdkiaa.D
noncomputable def impl_areModules.E : Env := { tt := TT, con := [(106, impl_IsGroup.con), (151, impl_isModule.con)], frz := [], rows := [], live := [(2, [2, 7, 8, 9])], n := 23, pin := 0, nils := [] }
noncomputable def impl_areModules.fn : D.Fn := { body := Try.f154.body.getD .skip, res := Try.f154.results.toList, ins := [.agg [.v (.sl 25 (.sl 2 (.int .i64)))], .one (.v (.sl 34 (.pr (.int .i64) (.sl 2 (.int .i64)))))], outs := [.one (.v .bool)] }
def impl_areModules.enc (y : lsd (flats impl_areModules.fn.outs) × lsd (ios impl_areModules.fn.ins)) : Bool := y.1.1
noncomputable def impl_areModules.f (l0_0 : List (List Int)) (l1 : List (Int × (List Int))) : Option Bool := denF impl_areModules.E impl_areModules.fn impl_areModules.enc (l0_0, l1, ())
noncomputable def impl_areModules.l0 (x7 : List (Int × (List Int))) (x8 : Int) (x9 : Int) (b0_0 : List (List Int)) : Option Bool := denAt impl_areModules.E impl_areModules.fn impl_areModules.enc [1, 0, 1, 0] { fr := [(2, .lf (.box 0 0)), (7, .lf (.sl (.pr (.int .i64) (.sl 2 (.int .i64))) x7)), (8, .lf (.int .i64 x8)), (9, .lf (.int .i64 x9))], ob := [(0, .box 32 false [.sl (.sl 2 (.int .i64)) b0_0])], nx := 1 }
set_option maxRecDepth 100000 in
theorem impl_areModules.f_eq (l0_0 : List (List Int)) (l1 : List (Int × (List Int))) : impl_areModules.f l0_0 l1 = impl_areModules.l0 l1 (l1.length : Int) 0 l0_0 := by kernel_rfl
set_option maxRecDepth 100000 in
theorem impl_areModules.l0_eq (x7 : List (Int × (List Int))) (x8 : Int) (x9 : Int) (b0_0 : List (List Int)) : impl_areModules.l0 x7 x8 x9 b0_0 = if x9 < x8 then (if 0 ≤ x9 then (if x9 < (x7.length : Int) then ((impl_IsGroup.f b0_0).bind fun t14 => if t14 = true then ((impl_isModule.f b0_0 ((Ty.rd (.pr (.int .i64) (.sl 2 (.int .i64))) x7 x9).1) ((Ty.rd (.pr (.int .i64) (.sl 2 (.int .i64))) x7 x9).2)).bind fun t19 => if t19 = true then (impl_areModules.l0 x7 x8 (wrapI (x9 + 1)) b0_0) else (some false)) else (some false)) else none) else none) else (some true) := (loop_unfold _ _ _ _).trans (by kernel_rfl)
noncomputable def impl_areModules.con : Con := ⟨impl_areModules.fn.ins, impl_areModules.fn.outs, Bool, fun x => impl_areModules.f x.1 x.2.1, fun r => ((r, ()), (()))⟩
theorem impl_areModules.valid : Valid Try.prog 154 impl_areModules.con := fn_valid (f := impl_areModules.fn) (E := impl_areModules.E) (enc := impl_areModules.enc) ⟨ttOk, (conCons impl_IsGroup.valid (conCons impl_isModule.valid conNil))⟩ (Checked.mixed Try.checked) ⟨Try.func154, by kernel_rfl, by kernel_rfl, by kernel_rfl, by kernel_rfl, by decide, by kernel_rfl, by kernel_rfl⟩ (fun _ => rfl)
end Go.Proofs.Ytpppnoliogdkiaa.P
set_option linter.unusedVariables false
namespace Go.Proofs.Ytpppnoliogdkiaa.P
open Go Go.RowKit Go.Proofs.Ytpppnoliogdkiaa.D
noncomputable def impl_moduleCode.E : Env := { tt := TT, con := [(154, impl_areModules.con)], frz := [], rows := [], live := [], n := 9, pin := 0, nils := [] }
noncomputable def impl_moduleCode.fn : D.Fn := { body := Try.f119.body.getD .skip, res := Try.f119.results.toList, ins := [.agg [.v (.sl 25 (.sl 2 (.int .i64)))], .one (.v (.sl 34 (.pr (.int .i64) (.sl 2 (.int .i64)))))], outs := [.one (.v (.int .i64))] }
def impl_moduleCode.enc (y : lsd (flats impl_moduleCode.fn.outs) × lsd (ios impl_moduleCode.fn.ins)) : Int := y.1.1
noncomputable def impl_moduleCode.f (l0_0 : List (List Int)) (l1 : List (Int × (List Int))) : Option Int := denF impl_moduleCode.E impl_moduleCode.fn impl_moduleCode.enc (l0_0, l1, ())
set_option maxRecDepth 100000 in
theorem impl_moduleCode.f_eq (l0_0 : List (List Int)) (l1 : List (Int × (List Int))) : impl_moduleCode.f l0_0 l1 = (impl_areModules.f l0_0 l1).bind fun t7 => if t7 = true then (some 0) else (some 1) := by kernel_rfl
noncomputable def impl_moduleCode.con : Con := ⟨impl_moduleCode.fn.ins, impl_moduleCode.fn.outs, Int, fun x => impl_moduleCode.f x.1 x.2.1, fun r => ((r, ()), (()))⟩
theorem impl_moduleCode.valid : Valid Try.prog 119 impl_moduleCode.con := fn_valid (f := impl_moduleCode.fn) (E := impl_moduleCode.E) (enc := impl_moduleCode.enc) ⟨ttOk, (conCons impl_areModules.valid conNil)⟩ (Checked.mixed Try.checked) ⟨Try.func119, by kernel_rfl, by kernel_rfl, by kernel_rfl, by kernel_rfl, by decide, by kernel_rfl, by kernel_rfl⟩ (fun _ => rfl)
end Go.Proofs.Ytpppnoliogdkiaa.P
set_option linter.unusedVariables false
namespace Go.Proofs.Ytpppnoliogdkiaa.P
open Go Go.RowKit Go.Proofs.Ytpppnoliogdkiaa.D
noncomputable def impl_isNumbers.E : Env := { tt := TT, con := [(134, impl_order.con), (148, impl_areIn.con)], frz := [], rows := [], live := [], n := 18, pin := 0, nils := [] }
noncomputable def impl_isNumbers.fn : D.Fn := { body := Try.f193.body.getD .skip, res := Try.f193.results.toList, ins := [.agg [.v (.sl 25 (.sl 2 (.int .i64)))], .agg [.v (.int .i64), .v (.sl 2 (.int .i64))], .one (.v (.sl 2 (.int .i64)))], outs := [.one (.v .bool)] }
def impl_isNumbers.enc (y : lsd (flats impl_isNumbers.fn.outs) × lsd (ios impl_isNumbers.fn.ins)) : Bool := y.1.1
noncomputable def impl_isNumbers.f (l0_0 : List (List Int)) (a1_0 : Int) (l1_1 : List Int) (l2 : List Int) : Option Bool := denF impl_isNumbers.E impl_isNumbers.fn impl_isNumbers.enc (l0_0, a1_0, l1_1, l2, ())
set_option maxRecDepth 100000 in
theorem impl_isNumbers.f_eq (l0_0 : List (List Int)) (a1_0 : Int) (l1_1 : List Int) (l2 : List Int) : impl_isNumbers.f l0_0 a1_0 l1_1 l2 = (impl_order.f l0_0).bind fun t10 => if (l2.length : Int) = t10 then ((impl_areIn.f a1_0 l2).bind fun t16 => some (decide (t16 = true))) else (some false) := by kernel_rfl
noncomputable def impl_isNumbers.con : Con := ⟨impl_isNumbers.fn.ins, impl_isNumbers.fn.outs, Bool, fun x => impl_isNumbers.f x.1 x.2.1 x.2.2.1 x.2.2.2.1, fun r => ((r, ()), (()))⟩
theorem impl_isNumbers.valid : Valid Try.prog 193 impl_isNumbers.con := fn_valid (f := impl_isNumbers.fn) (E := impl_isNumbers.E) (enc := impl_isNumbers.enc) ⟨ttOk, (conCons impl_order.valid (conCons impl_areIn.valid conNil))⟩ (Checked.mixed Try.checked) ⟨Try.func193, by kernel_rfl, by kernel_rfl, by kernel_rfl, by kernel_rfl, by decide, by kernel_rfl, by kernel_rfl⟩ (fun _ => rfl)
end Go.Proofs.Ytpppnoliogdkiaa.P
set_option linter.unusedVariables false
namespace Go.Proofs.Ytpppnoliogdkiaa.P
open Go Go.RowKit Go.Proofs.Ytpppnoliogdkiaa.D
noncomputable def impl_numbersCode.E : Env := { tt := TT, con := [(119, impl_moduleCode.con), (193, impl_isNumbers.con)], frz := [], rows := [10], live := [], n := 20, pin := 0, nils := [] }
noncomputable def impl_numbersCode.fn : D.Fn := { body := Try.f174.body.getD .skip, res := Try.f174.results.toList, ins := [.agg [.v (.sl 25 (.sl 2 (.int .i64)))], .agg [.v (.int .i64), .v (.sl 2 (.int .i64))], .one (.v (.sl 2 (.int .i64)))], outs := [.one (.v (.int .i64))] }
def impl_numbersCode.enc (y : lsd (flats impl_numbersCode.fn.outs) × lsd (ios impl_numbersCode.fn.ins)) : Int := y.1.1
noncomputable def impl_numbersCode.f (l0_0 : List (List Int)) (a1_0 : Int) (l1_1 : List Int) (l2 : List Int) : Option Int := denF impl_numbersCode.E impl_numbersCode.fn impl_numbersCode.enc (l0_0, a1_0, l1_1, l2, ())
set_option maxRecDepth 100000 in
theorem impl_numbersCode.f_eq (l0_0 : List (List Int)) (a1_0 : Int) (l1_1 : List Int) (l2 : List Int) : impl_numbersCode.f l0_0 a1_0 l1_1 l2 = (impl_moduleCode.f l0_0 ([(a1_0, l1_1)] : List (Int × (List Int)))).bind fun t11 => if t11 = 0 then ((impl_isNumbers.f l0_0 a1_0 l1_1 l2).bind fun t18 => if t18 = true then (some 0) else (some 2)) else (some t11) := by kernel_rfl
noncomputable def impl_numbersCode.con : Con := ⟨impl_numbersCode.fn.ins, impl_numbersCode.fn.outs, Int, fun x => impl_numbersCode.f x.1 x.2.1 x.2.2.1 x.2.2.2.1, fun r => ((r, ()), (()))⟩
theorem impl_numbersCode.valid : Valid Try.prog 174 impl_numbersCode.con := fn_valid (f := impl_numbersCode.fn) (E := impl_numbersCode.E) (enc := impl_numbersCode.enc) ⟨ttOk, (conCons impl_moduleCode.valid (conCons impl_isNumbers.valid conNil))⟩ (Checked.mixed Try.checked) ⟨Try.func174, by kernel_rfl, by kernel_rfl, by kernel_rfl, by kernel_rfl, by decide, by kernel_rfl, by kernel_rfl⟩ (fun _ => rfl)
end Go.Proofs.Ytpppnoliogdkiaa.P
set_option linter.unusedVariables false
namespace Go.Proofs.Ytpppnoliogdkiaa.P
open Go Go.RowKit Go.Proofs.Ytpppnoliogdkiaa.D
noncomputable def impl_isCrossed.E : Env := { tt := TT, con := [(134, impl_order.con), (153, impl_Group_times.con)], frz := [], rows := [], live := [(2, [2, 3, 4, 10, 11]), (5, [2, 3, 4, 7, 10, 11, 15, 16])], n := 49, pin := 0, nils := [] }
noncomputable def impl_isCrossed.fn : D.Fn := { body := Try.f175.body.getD .skip, res := Try.f175.results.toList, ins := [.agg [.v (.sl 25 (.sl 2 (.int .i64)))], .agg [.v (.int .i64), .v (.sl 2 (.int .i64))], .one (.v (.sl 2 (.int .i64)))], outs := [.one (.v .bool)] }
def impl_isCrossed.enc (y : lsd (flats impl_isCrossed.fn.outs) × lsd (ios impl_isCrossed.fn.ins)) : Bool := y.1.1
noncomputable def impl_isCrossed.f (l0_0 : List (List Int)) (a1_0 : Int) (l1_1 : List Int) (l2 : List Int) : Option Bool := denF impl_isCrossed.E impl_isCrossed.fn impl_isCrossed.enc (l0_0, a1_0, l1_1, l2, ())
noncomputable def impl_isCrossed.l0 (x2 : List Int) (x10 : Int) (x11 : Int) (b0_0 : List (List Int)) (b1_0 : Int) (b1_1 : List Int) : Option Bool := denAt impl_isCrossed.E impl_isCrossed.fn impl_isCrossed.enc [1, 0, 1, 0] { fr := [(2, .lf (.sl (.int .i64) x2)), (3, .lf (.box 0 0)), (4, .lf (.box 1 0)), (10, .lf (.int .i64 x10)), (11, .lf (.int .i64 x11))], ob := [(0, .box 32 false [.sl (.sl 2 (.int .i64)) b0_0]), (1, .box 34 false [.int .i64 b1_0, .sl (.int .i64) b1_1])], nx := 2 }
noncomputable def impl_isCrossed.l1 (x2 : List Int) (x7 : Int) (x10 : Int) (x11 : Int) (x15 : Int) (x16 : Int) (b0_0 : List (List Int)) (b1_0 : Int) (b1_1 : List Int) : Option Bool := denAt impl_isCrossed.E impl_isCrossed.fn impl_isCrossed.enc [1, 0, 1, 0, 0, 1, 1, 0, 0, 1, 1, 0] { fr := [(2, .lf (.sl (.int .i64) x2)), (3, .lf (.box 0 0)), (4, .lf (.box 1 0)), (7, .lf (.int .i64 x7)), (10, .lf (.int .i64 x10)), (11, .lf (.int .i64 x11)), (15, .lf (.int .i64 x15)), (16, .lf (.int .i64 x16))], ob := [(0, .box 32 false [.sl (.sl 2 (.int .i64)) b0_0]), (1, .box 34 false [.int .i64 b1_0, .sl (.int .i64) b1_1])], nx := 2 }
set_option maxRecDepth 100000 in
theorem impl_isCrossed.f_eq (l0_0 : List (List Int)) (a1_0 : Int) (l1_1 : List Int) (l2 : List Int) : impl_isCrossed.f l0_0 a1_0 l1_1 l2 = (impl_order.f l0_0).bind fun t10 => impl_isCrossed.l0 l2 t10 0 l0_0 a1_0 l1_1 := by kernel_rfl
set_option maxRecDepth 100000 in
theorem impl_isCrossed.l0_eq (x2 : List Int) (x10 : Int) (x11 : Int) (b0_0 : List (List Int)) (b1_0 : Int) (b1_1 : List Int) : impl_isCrossed.l0 x2 x10 x11 b0_0 b1_0 b1_1 = if x11 < x10 then ((impl_order.f b0_0).bind fun t15 => impl_isCrossed.l1 x2 x11 x10 x11 t15 0 b0_0 b1_0 b1_1) else (some true) := (loop_unfold _ _ _ _).trans (by kernel_rfl)
set_option maxRecDepth 100000 in
theorem impl_isCrossed.l1_eq (x2 : List Int) (x7 : Int) (x10 : Int) (x11 : Int) (x15 : Int) (x16 : Int) (b0_0 : List (List Int)) (b1_0 : Int) (b1_1 : List Int) : impl_isCrossed.l1 x2 x7 x10 x11 x15 x16 b0_0 b1_0 b1_1 = if x16 < x15 then (if 0 ≤ x7 then (if x7 < (x2.length : Int) then (if 0 ≤ x7 then (if x7 < (b1_1.length : Int) then (if 0 ≤ x16 then (if x16 < (x2.length : Int) then ((impl_Group_times.f b0_0 ([x7, x16] : List Int)).bind fun t39 => if 0 ≤ t39 then (if t39 < (x2.length : Int) then (if b1_0 = 0 then none else (if ((wrapI ((wrapI ((rd x2 x7) + (wrapI ((rd b1_1 x7) * (rd x2 x16))))) - (rd x2 t39)) : Int).tmod b1_0) = 0 then (impl_isCrossed.l1 x2 x7 x10 x11 x15 (wrapI (x16 + 1)) b0_0 b1_0 b1_1) else (some false))) else none) else none) else none) else none) else none) else none) else none) else none) else (impl_isCrossed.l0 x2 x10 (wrapI (x11 + 1)) b0_0 b1_0 b1_1) := (loop_unfold _ _ _ _).trans (by kernel_rfl)
noncomputable def impl_isCrossed.con : Con := ⟨impl_isCrossed.fn.ins, impl_isCrossed.fn.outs, Bool, fun x => impl_isCrossed.f x.1 x.2.1 x.2.2.1 x.2.2.2.1, fun r => ((r, ()), (()))⟩
theorem impl_isCrossed.valid : Valid Try.prog 175 impl_isCrossed.con := fn_valid (f := impl_isCrossed.fn) (E := impl_isCrossed.E) (enc := impl_isCrossed.enc) ⟨ttOk, (conCons impl_order.valid (conCons impl_Group_times.valid conNil))⟩ (Checked.mixed Try.checked) ⟨Try.func175, by kernel_rfl, by kernel_rfl, by kernel_rfl, by kernel_rfl, by decide, by kernel_rfl, by kernel_rfl⟩ (fun _ => rfl)
end Go.Proofs.Ytpppnoliogdkiaa.P
set_option linter.unusedVariables false
namespace Go.Proofs.Ytpppnoliogdkiaa.P
open Go Go.RowKit Go.Proofs.Ytpppnoliogdkiaa.D
noncomputable def impl_crossedCode.E : Env := { tt := TT, con := [(174, impl_numbersCode.con), (175, impl_isCrossed.con)], frz := [], rows := [], live := [], n := 20, pin := 0, nils := [] }
noncomputable def impl_crossedCode.fn : D.Fn := { body := Try.f123.body.getD .skip, res := Try.f123.results.toList, ins := [.agg [.v (.sl 25 (.sl 2 (.int .i64)))], .agg [.v (.int .i64), .v (.sl 2 (.int .i64))], .one (.v (.sl 2 (.int .i64)))], outs := [.one (.v (.int .i64))] }
def impl_crossedCode.enc (y : lsd (flats impl_crossedCode.fn.outs) × lsd (ios impl_crossedCode.fn.ins)) : Int := y.1.1
noncomputable def impl_crossedCode.f (l0_0 : List (List Int)) (a1_0 : Int) (l1_1 : List Int) (l2 : List Int) : Option Int := denF impl_crossedCode.E impl_crossedCode.fn impl_crossedCode.enc (l0_0, a1_0, l1_1, l2, ())
set_option maxRecDepth 100000 in
theorem impl_crossedCode.f_eq (l0_0 : List (List Int)) (a1_0 : Int) (l1_1 : List Int) (l2 : List Int) : impl_crossedCode.f l0_0 a1_0 l1_1 l2 = (impl_numbersCode.f l0_0 a1_0 l1_1 l2).bind fun t11 => if t11 = 0 then ((impl_isCrossed.f l0_0 a1_0 l1_1 l2).bind fun t18 => if t18 = true then (some 0) else (some 5)) else (some t11) := by kernel_rfl
noncomputable def impl_crossedCode.con : Con := ⟨impl_crossedCode.fn.ins, impl_crossedCode.fn.outs, Int, fun x => impl_crossedCode.f x.1 x.2.1 x.2.2.1 x.2.2.2.1, fun r => ((r, ()), (()))⟩
theorem impl_crossedCode.valid : Valid Try.prog 123 impl_crossedCode.con := fn_valid (f := impl_crossedCode.fn) (E := impl_crossedCode.E) (enc := impl_crossedCode.enc) ⟨ttOk, (conCons impl_numbersCode.valid (conCons impl_isCrossed.valid conNil))⟩ (Checked.mixed Try.checked) ⟨Try.func123, by kernel_rfl, by kernel_rfl, by kernel_rfl, by kernel_rfl, by decide, by kernel_rfl, by kernel_rfl⟩ (fun _ => rfl)
end Go.Proofs.Ytpppnoliogdkiaa.P
set_option linter.unusedVariables false
namespace Go.Proofs.Ytpppnoliogdkiaa.P
open Go Go.RowKit Go.Proofs.Ytpppnoliogdkiaa.D
noncomputable def impl_classOf.E : Env := { tt := TT, con := [(168, slices_Compare_int64.con)], frz := [], rows := [], live := [(3, [1, 3, 7, 13, 14, 15]), (7, [1, 3, 7, 9, 10, 13, 14, 15, 20, 21, 22])], n := 51, pin := 0, nils := [] }
noncomputable def impl_classOf.fn : D.Fn := { body := Try.f124.body.getD .skip, res := Try.f124.results.toList, ins := [.agg [.v (.int .i64), .v (.sl 2 (.int .i64))], .one (.v (.sl 2 (.int .i64))), .one (.v (.sl 25 (.sl 2 (.int .i64))))], outs := [.one (.own 2 true (.int .i64))] }
def impl_classOf.enc (y : lsd (flats impl_classOf.fn.outs) × lsd (ios impl_classOf.fn.ins)) : (List Int) := y.1.1
noncomputable def impl_classOf.f (a0_0 : Int) (l0_1 : List Int) (l1 : List Int) (l2 : List (List Int)) : Option (List Int) := denF impl_classOf.E impl_classOf.fn impl_classOf.enc (a0_0, l0_1, l1, l2, ())
noncomputable def impl_classOf.l0 (x1 : List Int) (x13 : List (List Int)) (x14 : Int) (x15 : Int) (b0_0 : Int) (b0_1 : List Int) : Option (List Int) := denAt impl_classOf.E impl_classOf.fn impl_classOf.enc [1, 1, 0, 1, 0] { fr := [(1, .lf (.sl (.int .i64) x1)), (3, .lf (.box 0 0)), (7, .lf (.nil)), (13, .lf (.sl (.sl 2 (.int .i64)) x13)), (14, .lf (.int .i64 x14)), (15, .lf (.int .i64 x15))], ob := [(0, .box 34 false [.int .i64 b0_0, .sl (.int .i64) b0_1])], nx := 1 }
noncomputable def impl_classOf.l1 (x1 : List Int) (x9 : List Int) (x13 : List (List Int)) (x14 : Int) (x15 : Int) (x20 : List Int) (x21 : Int) (x22 : Int) (b0_0 : Int) (b0_1 : List Int) (r1 : List Int) : Option (List Int) := denAt impl_classOf.E impl_classOf.fn impl_classOf.enc [1, 1, 0, 1, 0, 0, 1, 1, 0, 0, 1, 1, 0, 1, 0] { fr := [(1, .lf (.sl (.int .i64) x1)), (3, .lf (.box 0 0)), (7, .lf (.nil)), (9, .lf (.sl (.int .i64) x9)), (10, .lf (.own 1)), (13, .lf (.sl (.sl 2 (.int .i64)) x13)), (14, .lf (.int .i64 x14)), (15, .lf (.int .i64 x15)), (20, .lf (.sl (.int .i64) x20)), (21, .lf (.int .i64 x21)), (22, .lf (.int .i64 x22))], ob := [(0, .box 34 false [.int .i64 b0_0, .sl (.int .i64) b0_1]), (1, .row 2 true (.int .i64) r1)], nx := 2 }
noncomputable def impl_classOf.l2 (x1 : List Int) (x13 : List (List Int)) (x14 : Int) (x15 : Int) (b0_0 : Int) (b0_1 : List Int) (r1 : List Int) : Option (List Int) := denAt impl_classOf.E impl_classOf.fn impl_classOf.enc [1, 1, 0, 1, 0] { fr := [(1, .lf (.sl (.int .i64) x1)), (3, .lf (.box 0 0)), (7, .lf (.own 1)), (13, .lf (.sl (.sl 2 (.int .i64)) x13)), (14, .lf (.int .i64 x14)), (15, .lf (.int .i64 x15))], ob := [(0, .box 34 false [.int .i64 b0_0, .sl (.int .i64) b0_1]), (1, .row 2 true (.int .i64) r1)], nx := 2 }
noncomputable def impl_classOf.l3 (x1 : List Int) (x9 : List Int) (x13 : List (List Int)) (x14 : Int) (x15 : Int) (x20 : List Int) (x21 : Int) (x22 : Int) (b0_0 : Int) (b0_1 : List Int) (r1 : List Int) (r2 : List Int) : Option (List Int) := denAt impl_classOf.E impl_classOf.fn impl_classOf.enc [1, 1, 0, 1, 0, 0, 1, 1, 0, 0, 1, 1, 0, 1, 0] { fr := [(1, .lf (.sl (.int .i64) x1)), (3, .lf (.box 0 0)), (7, .lf (.own 1)), (9, .lf (.sl (.int .i64) x9)), (10, .lf (.own 2)), (13, .lf (.sl (.sl 2 (.int .i64)) x13)), (14, .lf (.int .i64 x14)), (15, .lf (.int .i64 x15)), (20, .lf (.sl (.int .i64) x20)), (21, .lf (.int .i64 x21)), (22, .lf (.int .i64 x22))], ob := [(0, .box 34 false [.int .i64 b0_0, .sl (.int .i64) b0_1]), (1, .row 2 true (.int .i64) r1), (2, .row 2 true (.int .i64) r2)], nx := 3 }
set_option maxRecDepth 100000 in
theorem impl_classOf.f_eq (a0_0 : Int) (l0_1 : List Int) (l1 : List Int) (l2 : List (List Int)) : impl_classOf.f a0_0 l0_1 l1 l2 = impl_classOf.l0 l1 l2 (l2.length : Int) 0 a0_0 l0_1 := by kernel_rfl
set_option maxRecDepth 100000 in
theorem impl_classOf.l0_eq (x1 : List Int) (x13 : List (List Int)) (x14 : Int) (x15 : Int) (b0_0 : Int) (b0_1 : List Int) : impl_classOf.l0 x1 x13 x14 x15 b0_0 b0_1 = if x15 < x14 then (if 0 ≤ x15 then (if x15 < (x13.length : Int) then (impl_classOf.l1 x1 (row x13 x15) x13 x14 x15 x1 (x1.length : Int) 0 b0_0 b0_1 ([] : List Int)) else none) else none) else (some ([] : List Int)) := (loop_unfold _ _ _ _).trans (by kernel_rfl)
set_option maxRecDepth 100000 in
theorem impl_classOf.l1_eq (x1 : List Int) (x9 : List Int) (x13 : List (List Int)) (x14 : Int) (x15 : Int) (x20 : List Int) (x21 : Int) (x22 : Int) (b0_0 : Int) (b0_1 : List Int) (r1 : List Int) : impl_classOf.l1 x1 x9 x13 x14 x15 x20 x21 x22 b0_0 b0_1 r1 = if x22 < x21 then (if 0 ≤ x22 then (if x22 < (x20.length : Int) then (if 0 ≤ x22 then (if x22 < (x9.length : Int) then (if b0_0 = 0 then none else (if r1.length + ([(wrapI ((rd x20 x22) + (rd x9 x22)) : Int).tmod b0_0] : List Int).length ≤ 17592186044416 then (impl_classOf.l1 x1 x9 x13 x14 x15 x20 x21 (wrapI (x22 + 1)) b0_0 b0_1 (r1 ++ ([(wrapI ((rd x20 x22) + (rd x9 x22)) : Int).tmod b0_0] : List Int))) else none)) else none) else none) else none) else none) else (impl_classOf.l2 x1 x13 x14 (wrapI (x15 + 1)) b0_0 b0_1 r1) := (loop_unfold _ _ _ _).trans (by kernel_rfl)
set_option maxRecDepth 100000 in
theorem impl_classOf.l2_eq (x1 : List Int) (x13 : List (List Int)) (x14 : Int) (x15 : Int) (b0_0 : Int) (b0_1 : List Int) (r1 : List Int) : impl_classOf.l2 x1 x13 x14 x15 b0_0 b0_1 r1 = if x15 < x14 then (if 0 ≤ x15 then (if x15 < (x13.length : Int) then (impl_classOf.l3 x1 (row x13 x15) x13 x14 x15 x1 (x1.length : Int) 0 b0_0 b0_1 r1 ([] : List Int)) else none) else none) else (some r1) := (loop_unfold _ _ _ _).trans (by kernel_rfl)
set_option maxRecDepth 100000 in
theorem impl_classOf.l3_eq (x1 : List Int) (x9 : List Int) (x13 : List (List Int)) (x14 : Int) (x15 : Int) (x20 : List Int) (x21 : Int) (x22 : Int) (b0_0 : Int) (b0_1 : List Int) (r1 : List Int) (r2 : List Int) : impl_classOf.l3 x1 x9 x13 x14 x15 x20 x21 x22 b0_0 b0_1 r1 r2 = if x22 < x21 then (if 0 ≤ x22 then (if x22 < (x20.length : Int) then (if 0 ≤ x22 then (if x22 < (x9.length : Int) then (if b0_0 = 0 then none else (if r2.length + ([(wrapI ((rd x20 x22) + (rd x9 x22)) : Int).tmod b0_0] : List Int).length ≤ 17592186044416 then (impl_classOf.l3 x1 x9 x13 x14 x15 x20 x21 (wrapI (x22 + 1)) b0_0 b0_1 r1 (r2 ++ ([(wrapI ((rd x20 x22) + (rd x9 x22)) : Int).tmod b0_0] : List Int))) else none)) else none) else none) else none) else none) else (if 0 < r1.length then ((slices_Compare_int64.f r2 r1).bind fun t45 => if t45 < 0 then (impl_classOf.l2 x1 x13 x14 (wrapI (x15 + 1)) b0_0 b0_1 r2) else (impl_classOf.l2 x1 x13 x14 (wrapI (x15 + 1)) b0_0 b0_1 r1)) else none) := (loop_unfold _ _ _ _).trans (by kernel_rfl)
noncomputable def impl_classOf.con : Con := ⟨impl_classOf.fn.ins, impl_classOf.fn.outs, (List Int), fun x => impl_classOf.f x.1 x.2.1 x.2.2.1 x.2.2.2.1, fun r => ((r, ()), (()))⟩
theorem impl_classOf.valid : Valid Try.prog 124 impl_classOf.con := fn_valid (f := impl_classOf.fn) (E := impl_classOf.E) (enc := impl_classOf.enc) ⟨ttOk, (conCons slices_Compare_int64.valid conNil)⟩ (Checked.mixed Try.checked) ⟨Try.func124, by kernel_rfl, by kernel_rfl, by kernel_rfl, by kernel_rfl, by decide, by kernel_rfl, by kernel_rfl⟩ (fun _ => rfl)
end Go.Proofs.Ytpppnoliogdkiaa.P
set_option linter.unusedVariables false
namespace Go.Proofs.Ytpppnoliogdkiaa.P
open Go Go.RowKit Go.Proofs.Ytpppnoliogdkiaa.D
noncomputable def impl_ClassOfCrossed.E : Env := { tt := TT, con := [(123, impl_crossedCode.con), (120, impl_principalMaps.con), (124, impl_classOf.con)], frz := [], rows := [], live := [], n := 21, pin := 0, nils := [] }
noncomputable def impl_ClassOfCrossed.fn : D.Fn := { body := Try.f68.body.getD .skip, res := Try.f68.results.toList, ins := [.agg [.v (.sl 25 (.sl 2 (.int .i64)))], .agg [.v (.int .i64), .v (.sl 2 (.int .i64))], .one (.v (.sl 2 (.int .i64)))], outs := [.one (.own 2 true (.int .i64)), .one (.v (.int .i64))] }
def impl_ClassOfCrossed.enc (y : lsd (flats impl_ClassOfCrossed.fn.outs) × lsd (ios impl_ClassOfCrossed.fn.ins)) : (List Int) × Int := (y.1.1, y.1.2.1)
noncomputable def impl_ClassOfCrossed.f (l0_0 : List (List Int)) (a1_0 : Int) (l1_1 : List Int) (l2 : List Int) : Option ((List Int) × Int) := denF impl_ClassOfCrossed.E impl_ClassOfCrossed.fn impl_ClassOfCrossed.enc (l0_0, a1_0, l1_1, l2, ())
set_option maxRecDepth 100000 in
theorem impl_ClassOfCrossed.f_eq (l0_0 : List (List Int)) (a1_0 : Int) (l1_1 : List Int) (l2 : List Int) : impl_ClassOfCrossed.f l0_0 a1_0 l1_1 l2 = (impl_crossedCode.f l0_0 a1_0 l1_1 l2).bind fun t12 => if t12 = 0 then ((impl_principalMaps.f a1_0 l1_1).bind fun t19 => (impl_classOf.f a1_0 l1_1 l2 t19).bind fun t20 => some (t20, 0)) else (some (([] : List Int), t12)) := by kernel_rfl
noncomputable def impl_ClassOfCrossed.con : Con := ⟨impl_ClassOfCrossed.fn.ins, impl_ClassOfCrossed.fn.outs, (List Int) × Int, fun x => impl_ClassOfCrossed.f x.1 x.2.1 x.2.2.1 x.2.2.2.1, fun r => ((r.1, r.2, ()), (()))⟩
theorem impl_ClassOfCrossed.valid : Valid Try.prog 68 impl_ClassOfCrossed.con := fn_valid (f := impl_ClassOfCrossed.fn) (E := impl_ClassOfCrossed.E) (enc := impl_ClassOfCrossed.enc) ⟨ttOk, (conCons impl_crossedCode.valid (conCons impl_principalMaps.valid (conCons impl_classOf.valid conNil)))⟩ (Checked.mixed Try.checked) ⟨Try.func68, by kernel_rfl, by kernel_rfl, by kernel_rfl, by kernel_rfl, by decide, by kernel_rfl, by kernel_rfl⟩ (fun _ => rfl)
end Go.Proofs.Ytpppnoliogdkiaa.P
set_option linter.unusedVariables false
namespace Go.Proofs.Ytpppnoliogdkiaa.P
open Go Go.RowKit Go.Proofs.Ytpppnoliogdkiaa.D
noncomputable def laws_FnExactClassOfCrossed.E : Env := { tt := TT, con := [(15, laws_szGroup.con), (16, laws_szModule.con), (18, laws_toGroup.con), (19, laws_toModule.con), (67, laws_toInt64S.con), (66, spec_ClassOfCrossed.con), (68, impl_ClassOfCrossed.con), (21, laws_eqInt64S.con), (22, laws_eqGroup.con), (23, laws_eqModule.con), (24, laws_markGroup.con), (25, laws_markModule.con), (26, laws_markInt64S.con), (27, laws_heldInt64S.con)], frz := [], rows := [], live := [], n := 140, pin := 0, nils := [] }
noncomputable def laws_FnExactClassOfCrossed.fn : D.Fn := { body := Try.f14.body.getD .skip, res := Try.f14.results.toList, ins := [.agg [.v (.sl 25 (.sl 2 (.int .i64)))], .agg [.v (.int .i64), .v (.sl 2 (.int .i64))], .one (.v (.sl 2 (.int .i64)))], outs := [.one (.v .bool)] }
def laws_FnExactClassOfCrossed.enc (y : lsd (flats laws_FnExactClassOfCrossed.fn.outs) × lsd (ios laws_FnExactClassOfCrossed.fn.ins)) : Bool := y.1.1
noncomputable def laws_FnExactClassOfCrossed.f (l0_0 : List (List Int)) (a1_0 : Int) (l1_1 : List Int) (l2 : List Int) : Option Bool := denF laws_FnExactClassOfCrossed.E laws_FnExactClassOfCrossed.fn laws_FnExactClassOfCrossed.enc (l0_0, a1_0, l1_1, l2, ())
set_option maxRecDepth 100000 in
theorem laws_FnExactClassOfCrossed.f_eq (l0_0 : List (List Int)) (a1_0 : Int) (l1_1 : List Int) (l2 : List Int) : laws_FnExactClassOfCrossed.f l0_0 a1_0 l1_1 l2 = if (l2.length : Int) > 1048576 then (some true) else ((laws_szGroup.f l0_0 1048576).bind fun t25 => if t25 < 0 then (some true) else ((laws_szModule.f a1_0 l1_1 t25).bind fun t30 => if t30 < 0 then (some true) else ((laws_toGroup.f l0_0).bind fun t35 => (laws_toModule.f a1_0 l1_1).bind fun t37 => (laws_toInt64S.f l2).bind fun t39 => (spec_ClassOfCrossed.f t35 t37.1 t37.2 t39).bind fun t40 => (laws_toGroup.f l0_0).bind fun t44 => (laws_toModule.f a1_0 l1_1).bind fun t46 => (laws_toInt64S.f l2).bind fun t48 => (impl_ClassOfCrossed.f t44 t46.1 t46.2 t48).bind fun t53 => (laws_eqInt64S.f t53.1 t40.1).bind fun t58 => if t58 = true then (if t53.2 = t40.2 then ((laws_toGroup.f l0_0).bind fun t67 => (laws_eqGroup.f t44 t67).bind fun t68 => if t68 = true then ((laws_toModule.f a1_0 l1_1).bind fun t72 => (laws_eqModule.f t46.1 t46.2 t72.1 t72.2).bind fun t73 => if t73 = true then ((laws_toInt64S.f l2).bind fun t77 => (laws_eqInt64S.f t48 t77).bind fun t78 => if t78 = true then ((laws_markGroup.f t44 1).bind fun t82 => (laws_markModule.f t46.1 t46.2 t82.1).bind fun t85 => (laws_markInt64S.f t48 t85.1).bind fun t88 => if t88.1 < 0 then (some false) else ((laws_eqInt64S.f t53.1 t40.1).bind fun t94 => if t94 = true then (if t53.2 = t40.2 then ((laws_markInt64S.f t53.1 1).bind fun t104 => (laws_heldInt64S.f t104.2 1).bind fun t107 => if t107 < 0 then (some false) else (if t107 = t104.1 then ((laws_toGroup.f l0_0).bind fun t115 => (laws_toModule.f a1_0 l1_1).bind fun t117 => (laws_toInt64S.f l2).bind fun t119 => (impl_ClassOfCrossed.f t115 t117.1 t117.2 t119).bind fun t120 => (laws_eqInt64S.f t120.1 t40.1).bind fun t125 => if t125 = true then (if t120.2 = t40.2 then ((laws_heldInt64S.f t104.2 1).bind fun t134 => if t134 < 0 then (some false) else (if t134 = t104.1 then (some true) else (some false))) else (some false)) else (some false)) else (some false))) else (some false)) else (some false))) else (some false)) else (some false)) else (some false)) else (some false)) else (some false)))) := by kernel_rfl
noncomputable def laws_FnExactClassOfCrossed.con : Con := ⟨laws_FnExactClassOfCrossed.fn.ins, laws_FnExactClassOfCrossed.fn.outs, Bool, fun x => laws_FnExactClassOfCrossed.f x.1 x.2.1 x.2.2.1 x.2.2.2.1, fun r => ((r, ()), (()))⟩
theorem laws_FnExactClassOfCrossed.valid : Valid Try.prog 14 laws_FnExactClassOfCrossed.con := fn_valid (f := laws_FnExactClassOfCrossed.fn) (E := laws_FnExactClassOfCrossed.E) (enc := laws_FnExactClassOfCrossed.enc) ⟨ttOk, (conCons laws_szGroup.valid (conCons laws_szModule.valid (conCons laws_toGroup.valid (conCons laws_toModule.valid (conCons laws_toInt64S.valid (conCons spec_ClassOfCrossed.valid (conCons impl_ClassOfCrossed.valid (conCons laws_eqInt64S.valid (conCons laws_eqGroup.valid (conCons laws_eqModule.valid (conCons laws_markGroup.valid (conCons laws_markModule.valid (conCons laws_markInt64S.valid (conCons laws_heldInt64S.valid conNil))))))))))))))⟩ (Checked.mixed Try.checked) ⟨Try.func14, by kernel_rfl, by kernel_rfl, by kernel_rfl, by kernel_rfl, by decide, by kernel_rfl, by kernel_rfl⟩ (fun _ => rfl)
end Go.Proofs.Ytpppnoliogdkiaa.P
set_option linter.unusedVariables false
namespace Go.Proofs.Ytpppnoliogdkiaa.P
open Go Go.RowKit Go.Proofs.Ytpppnoliogdkiaa.D
end Go.Proofs.Ytpppnoliogdkiaa.P
set_option linter.unusedVariables false
namespace Go.Proofs.Ytpppnoliogdkiaa.V
open Go Go.RowKit Go.Proofs.Ytpppnoliogdkiaa.D
theorem w64 {x : Int} (h0 : -9223372036854775808 ≤ x) (h1 : x ≤ 9223372036854775807) : wrapI x = x := by unfold wrapI; rw [hid_eq]; unfold wrap64; omega
theorem wn {j : Nat} (h : j < 4611686018427387904) : wrapI ((j : Int) + 1) = ((j + 1 : Nat) : Int) := by rw [w64 (by omega) (by omega)]; omega
theorem go_pos {α : Type} {p : Prop} {inst : Decidable p} {a b r : α} (h : p) (k : a = r) : (if p then a else b) = r := by rw [if_pos h]; exact k
theorem go_neg {α : Type} {p : Prop} {inst : Decidable p} {a b r : α} (h : ¬ p) (k : b = r) : (if p then a else b) = r := by rw [if_neg h]; exact k
theorem go_bind {α β : Type} {c : Option α} {f : α → Option β} {a : α} {r : Option β} (h : c = some a) (k : f a = r) : c.bind f = r := by rw [h]; exact k
theorem maxLen_le : maxLen ≤ 9223372036854775807 := by unfold maxLen; omega
theorem le_maxLen {n : Nat} (h : n ≤ 9223372036854775807) : n ≤ maxLen := by unfold maxLen; omega
noncomputable def ite_ {α : Type} (p : Prop) (a b : α) : α := @ite α p (Classical.propDecidable p) a b
theorem ite_pos {α : Type} {p : Prop} (h : p) (a b : α) : ite_ p a b = a := by unfold ite_; simp [h]
theorem ite_neg {α : Type} {p : Prop} (h : ¬ p) (a b : α) : ite_ p a b = b := by unfold ite_; simp [h]
noncomputable def B (p : Prop) : Bool := @decide p (Classical.propDecidable p)
theorem B_pos {p : Prop} (h : p) : B p = true := by unfold B; simp [h]
theorem B_neg {p : Prop} (h : ¬ p) : B p = false := by unfold B; simp [h]
theorem B_not {p : Prop} (h : ¬ p) : ¬ (B p = true) := by rw [B_neg h]; decide
theorem B_congr {p q : Prop} (h : p ↔ q) : B p = B q := by rw [show p = q from propext h]
theorem B_decide (p : Prop) {inst : Decidable p} : decide p = B p := by by_cases h : p <;> simp [h, B]
theorem B_true : B True = true := B_pos trivial
theorem scan {R : Type} (n : Nat) (L : Int → R) (P : Int → Prop) (bad : R)
    (hs : ∀ i : Int, 0 ≤ i → i < n → (∀ j : Int, 0 ≤ j → j < i → P j) → (P i → L i = L (i + 1)) ∧ (¬ P i → L i = bad)) :
    ((∀ j : Int, 0 ≤ j → j < n → P j) ∧ L 0 = L n) ∨ (∃ m : Int, 0 ≤ m ∧ m < n ∧ (∀ j : Int, 0 ≤ j → j < m → P j) ∧ ¬ P m ∧ L 0 = L m ∧ L 0 = bad) := by
  suffices H : ∀ d m : Nat, m + d = n → (∀ j : Int, 0 ≤ j → j < m → P j) →
      ((∀ j : Int, 0 ≤ j → j < n → P j) ∧ L m = L n) ∨ (∃ i : Int, 0 ≤ i ∧ i < n ∧ (∀ j : Int, 0 ≤ j → j < i → P j) ∧ ¬ P i ∧ L m = L i ∧ L m = bad) by
    simpa using H n 0 (by omega) (fun j h0 h1 => by omega)
  intro d
  induction d with
  | zero =>
    intro m hm hp
    have : (m : Int) = n := by omega
    rw [this] at hp ⊢
    exact .inl ⟨hp, rfl⟩
  | succ d ih =>
    intro m hm hp
    obtain ⟨h1, h2⟩ := hs m (by omega) (by omega) hp
    by_cases h : P m
    · have hp' : ∀ j : Int, 0 ≤ j → j < ((m + 1 : Nat) : Int) → P j := fun j h0 hj => by
        by_cases e : j = m
        · rw [e]; exact h
        · exact hp j h0 (by omega)
      have := ih (m + 1) (by omega) hp'
      rwa [Int.natCast_add, Int.natCast_one, ← h1 h] at this
    · exact .inr ⟨m, by omega, by omega, hp, h, rfl, h2 h⟩
theorem scanB (n : Nat) (L : Int → Option Bool) (P : Int → Prop) (Q : Prop)
    (hs : ∀ i : Int, 0 ≤ i → i < n → (∀ j : Int, 0 ≤ j → j < i → P j) → (P i → L i = L (i + 1)) ∧ (¬ P i → L i = some false))
    (he : (∀ j : Int, 0 ≤ j → j < n → P j) → L n = some (B Q)) : L 0 = some (B ((∀ j : Int, 0 ≤ j → j < n → P j) ∧ Q)) := by
  rcases scan n L P (some false) hs with ⟨h1, h2⟩ | ⟨j, h0, h1, _, h2, _, h3⟩
  · rw [B_congr (show ((∀ j : Int, 0 ≤ j → j < n → P j) ∧ Q) ↔ Q from ⟨fun h => h.2, fun h => ⟨h1, h⟩⟩), h2]
    exact he h1
  · rw [B_neg fun h => h2 (h.1 j h0 h1)]
    exact h3
theorem scanT (n : Nat) (L : Int → Option Bool) (P : Int → Prop)
    (hs : ∀ i : Int, 0 ≤ i → i < n → (∀ j : Int, 0 ≤ j → j < i → P j) → (P i → L i = L (i + 1)) ∧ (¬ P i → L i = some false))
    (he : (∀ j : Int, 0 ≤ j → j < n → P j) → L n = some true) : L 0 = some (B (∀ j : Int, 0 ≤ j → j < n → P j)) := by
  have := scanB n L P True hs (fun h => by rw [B_true]; exact he h)
  rwa [B_congr (show ((∀ j : Int, 0 ≤ j → j < n → P j) ∧ True) ↔ _ from ⟨fun h => h.1, fun h => ⟨h, trivial⟩⟩)] at this
theorem scanI {R : Type} (n : Nat) (L : Int → R) (P : Int → Prop) (bad go : R)
    (hs : ∀ i : Int, 0 ≤ i → i < n → (∀ j : Int, 0 ≤ j → j < i → P j) → (P i → L i = L (i + 1)) ∧ (¬ P i → L i = bad)) (he : (∀ j : Int, 0 ≤ j → j < n → P j) → L n = go) :
    ((∀ j : Int, 0 ≤ j → j < n → P j) → L 0 = go) ∧ (¬ (∀ j : Int, 0 ≤ j → j < n → P j) → L 0 = bad) := by
  rcases scan n L P bad hs with ⟨h1, h2⟩ | ⟨j, h0, h1, _, h2, _, h3⟩
  · exact ⟨fun _ => h2.trans (he h1), fun h => absurd h1 h⟩
  · exact ⟨fun h => absurd (h j h0 h1) h2, fun _ => h3⟩
theorem up {R : Type} (n : Nat) (L : Nat → R) (h : ∀ i, i < n → L i = L (i + 1)) : L 0 = L n := by
  suffices H : ∀ m, m ≤ n → L 0 = L m from H n (Nat.le_refl _)
  intro m
  induction m with
  | zero => exact fun _ => rfl
  | succ m ih => exact fun hm => (ih (by omega)).trans (h m (by omega))
theorem rd_get {xs : List Int} {j : Nat} (h : j < xs.length) : rd xs (j : Int) = xs[j] := by simp [rd, List.getD_eq_getElem?_getD, List.getElem?_eq_getElem h]
theorem rd_at {xs : List Int} {i : Int} (h0 : 0 ≤ i) (h1 : i < xs.length) : xs[i.toNat]? = some (rd xs i) := by
  have h : i.toNat < xs.length := by omega
  simp [rd, List.getD_eq_getElem?_getD, List.getElem?_eq_getElem h]
theorem rd_mem {xs : List Int} {i : Int} (h0 : 0 ≤ i) (h1 : i < xs.length) : rd xs i ∈ xs := List.mem_of_getElem? (rd_at h0 h1)
theorem ext_rd {xs ys : List Int} (hl : xs.length = ys.length) (h : ∀ i : Int, 0 ≤ i → i < xs.length → rd xs i = rd ys i) : xs = ys := by
  apply List.ext_getElem hl
  intro i h1 h2
  have := h i (by omega) (by omega)
  simpa [rd, List.getD_eq_getElem?_getD, List.getElem?_eq_getElem h1, List.getElem?_eq_getElem h2] using this
theorem row_get {g : List (List Int)} {j : Nat} (h : j < g.length) : row g (j : Int) = g[j] := by simp [row, List.getD_eq_getElem?_getD, List.getElem?_eq_getElem h]
theorem row_mem {g : List (List Int)} {a : Int} (h0 : 0 ≤ a) (h1 : a < g.length) : row g a ∈ g := by
  have h : a.toNat < g.length := by omega
  unfold row
  rw [List.getD_eq_getElem?_getD, List.getElem?_eq_getElem h]
  exact List.getElem_mem h
theorem mem_row {g : List (List Int)} {r : List Int} (h : r ∈ g) : ∃ i : Int, 0 ≤ i ∧ i < g.length ∧ row g i = r := by
  obtain ⟨i, hi, rfl⟩ := List.mem_iff_getElem.1 h
  exact ⟨i, by omega, by omega, row_get hi⟩
theorem ext_row {xs ys : List (List Int)} (hl : xs.length = ys.length) (h : ∀ i : Int, 0 ≤ i → i < xs.length → row xs i = row ys i) : xs = ys := by
  apply List.ext_getElem hl
  intro i h1 h2
  have := h i (by omega) (by omega)
  rwa [row_get h1, row_get h2] at this
def AllIn (n : Int) (xs : List Int) : Prop := ∀ i : Int, 0 ≤ i → i < xs.length → 0 ≤ rd xs i ∧ rd xs i < n
theorem allIn_two {n x y : Int} (h0 : 0 ≤ x) (h1 : x < n) (h2 : 0 ≤ y) (h3 : y < n) : AllIn n [x, y] := by
  intro i i0 i1
  have : i = 0 ∨ i = 1 := by simp at i1; omega
  rcases this with rfl | rfl <;> simp [rd, *]
theorem AllIn.mem {n : Int} {xs : List Int} (h : AllIn n xs) {x : Int} (hx : x ∈ xs) : 0 ≤ x ∧ x < n := by
  obtain ⟨i, hi, rfl⟩ := List.mem_iff_getElem.1 hx
  have := h i (by omega) (by omega)
  rwa [rd_get hi] at this
theorem allIn_of {n : Int} {xs : List Int} (h : ∀ x ∈ xs, 0 ≤ x ∧ x < n) : AllIn n xs := fun i i0 i1 => h _ (rd_mem i0 i1)
theorem AllIn.drop {n : Int} {xs : List Int} (h : AllIn n xs) (j : Nat) : AllIn n (xs.drop j) := allIn_of fun x hx => h.mem (List.mem_of_mem_drop hx)
theorem AllIn.take {n : Int} {xs : List Int} (h : AllIn n xs) (j : Nat) : AllIn n (xs.take j) := allIn_of fun x hx => h.mem (List.mem_of_mem_take hx)
theorem AllIn.append {n : Int} {xs ys : List Int} (h : AllIn n xs) (k : AllIn n ys) : AllIn n (xs ++ ys) := allIn_of fun x hx => by
  rcases List.mem_append.1 hx with h' | h'
  · exact h.mem h'
  · exact k.mem h'
theorem tmod_nn {a m : Int} (h : 0 ≤ a) : Int.tmod a m = a % m := Int.tmod_eq_emod_of_nonneg h
end Go.Proofs.Ytpppnoliogdkiaa.V
set_option linter.unusedVariables false
set_option linter.unusedSimpArgs false
set_option maxHeartbeats 2000000
set_option maxRecDepth 20000
namespace Go.Proofs.Ytpppnoliogdkiaa.V
open Go.RowKit Go.Proofs.Ytpppnoliogdkiaa.D Go.Proofs.Ytpppnoliogdkiaa.P
theorem copy_step {α : Type} (xs : List α) (d : α) (m : Nat) (hm : m < xs.length) :
    (xs.take m ++ List.replicate (xs.length - m) d).set m xs[m] = xs.take (m + 1) ++ List.replicate (xs.length - (m + 1)) d := by
  have h1 : (xs.take m).length = m := by rw [List.length_take]; omega
  rw [List.set_append, if_neg (by omega), h1, Nat.sub_self]
  rw [show xs.length - m = (xs.length - (m + 1)) + 1 by omega, List.replicate_succ, List.set_cons_zero]
  rw [List.take_succ_eq_append_getElem hm, List.append_assoc]; rfl
theorem copy_len {α : Type} (xs : List α) (d : α) (m : Nat) (hm : m ≤ xs.length) : (xs.take m ++ List.replicate (xs.length - m) d).length = xs.length := by
  rw [List.length_append, List.length_take, List.length_replicate]; omega
theorem toInt64S (xs : List Int) (hl : xs.length ≤ 1048576) : laws_toInt64S.f xs = some xs := by
  rw [laws_toInt64S.f_eq, Int.toNat_natCast]
  (with_reducible repeat (first | refine go_pos (by first | assumption | omega | rfl | exact B_pos (by omega)) ?_ | refine go_neg (by first | assumption | omega | decide | exact B_not (by omega)) ?_ | refine go_bind (by first | assumption) ?_ | dsimp only))
  have := up xs.length (fun m => laws_toInt64S.l0 xs (m : Int) (xs.take m ++ List.replicate (xs.length - m) 0)) (fun m hm => by
    have hw : wrapI ((m : Int) + 1) = ((m + 1 : Nat) : Int) := by rw [w64 (by omega) (by omega)]; omega
    have l1 := copy_len xs (0 : Int) m (by omega)
    rw [← copy_step xs 0 m hm, laws_toInt64S.l0_eq, hw, Int.toNat_natCast, rd_get hm]
    ((with_reducible repeat (first | refine go_pos (by first | assumption | omega | rfl | exact B_pos (by omega)) ?_ | refine go_neg (by first | assumption | omega | decide | exact B_not (by omega)) ?_ | refine go_bind (by first | assumption) ?_ | dsimp only)); first | done | (with_reducible rfl) | simp (disch := omega) only [w64] | (show False; done)))
  simp only [List.take_zero, List.nil_append, Nat.sub_zero, List.take_length, Nat.sub_self, List.replicate_zero, List.append_nil, Int.natCast_zero] at this
  rw [this, laws_toInt64S.l0_eq]
  ((with_reducible repeat (first | refine go_pos (by first | assumption | omega | rfl | exact B_pos (by omega)) ?_ | refine go_neg (by first | assumption | omega | decide | exact B_not (by omega)) ?_ | refine go_bind (by first | assumption) ?_ | dsimp only)); first | done | (with_reducible rfl) | simp (disch := omega) only [w64] | (show False; done))
theorem toInt64SS (g : List (List Int)) (hl : g.length ≤ 1048576) (hr : ∀ r ∈ g, r.length ≤ 1048576) : laws_toInt64SS.f g = some g := by
  rw [laws_toInt64SS.f_eq, Int.toNat_natCast]
  (with_reducible repeat (first | refine go_pos (by first | assumption | omega | rfl | exact B_pos (by omega)) ?_ | refine go_neg (by first | assumption | omega | decide | exact B_not (by omega)) ?_ | refine go_bind (by first | assumption) ?_ | dsimp only))
  have := up g.length (fun m => laws_toInt64SS.l0 g (m : Int) (g.take m ++ List.replicate (g.length - m) [])) (fun m hm => by
    have hw : wrapI ((m : Int) + 1) = ((m + 1 : Nat) : Int) := by rw [w64 (by omega) (by omega)]; omega
    have l1 := copy_len g ([] : List Int) m (by omega)
    have ht := toInt64S g[m] (hr _ (List.getElem_mem hm))
    rw [← copy_step g [] m hm, laws_toInt64SS.l0_eq, hw, Int.toNat_natCast, row_get hm]
    ((with_reducible repeat (first | refine go_pos (by first | assumption | omega | rfl | exact B_pos (by omega)) ?_ | refine go_neg (by first | assumption | omega | decide | exact B_not (by omega)) ?_ | refine go_bind (by first | assumption) ?_ | dsimp only)); first | done | (with_reducible rfl) | simp (disch := omega) only [w64] | (show False; done)))
  simp only [List.take_zero, List.nil_append, Nat.sub_zero, List.take_length, Nat.sub_self, List.replicate_zero, List.append_nil, Int.natCast_zero] at this
  rw [this, laws_toInt64SS.l0_eq]
  ((with_reducible repeat (first | refine go_pos (by first | assumption | omega | rfl | exact B_pos (by omega)) ?_ | refine go_neg (by first | assumption | omega | decide | exact B_not (by omega)) ?_ | refine go_bind (by first | assumption) ?_ | dsimp only)); first | done | (with_reducible rfl) | simp (disch := omega) only [w64] | (show False; done))
theorem toGroup (g : List (List Int)) (hl : g.length ≤ 1048576) (hr : ∀ r ∈ g, r.length ≤ 1048576) : laws_toGroup.f g = some g := by
  rw [laws_toGroup.f_eq]; ((with_reducible repeat (first | refine go_pos (by first | assumption | omega | rfl | exact B_pos (by omega)) ?_ | refine go_neg (by first | assumption | omega | decide | exact B_not (by omega)) ?_ | refine go_bind (by first | assumption | exact toInt64SS _ hl hr) ?_ | dsimp only)); first | done | (with_reducible rfl) | simp (disch := omega) only [w64] | (show False; done))
theorem toModule (m : Int) (u : List Int) (hl : u.length ≤ 1048576) : laws_toModule.f m u = some (m, u) := by
  rw [laws_toModule.f_eq]; ((with_reducible repeat (first | refine go_pos (by first | assumption | omega | rfl | exact B_pos (by omega)) ?_ | refine go_neg (by first | assumption | omega | decide | exact B_not (by omega)) ?_ | refine go_bind (by first | assumption | exact toInt64S _ hl) ?_ | dsimp only)); first | done | (with_reducible rfl) | simp (disch := omega) only [w64] | (show False; done))
theorem eqInt64S (xs ys : List Int) (hl : xs.length ≤ maxLen) : laws_eqInt64S.f xs ys = some (B (xs = ys)) := by
  have hm := maxLen_le
  rw [laws_eqInt64S.f_eq]
  by_cases h : (xs.length : Int) = ys.length
  rotate_left
  · rw [B_neg fun e => h (by rw [e])]
    ((with_reducible repeat (first | refine go_pos (by first | assumption | omega | rfl | exact B_pos (by omega)) ?_ | refine go_neg (by first | assumption | omega | decide | exact B_not (by omega)) ?_ | refine go_bind (by first | assumption) ?_ | dsimp only)); first | done | (with_reducible rfl) | simp (disch := omega) only [w64] | (show False; done))
  (with_reducible repeat (first | refine go_pos (by first | assumption | omega | rfl | exact B_pos (by omega)) ?_ | refine go_neg (by first | assumption | omega | decide | exact B_not (by omega)) ?_ | refine go_bind (by first | assumption) ?_ | dsimp only))
  rw [B_congr (show xs = ys ↔ ∀ i : Int, 0 ≤ i → i < xs.length → rd xs i = rd ys i from ⟨fun e i _ _ => by rw [e], fun e => ext_rd (by omega) e⟩)]
  refine scanT xs.length (fun i => laws_eqInt64S.l0 xs ys i) (fun i => rd xs i = rd ys i) (fun i i0 i1 _ => ?_) (fun _ => by (rw [laws_eqInt64S.l0_eq]); ((with_reducible repeat (first | refine go_pos (by first | assumption | omega | rfl | exact B_pos (by omega)) ?_ | refine go_neg (by first | assumption | omega | decide | exact B_not (by omega)) ?_ | refine go_bind (by first | assumption) ?_ | dsimp only)); first | done | (with_reducible rfl) | simp (disch := omega) only [w64] | (show False; done)))
  refine ⟨fun h => ?_, fun h => ?_⟩ <;> (rw [laws_eqInt64S.l0_eq]) <;> ((with_reducible repeat (first | refine go_pos (by first | assumption | omega | rfl | exact B_pos (by omega)) ?_ | refine go_neg (by first | assumption | omega | decide | exact B_not (by omega)) ?_ | refine go_bind (by first | assumption) ?_ | dsimp only)); first | done | (with_reducible rfl) | simp (disch := omega) only [w64] | (show False; done))
theorem eqInt64SS (xs ys : List (List Int)) (hl : xs.length ≤ maxLen) (hr : ∀ r ∈ xs, r.length ≤ maxLen) : laws_eqInt64SS.f xs ys = some (B (xs = ys)) := by
  have hm := maxLen_le
  rw [laws_eqInt64SS.f_eq]
  by_cases h : (xs.length : Int) = ys.length
  rotate_left
  · rw [B_neg fun e => h (by rw [e])]
    ((with_reducible repeat (first | refine go_pos (by first | assumption | omega | rfl | exact B_pos (by omega)) ?_ | refine go_neg (by first | assumption | omega | decide | exact B_not (by omega)) ?_ | refine go_bind (by first | assumption) ?_ | dsimp only)); first | done | (with_reducible rfl) | simp (disch := omega) only [w64] | (show False; done))
  (with_reducible repeat (first | refine go_pos (by first | assumption | omega | rfl | exact B_pos (by omega)) ?_ | refine go_neg (by first | assumption | omega | decide | exact B_not (by omega)) ?_ | refine go_bind (by first | assumption) ?_ | dsimp only))
  rw [B_congr (show xs = ys ↔ ∀ i : Int, 0 ≤ i → i < xs.length → row xs i = row ys i from ⟨fun e i _ _ => by rw [e], fun e => ext_row (by omega) e⟩)]
  refine scanT xs.length (fun i => laws_eqInt64SS.l0 xs ys i) (fun i => row xs i = row ys i) (fun i i0 i1 _ => ?_) (fun _ => by (rw [laws_eqInt64SS.l0_eq]); ((with_reducible repeat (first | refine go_pos (by first | assumption | omega | rfl | exact B_pos (by omega)) ?_ | refine go_neg (by first | assumption | omega | decide | exact B_not (by omega)) ?_ | refine go_bind (by first | assumption) ?_ | dsimp only)); first | done | (with_reducible rfl) | simp (disch := omega) only [w64] | (show False; done)))
  have he := eqInt64S (row xs i) (row ys i) (hr _ (row_mem i0 i1))
  refine ⟨fun h => ?_, fun h => ?_⟩
  · rw [B_pos h] at he
    (rw [laws_eqInt64SS.l0_eq])
    ((with_reducible repeat (first | refine go_pos (by first | assumption | omega | rfl | exact B_pos (by omega)) ?_ | refine go_neg (by first | assumption | omega | decide | exact B_not (by omega)) ?_ | refine go_bind (by first | assumption) ?_ | dsimp only)); first | done | (with_reducible rfl) | simp (disch := omega) only [w64] | (show False; done))
  · rw [B_neg h] at he
    (rw [laws_eqInt64SS.l0_eq])
    ((with_reducible repeat (first | refine go_pos (by first | assumption | omega | rfl | exact B_pos (by omega)) ?_ | refine go_neg (by first | assumption | omega | decide | exact B_not (by omega)) ?_ | refine go_bind (by first | assumption) ?_ | dsimp only)); first | done | (with_reducible rfl) | simp (disch := omega) only [w64] | (show False; done))
theorem eqGroup (xs ys : List (List Int)) (hl : xs.length ≤ maxLen) (hr : ∀ r ∈ xs, r.length ≤ maxLen) : laws_eqGroup.f xs ys = some (B (xs = ys)) := by
  have he := eqInt64SS xs ys hl hr
  rw [laws_eqGroup.f_eq, he]
  by_cases h : xs = ys
  · rw [B_pos h]; rfl
  · rw [B_neg h]; rfl
theorem eqModule (m n : Int) (u v : List Int) (hl : u.length ≤ maxLen) : laws_eqModule.f m u n v = some (B (m = n ∧ u = v)) := by
  have he := eqInt64S u v hl
  rw [laws_eqModule.f_eq]
  by_cases h : m = n ∧ u = v
  · rw [B_pos h.2] at he; rw [B_pos h]; ((with_reducible repeat (first | refine go_pos (by first | assumption | omega | rfl | exact B_pos (by omega)) ?_ | refine go_neg (by first | assumption | omega | decide | exact B_not (by omega)) ?_ | refine go_bind (by first | assumption) ?_ | dsimp only)); first | done | (with_reducible rfl) | simp (disch := omega) only [w64] | (show False; done))
  · rw [B_neg h]
    by_cases h1 : m = n
    · rw [B_neg fun k => h ⟨h1, k⟩] at he; ((with_reducible repeat (first | refine go_pos (by first | assumption | omega | rfl | exact B_pos (by omega)) ?_ | refine go_neg (by first | assumption | omega | decide | exact B_not (by omega)) ?_ | refine go_bind (by first | assumption) ?_ | dsimp only)); first | done | (with_reducible rfl) | simp (disch := omega) only [w64] | (show False; done))
    · ((with_reducible repeat (first | refine go_pos (by first | assumption | omega | rfl | exact B_pos (by omega)) ?_ | refine go_neg (by first | assumption | omega | decide | exact B_not (by omega)) ?_ | refine go_bind (by first | assumption) ?_ | dsimp only)); first | done | (with_reducible rfl) | simp (disch := omega) only [w64] | (show False; done))
theorem same_Ints (xs : List Int) (hl : xs.length ≤ maxLen) : laws_eqInt64S.f xs xs = some true := by rw [eqInt64S xs xs hl, B_pos rfl]
theorem same_Group (xs : List (List Int)) (hl : xs.length ≤ maxLen) (hr : ∀ r ∈ xs, r.length ≤ maxLen) : laws_eqGroup.f xs xs = some true := by rw [eqGroup xs xs hl hr, B_pos rfl]
theorem same_Module (m : Int) (u : List Int) (hl : u.length ≤ maxLen) : laws_eqModule.f m u m u = some true := by rw [eqModule m m u u hl, B_pos ⟨rfl, rfl⟩]
theorem szInt64S (xs : List Int) (left : Int) (hl : xs.length ≤ maxLen) (l0 : 0 ≤ left) (l1 : left ≤ 1048576) :
    ∃ t, laws_szInt64S.f xs left = some t ∧ (t < 0 ∨ (0 ≤ t ∧ t ≤ 1048576 ∧ xs.length ≤ 1048576)) := by
  have hm := maxLen_le
  rw [laws_szInt64S.f_eq, w64 (by omega) (by omega)]
  by_cases h : left - (xs.length : Int) < 0
  · exact ⟨_, if_pos h, .inl (by omega)⟩
  · exact ⟨_, if_neg h, .inr (by omega)⟩
theorem szInt64SS (g : List (List Int)) (left : Int) (hl : g.length ≤ maxLen) (hr : ∀ r ∈ g, r.length ≤ maxLen) (l0 : 0 ≤ left) (l1 : left ≤ 1048576) :
    ∃ t, laws_szInt64SS.f g left = some t ∧ (t < 0 ∨ (0 ≤ t ∧ t ≤ 1048576 ∧ g.length ≤ 1048576 ∧ ∀ r ∈ g, r.length ≤ 1048576)) := by
  have hm := maxLen_le
  rw [laws_szInt64SS.f_eq, w64 (by omega) (by omega)]
  by_cases h : left - (g.length : Int) < 0
  · exact ⟨_, if_pos h, .inl (by omega)⟩
  rw [if_neg h]
  have H : ∀ d m : Nat, m + d = g.length → ∀ s : Int, 0 ≤ s → s ≤ 1048576 → (∀ j, j < m → (row g j).length ≤ 1048576) → ∃ t, laws_szInt64SS.l0 g s (m : Int) = some t ∧ (t < 0 ∨ (0 ≤ t ∧ t ≤ 1048576 ∧ g.length ≤ 1048576 ∧ ∀ r ∈ g, r.length ≤ 1048576)) := by
    intro d
    induction d with
    | zero =>
      intro m hd s s0 s1 hs
      obtain rfl : m = g.length := by omega
      refine ⟨s, by (rw [laws_szInt64SS.l0_eq]); ((with_reducible repeat (first | refine go_pos (by first | assumption | omega | rfl | exact B_pos (by omega)) ?_ | refine go_neg (by first | assumption | omega | decide | exact B_not (by omega)) ?_ | refine go_bind (by first | assumption) ?_ | dsimp only)); first | done | (with_reducible rfl) | simp (disch := omega) only [w64] | (show False; done)), .inr ⟨s0, s1, by omega, fun r hr' => ?_⟩⟩
      obtain ⟨i, i0, i1, rfl⟩ := mem_row hr'
      have := hs i.toNat (by omega)
      rwa [show ((i.toNat : Nat) : Int) = i by omega] at this
    | succ d ih =>
      intro m hd s s0 s1 hs
      obtain ⟨t, ht, h⟩ := szInt64S (row g m) s (hr _ (row_mem (by omega) (by omega))) s0 s1
      have hw : wrapI ((m : Int) + 1) = ((m + 1 : Nat) : Int) := by rw [w64 (by omega) (by omega)]; omega
      rcases h with h | ⟨h0, h1, h2⟩
      · refine ⟨-1, ?_, .inl (by omega)⟩
        (rw [laws_szInt64SS.l0_eq])
        ((with_reducible repeat (first | refine go_pos (by first | assumption | omega | rfl | exact B_pos (by omega)) ?_ | refine go_neg (by first | assumption | omega | decide | exact B_not (by omega)) ?_ | refine go_bind (by first | assumption) ?_ | dsimp only)); first | done | (with_reducible rfl) | simp (disch := omega) only [w64] | (show False; done))
      · obtain ⟨t', ht', h'⟩ := ih (m + 1) (by omega) t h0 h1 (fun j hj => by
          by_cases e : j = m
          · rw [e]; exact h2
          · exact hs j (by omega))
        refine ⟨t', ?_, h'⟩
        (rw [laws_szInt64SS.l0_eq, hw])
        (with_reducible repeat (first | refine go_pos (by first | assumption | omega | rfl | exact B_pos (by omega)) ?_ | refine go_neg (by first | assumption | omega | decide | exact B_not (by omega)) ?_ | refine go_bind (by first | assumption) ?_ | dsimp only))
        exact ht'
  have := H g.length 0 (by omega) (left - g.length) (by omega) (by omega) (fun j hj => by omega)
  exact this
theorem szGroup (g : List (List Int)) (left : Int) (hl : g.length ≤ maxLen) (hr : ∀ r ∈ g, r.length ≤ maxLen) (l0 : 0 ≤ left) (l1 : left ≤ 1048576) :
    ∃ t, laws_szGroup.f g left = some t ∧ (t < 0 ∨ (0 ≤ t ∧ t ≤ 1048576 ∧ g.length ≤ 1048576 ∧ ∀ r ∈ g, r.length ≤ 1048576)) := by
  obtain ⟨t, ht, h⟩ := szInt64SS g left hl hr l0 l1
  rw [laws_szGroup.f_eq]
  rcases h with h | h
  · exact ⟨-1, by ((with_reducible repeat (first | refine go_pos (by first | assumption | omega | rfl | exact B_pos (by omega)) ?_ | refine go_neg (by first | assumption | omega | decide | exact B_not (by omega)) ?_ | refine go_bind (by first | assumption) ?_ | dsimp only)); first | done | (with_reducible rfl) | simp (disch := omega) only [w64] | (show False; done)), .inl (by omega)⟩
  · have := h.1
    exact ⟨t, by ((with_reducible repeat (first | refine go_pos (by first | assumption | omega | rfl | exact B_pos (by omega)) ?_ | refine go_neg (by first | assumption | omega | decide | exact B_not (by omega)) ?_ | refine go_bind (by first | assumption) ?_ | dsimp only)); first | done | (with_reducible rfl) | simp (disch := omega) only [w64] | (show False; done)), .inr h⟩
theorem szModule (m : Int) (u : List Int) (left : Int) (hl : u.length ≤ maxLen) (l0 : 0 ≤ left) (l1 : left ≤ 1048576) :
    ∃ t, laws_szModule.f m u left = some t ∧ (t < 0 ∨ (0 ≤ t ∧ t ≤ 1048576 ∧ u.length ≤ 1048576)) := by
  obtain ⟨t, ht, h⟩ := szInt64S u left hl l0 l1
  rw [laws_szModule.f_eq]
  rcases h with h | h
  · exact ⟨-1, by ((with_reducible repeat (first | refine go_pos (by first | assumption | omega | rfl | exact B_pos (by omega)) ?_ | refine go_neg (by first | assumption | omega | decide | exact B_not (by omega)) ?_ | refine go_bind (by first | assumption) ?_ | dsimp only)); first | done | (with_reducible rfl) | simp (disch := omega) only [w64] | (show False; done)), .inl (by omega)⟩
  · have := h.1
    exact ⟨t, by ((with_reducible repeat (first | refine go_pos (by first | assumption | omega | rfl | exact B_pos (by omega)) ?_ | refine go_neg (by first | assumption | omega | decide | exact B_not (by omega)) ?_ | refine go_bind (by first | assumption) ?_ | dsimp only)); first | done | (with_reducible rfl) | simp (disch := omega) only [w64] | (show False; done)), .inr h⟩
def MkS (a : Int) (n : Nat) : List Int := (List.range n).map fun (i : Nat) => a + (i : Int)
theorem MkS_length (a : Int) (n : Nat) : (MkS a n).length = n := by simp [MkS]
theorem MkS_rd {a : Int} {n : Nat} {i : Int} (h0 : 0 ≤ i) (h1 : i < n) : rd (MkS a n) i = a + i := by
  have h : i.toNat < n := by omega
  simp [rd, MkS, List.getD_eq_getElem?_getD, h]
  omega
theorem MkS_step (a : Int) (xs : List Int) (m : Nat) (hm : m < xs.length) : (MkS a m ++ xs.drop m).set m (a + m) = MkS a (m + 1) ++ xs.drop (m + 1) := by
  rw [List.set_append, if_neg (by rw [MkS_length]; omega), MkS_length, Nat.sub_self, List.drop_eq_getElem_cons hm, List.set_cons_zero]
  simp [MkS, List.range_succ]
theorem markS (xs : List Int) (a : Int) (h0 : 0 ≤ a) (h1 : a + xs.length ≤ 4611686018427387904) : laws_markInt64S.f xs a = some (a + xs.length, MkS a xs.length) := by
  rw [laws_markInt64S.f_eq]
  have := up xs.length (fun m => laws_markInt64S.l0 (a + (m : Int)) (m : Int) (MkS a m ++ xs.drop m)) (fun m hm => by
    have hw : wrapI ((m : Int) + 1) = ((m + 1 : Nat) : Int) := by rw [w64 (by omega) (by omega)]; omega
    have hw2 : wrapI (a + (m : Int) + 1) = a + ((m + 1 : Nat) : Int) := by rw [w64 (by omega) (by omega)]; omega
    have l1 : (MkS a m ++ xs.drop m).length = xs.length := by rw [List.length_append, MkS_length, List.length_drop]; omega
    rw [← MkS_step a xs m hm, laws_markInt64S.l0_eq, hw, hw2, Int.toNat_natCast]
    ((with_reducible repeat (first | refine go_pos (by first | assumption | omega | rfl | exact B_pos (by omega)) ?_ | refine go_neg (by first | assumption | omega | decide | exact B_not (by omega)) ?_ | refine go_bind (by first | assumption) ?_ | dsimp only)); first | done | (with_reducible rfl) | simp (disch := omega) only [w64] | (show False; done)))
  simp only [Int.natCast_zero, Int.add_zero, List.drop_zero, List.drop_length, List.append_nil, show MkS a 0 = [] from rfl, List.nil_append] at this
  have hl := MkS_length a xs.length
  rw [this, laws_markInt64S.l0_eq]
  ((with_reducible repeat (first | refine go_pos (by first | assumption | omega | rfl | exact B_pos (by omega)) ?_ | refine go_neg (by first | assumption | omega | decide | exact B_not (by omega)) ?_ | refine go_bind (by first | assumption) ?_ | dsimp only)); first | done | (with_reducible rfl) | simp (disch := omega) only [w64] | (show False; done))
theorem heldS (a : Int) (n : Nat) (h0 : 0 ≤ a) (h1 : a + n ≤ 4611686018427387904) : laws_heldInt64S.f (MkS a n) a = some (a + n) := by
  rw [laws_heldInt64S.f_eq]
  have hl := MkS_length a n
  have := up n (fun m => laws_heldInt64S.l0 (MkS a n) (a + (m : Int)) (m : Int)) (fun m hm => by
    have hw : wrapI ((m : Int) + 1) = ((m + 1 : Nat) : Int) := by rw [w64 (by omega) (by omega)]; omega
    have hw2 : wrapI (a + (m : Int) + 1) = a + ((m + 1 : Nat) : Int) := by rw [w64 (by omega) (by omega)]; omega
    have e := MkS_rd (a := a) (n := n) (i := m) (by omega) (by omega)
    rw [laws_heldInt64S.l0_eq, hw, hw2]
    ((with_reducible repeat (first | refine go_pos (by first | assumption | omega | rfl | exact B_pos (by omega)) ?_ | refine go_neg (by first | assumption | omega | decide | exact B_not (by omega)) ?_ | refine go_bind (by first | assumption) ?_ | dsimp only)); first | done | (with_reducible rfl) | simp (disch := omega) only [w64] | (show False; done)))
  simp only [Int.natCast_zero, Int.add_zero] at this
  rw [this, laws_heldInt64S.l0_eq]
  ((with_reducible repeat (first | refine go_pos (by first | assumption | omega | rfl | exact B_pos (by omega)) ?_ | refine go_neg (by first | assumption | omega | decide | exact B_not (by omega)) ?_ | refine go_bind (by first | assumption) ?_ | dsimp only)); first | done | (with_reducible rfl) | simp (disch := omega) only [w64] | (show False; done))
def tot : List (List Int) → Nat
  | [] => 0
  | r :: g => r.length + tot g
def MkSS (a : Int) : List (List Int) → List (List Int)
  | [] => []
  | r :: g => MkS a r.length :: MkSS (a + r.length) g
theorem tot_le (b : Nat) (g : List (List Int)) (h : ∀ r ∈ g, r.length ≤ b) : tot g ≤ g.length * b := by
  induction g with
  | nil => simp [tot]
  | cons r g ih =>
    have h1 := ih fun r hr => h r (List.mem_cons_of_mem _ hr)
    have h2 := h r (List.mem_cons_self ..)
    rw [List.length_cons, Nat.succ_mul, tot]
    omega
theorem tot_small {g : List (List Int)} (h1 : g.length ≤ 1048576) (h2 : ∀ r ∈ g, r.length ≤ 1048576) : tot g ≤ 1099511627776 :=
  Nat.le_trans (tot_le 1048576 g h2) (Nat.mul_le_mul_right 1048576 h1)
theorem markSS (g : List (List Int)) (a : Int) (h0 : 0 ≤ a) (h1 : a + tot g ≤ 4611686018427387904) (hl : g.length ≤ 4611686018427387904) : laws_markInt64SS.f g a = some (a + tot g, MkSS a g) := by
  rw [laws_markInt64SS.f_eq]
  suffices H : ∀ (g done : List (List Int)) (b : Int), 0 ≤ b → b + tot g ≤ 4611686018427387904 → done.length + g.length ≤ 4611686018427387904 → laws_markInt64SS.l0 b (done.length : Int) (done ++ g) = some (b + tot g, done ++ MkSS b g) from by
    simpa using H g [] a h0 h1 (by simpa using hl)
  intro g
  induction g with
  | nil =>
    intro done b b0 b1 hd
    rw [laws_markInt64SS.l0_eq, List.append_nil]
    have : b + ((tot [] : Nat) : Int) = b := by simp [tot]
    rw [this, MkSS, List.append_nil]
    ((with_reducible repeat (first | refine go_pos (by first | assumption | omega | rfl | exact B_pos (by omega)) ?_ | refine go_neg (by first | assumption | omega | decide | exact B_not (by omega)) ?_ | refine go_bind (by first | assumption) ?_ | dsimp only)); first | done | (with_reducible rfl) | simp (disch := omega) only [w64] | (show False; done))
  | cons r g ih =>
    intro done b b0 b1 hd
    simp only [tot, List.length_cons] at b1 hd
    have m1 : (done ++ r :: g).length = done.length + g.length + 1 := by rw [List.length_append, List.length_cons]; omega
    have hw : wrapI ((done.length : Int) + 1) = (((done ++ [MkS b r.length]).length : Nat) : Int) := by
      rw [w64 (by omega) (by omega), List.length_append, List.length_singleton]; omega
    have e : row (done ++ r :: g) (done.length : Int) = r := by simp [row, List.getD_eq_getElem?_getD]
    have e2 : (done ++ r :: g).set done.length (MkS b r.length) = (done ++ [MkS b r.length]) ++ g := by
      rw [List.set_append, if_neg (by omega), Nat.sub_self, List.set_cons_zero]; simp
    have hm := markS r b b0 (by omega)
    rw [laws_markInt64SS.l0_eq, hw, e, Int.toNat_natCast]
    (with_reducible repeat (first | refine go_pos (by first | assumption | omega | rfl | exact B_pos (by omega)) ?_ | refine go_neg (by first | assumption | omega | decide | exact B_not (by omega)) ?_ | refine go_bind (by first | assumption) ?_ | dsimp only))
    have := ih (done ++ [MkS b r.length]) (b + r.length) (by omega) (by omega) (by rw [List.length_append, List.length_singleton]; omega)
    rw [e2, this]
    simp only [MkSS, tot, List.append_assoc, List.singleton_append, Int.natCast_add, Int.add_assoc]
theorem markGroup (g : List (List Int)) (a : Int) (h0 : 0 ≤ a) (h1 : a + tot g ≤ 4611686018427387904) (hl : g.length ≤ 4611686018427387904) : laws_markGroup.f g a = some (a + tot g, MkSS a g) := by
  have := markSS g a h0 h1 hl
  rw [laws_markGroup.f_eq]; ((with_reducible repeat (first | refine go_pos (by first | assumption | omega | rfl | exact B_pos (by omega)) ?_ | refine go_neg (by first | assumption | omega | decide | exact B_not (by omega)) ?_ | refine go_bind (by first | assumption) ?_ | dsimp only)); first | done | (with_reducible rfl) | simp (disch := omega) only [w64] | (show False; done))
theorem markModule (m : Int) (xs : List Int) (a : Int) (h0 : 0 ≤ a) (h1 : a + xs.length ≤ 4611686018427387904) : laws_markModule.f m xs a = some (a + xs.length, MkS a xs.length) := by
  have := markS xs a h0 h1
  rw [laws_markModule.f_eq]; ((with_reducible repeat (first | refine go_pos (by first | assumption | omega | rfl | exact B_pos (by omega)) ?_ | refine go_neg (by first | assumption | omega | decide | exact B_not (by omega)) ?_ | refine go_bind (by first | assumption) ?_ | dsimp only)); first | done | (with_reducible rfl) | simp (disch := omega) only [w64] | (show False; done))
end Go.Proofs.Ytpppnoliogdkiaa.V
set_option linter.unusedVariables false
namespace Go.Proofs.Ytpppnoliogdkiaa.P
open Go Go.RowKit Go.Proofs.Ytpppnoliogdkiaa.D
end Go.Proofs.Ytpppnoliogdkiaa.P
set_option linter.unusedVariables false
namespace Go.Proofs.Ytpppnoliogdkiaa.P
open Go Go.RowKit Go.Proofs.Ytpppnoliogdkiaa.D
end Go.Proofs.Ytpppnoliogdkiaa.P
set_option linter.unusedVariables false
namespace Go.Proofs.Ytpppnoliogdkiaa.P
open Go Go.RowKit Go.Proofs.Ytpppnoliogdkiaa.D
end Go.Proofs.Ytpppnoliogdkiaa.P
set_option linter.unusedVariables false
namespace Go.Proofs.Ytpppnoliogdkiaa.P
open Go Go.RowKit Go.Proofs.Ytpppnoliogdkiaa.D
end Go.Proofs.Ytpppnoliogdkiaa.P
set_option linter.unusedVariables false
namespace Go.Proofs.Ytpppnoliogdkiaa.P
open Go Go.RowKit Go.Proofs.Ytpppnoliogdkiaa.D
end Go.Proofs.Ytpppnoliogdkiaa.P
set_option linter.unusedVariables false
namespace Go.Proofs.Ytpppnoliogdkiaa.P
open Go Go.RowKit Go.Proofs.Ytpppnoliogdkiaa.D
end Go.Proofs.Ytpppnoliogdkiaa.P
set_option linter.unusedVariables false
namespace Go.Proofs.Ytpppnoliogdkiaa.P
open Go Go.RowKit Go.Proofs.Ytpppnoliogdkiaa.D
end Go.Proofs.Ytpppnoliogdkiaa.P
set_option linter.unusedVariables false
namespace Go.Proofs.Ytpppnoliogdkiaa.P
open Go Go.RowKit Go.Proofs.Ytpppnoliogdkiaa.D
end Go.Proofs.Ytpppnoliogdkiaa.P
set_option linter.unusedVariables false
namespace Go.Proofs.Ytpppnoliogdkiaa.P
open Go Go.RowKit Go.Proofs.Ytpppnoliogdkiaa.D
end Go.Proofs.Ytpppnoliogdkiaa.P
set_option linter.unusedVariables false
namespace Go.Proofs.Ytpppnoliogdkiaa.P
open Go Go.RowKit Go.Proofs.Ytpppnoliogdkiaa.D
end Go.Proofs.Ytpppnoliogdkiaa.P
set_option linter.unusedVariables false
namespace Go.Proofs.Ytpppnoliogdkiaa.P
open Go Go.RowKit Go.Proofs.Ytpppnoliogdkiaa.D
end Go.Proofs.Ytpppnoliogdkiaa.P
set_option linter.unusedVariables false
namespace Go.Proofs.Ytpppnoliogdkiaa.P
open Go Go.RowKit Go.Proofs.Ytpppnoliogdkiaa.D
end Go.Proofs.Ytpppnoliogdkiaa.P
set_option linter.unusedVariables false
namespace Go.Proofs.Ytpppnoliogdkiaa.P
open Go Go.RowKit Go.Proofs.Ytpppnoliogdkiaa.D
end Go.Proofs.Ytpppnoliogdkiaa.P
set_option linter.unusedVariables false
namespace Go.Proofs.Ytpppnoliogdkiaa.P
open Go Go.RowKit Go.Proofs.Ytpppnoliogdkiaa.D
end Go.Proofs.Ytpppnoliogdkiaa.P
set_option linter.unusedVariables false
namespace Go.Proofs.Ytpppnoliogdkiaa.P
open Go Go.RowKit Go.Proofs.Ytpppnoliogdkiaa.D
end Go.Proofs.Ytpppnoliogdkiaa.P
set_option linter.unusedVariables false
namespace Go.Proofs.Ytpppnoliogdkiaa.P
open Go Go.RowKit Go.Proofs.Ytpppnoliogdkiaa.D
end Go.Proofs.Ytpppnoliogdkiaa.P
set_option linter.unusedVariables false
namespace Go.Proofs.Ytpppnoliogdkiaa.P
open Go Go.RowKit Go.Proofs.Ytpppnoliogdkiaa.D
end Go.Proofs.Ytpppnoliogdkiaa.P
set_option linter.unusedVariables false
namespace Go.Proofs.Ytpppnoliogdkiaa.P
open Go Go.RowKit Go.Proofs.Ytpppnoliogdkiaa.D
end Go.Proofs.Ytpppnoliogdkiaa.P
set_option linter.unusedVariables false
namespace Go.Proofs.Ytpppnoliogdkiaa.P
open Go Go.RowKit Go.Proofs.Ytpppnoliogdkiaa.D
end Go.Proofs.Ytpppnoliogdkiaa.P
set_option linter.unusedVariables false
namespace Go.Proofs.Ytpppnoliogdkiaa.P
open Go Go.RowKit Go.Proofs.Ytpppnoliogdkiaa.D
end Go.Proofs.Ytpppnoliogdkiaa.P
set_option linter.unusedVariables false
namespace Go.Proofs.Ytpppnoliogdkiaa.P
open Go Go.RowKit Go.Proofs.Ytpppnoliogdkiaa.D
end Go.Proofs.Ytpppnoliogdkiaa.P
set_option linter.unusedVariables false
namespace Go.Proofs.Ytpppnoliogdkiaa.P
open Go Go.RowKit Go.Proofs.Ytpppnoliogdkiaa.D
end Go.Proofs.Ytpppnoliogdkiaa.P
set_option linter.unusedVariables false
namespace Go.Proofs.Ytpppnoliogdkiaa.P
open Go Go.RowKit Go.Proofs.Ytpppnoliogdkiaa.D
end Go.Proofs.Ytpppnoliogdkiaa.P
set_option linter.unusedVariables false
namespace Go.Proofs.Ytpppnoliogdkiaa.P
open Go Go.RowKit Go.Proofs.Ytpppnoliogdkiaa.D
end Go.Proofs.Ytpppnoliogdkiaa.P
set_option linter.unusedVariables false
namespace Go.Proofs.Ytpppnoliogdkiaa.P
open Go Go.RowKit Go.Proofs.Ytpppnoliogdkiaa.D
end Go.Proofs.Ytpppnoliogdkiaa.P
set_option linter.unusedVariables false
namespace Go.Proofs.Ytpppnoliogdkiaa.P
open Go Go.RowKit Go.Proofs.Ytpppnoliogdkiaa.D
end Go.Proofs.Ytpppnoliogdkiaa.P
set_option linter.unusedVariables false
namespace Go.Proofs.Ytpppnoliogdkiaa.P
open Go Go.RowKit Go.Proofs.Ytpppnoliogdkiaa.D
end Go.Proofs.Ytpppnoliogdkiaa.P
set_option linter.unusedVariables false
namespace Go.Proofs.Ytpppnoliogdkiaa.P
open Go Go.RowKit Go.Proofs.Ytpppnoliogdkiaa.D
end Go.Proofs.Ytpppnoliogdkiaa.P
set_option linter.unusedVariables false
namespace Go.Proofs.Ytpppnoliogdkiaa.P
open Go Go.RowKit Go.Proofs.Ytpppnoliogdkiaa.D
end Go.Proofs.Ytpppnoliogdkiaa.P
set_option linter.unusedVariables false
namespace Go.Proofs.Ytpppnoliogdkiaa.P
open Go Go.RowKit Go.Proofs.Ytpppnoliogdkiaa.D
end Go.Proofs.Ytpppnoliogdkiaa.P
set_option linter.unusedVariables false
namespace Go.Proofs.Ytpppnoliogdkiaa.P
open Go Go.RowKit Go.Proofs.Ytpppnoliogdkiaa.D
end Go.Proofs.Ytpppnoliogdkiaa.P
set_option linter.unusedVariables false
namespace Go.Proofs.Ytpppnoliogdkiaa.P
open Go Go.RowKit Go.Proofs.Ytpppnoliogdkiaa.D
end Go.Proofs.Ytpppnoliogdkiaa.P
set_option linter.unusedVariables false
namespace Go.Proofs.Ytpppnoliogdkiaa.P
open Go Go.RowKit Go.Proofs.Ytpppnoliogdkiaa.D
end Go.Proofs.Ytpppnoliogdkiaa.P
set_option linter.unusedVariables false
namespace Go.Proofs.Ytpppnoliogdkiaa.P
open Go Go.RowKit Go.Proofs.Ytpppnoliogdkiaa.D
end Go.Proofs.Ytpppnoliogdkiaa.P
set_option linter.unusedVariables false
set_option linter.unusedSimpArgs false
namespace Go.Proofs.Ytpppnoliogdkiaa.D
open Go Go.RowKit
end Go.Proofs.Ytpppnoliogdkiaa.D
namespace Go.Proofs.Ytpppnoliogdkiaa.D
noncomputable def fuel : Nat := Classical.choose (⟨64, rfl⟩ : ∃ n, n = 64)
end Go.Proofs.Ytpppnoliogdkiaa.D
set_option linter.unusedVariables false
namespace Go.Proofs.Ytpppnoliogdkiaa.P
open Go Go.RowKit Go.Proofs.Ytpppnoliogdkiaa.D
end Go.Proofs.Ytpppnoliogdkiaa.P
set_option linter.unusedVariables false
namespace Go.Proofs.Ytpppnoliogdkiaa.P
open Go Go.RowKit Go.Proofs.Ytpppnoliogdkiaa.D
end Go.Proofs.Ytpppnoliogdkiaa.P
set_option linter.unusedVariables false
namespace Go.Proofs.Ytpppnoliogdkiaa.P
open Go Go.RowKit Go.Proofs.Ytpppnoliogdkiaa.D
end Go.Proofs.Ytpppnoliogdkiaa.P
set_option linter.unusedVariables false
namespace Go.Proofs.Ytpppnoliogdkiaa.P
open Go Go.RowKit Go.Proofs.Ytpppnoliogdkiaa.D
end Go.Proofs.Ytpppnoliogdkiaa.P
set_option linter.unusedVariables false
namespace Go.Proofs.Ytpppnoliogdkiaa.P
open Go Go.RowKit Go.Proofs.Ytpppnoliogdkiaa.D
end Go.Proofs.Ytpppnoliogdkiaa.P
set_option linter.unusedVariables false
namespace Go.Proofs.Ytpppnoliogdkiaa.P
open Go Go.RowKit Go.Proofs.Ytpppnoliogdkiaa.D
end Go.Proofs.Ytpppnoliogdkiaa.P
set_option linter.unusedVariables false
namespace Go.Proofs.Ytpppnoliogdkiaa.P
open Go Go.RowKit Go.Proofs.Ytpppnoliogdkiaa.D
end Go.Proofs.Ytpppnoliogdkiaa.P
set_option linter.unusedVariables false
namespace Go.Proofs.Ytpppnoliogdkiaa.P
open Go Go.RowKit Go.Proofs.Ytpppnoliogdkiaa.D
end Go.Proofs.Ytpppnoliogdkiaa.P
set_option linter.unusedVariables false
namespace Go.Proofs.Ytpppnoliogdkiaa.P
open Go Go.RowKit Go.Proofs.Ytpppnoliogdkiaa.D
end Go.Proofs.Ytpppnoliogdkiaa.P
set_option linter.unusedVariables false
namespace Go.Proofs.Ytpppnoliogdkiaa.P
open Go Go.RowKit Go.Proofs.Ytpppnoliogdkiaa.D
end Go.Proofs.Ytpppnoliogdkiaa.P
set_option linter.unusedVariables false
namespace Go.Proofs.Ytpppnoliogdkiaa.P
open Go Go.RowKit Go.Proofs.Ytpppnoliogdkiaa.D
end Go.Proofs.Ytpppnoliogdkiaa.P
set_option linter.unusedVariables false
namespace Go.Proofs.Ytpppnoliogdkiaa.P
open Go Go.RowKit Go.Proofs.Ytpppnoliogdkiaa.D
end Go.Proofs.Ytpppnoliogdkiaa.P
set_option linter.unusedVariables false
namespace Go.Proofs.Ytpppnoliogdkiaa.P
open Go Go.RowKit Go.Proofs.Ytpppnoliogdkiaa.D
end Go.Proofs.Ytpppnoliogdkiaa.P
set_option linter.unusedVariables false
namespace Go.Proofs.Ytpppnoliogdkiaa.P
open Go Go.RowKit Go.Proofs.Ytpppnoliogdkiaa.D
end Go.Proofs.Ytpppnoliogdkiaa.P
set_option linter.unusedVariables false
namespace Go.Proofs.Ytpppnoliogdkiaa.P
open Go Go.RowKit Go.Proofs.Ytpppnoliogdkiaa.D
end Go.Proofs.Ytpppnoliogdkiaa.P
set_option linter.unusedVariables false
namespace Go.Proofs.Ytpppnoliogdkiaa.P
open Go Go.RowKit Go.Proofs.Ytpppnoliogdkiaa.D
end Go.Proofs.Ytpppnoliogdkiaa.P
set_option linter.unusedVariables false
namespace Go.Proofs.Ytpppnoliogdkiaa.P
open Go Go.RowKit Go.Proofs.Ytpppnoliogdkiaa.D
end Go.Proofs.Ytpppnoliogdkiaa.P
set_option linter.unusedVariables false
namespace Go.Proofs.Ytpppnoliogdkiaa.P
open Go Go.RowKit Go.Proofs.Ytpppnoliogdkiaa.D
end Go.Proofs.Ytpppnoliogdkiaa.P
set_option linter.unusedVariables false
namespace Go.Proofs.Ytpppnoliogdkiaa.P
open Go Go.RowKit Go.Proofs.Ytpppnoliogdkiaa.D
end Go.Proofs.Ytpppnoliogdkiaa.P
set_option linter.unusedVariables false
namespace Go.Proofs.Ytpppnoliogdkiaa.P
open Go Go.RowKit Go.Proofs.Ytpppnoliogdkiaa.D
end Go.Proofs.Ytpppnoliogdkiaa.P
set_option linter.unusedVariables false
namespace Go.Proofs.Ytpppnoliogdkiaa.P
open Go Go.RowKit Go.Proofs.Ytpppnoliogdkiaa.D
end Go.Proofs.Ytpppnoliogdkiaa.P
set_option linter.unusedVariables false
namespace Go.Proofs.Ytpppnoliogdkiaa.P
open Go Go.RowKit Go.Proofs.Ytpppnoliogdkiaa.D
end Go.Proofs.Ytpppnoliogdkiaa.P
set_option linter.unusedVariables false
namespace Go.Proofs.Ytpppnoliogdkiaa.P
open Go Go.RowKit Go.Proofs.Ytpppnoliogdkiaa.D
end Go.Proofs.Ytpppnoliogdkiaa.P
set_option linter.unusedVariables false
namespace Go.Proofs.Ytpppnoliogdkiaa.P
open Go Go.RowKit Go.Proofs.Ytpppnoliogdkiaa.D
end Go.Proofs.Ytpppnoliogdkiaa.P
set_option linter.unusedVariables false
namespace Go.Proofs.Ytpppnoliogdkiaa.P
open Go Go.RowKit Go.Proofs.Ytpppnoliogdkiaa.D
end Go.Proofs.Ytpppnoliogdkiaa.P
set_option linter.unusedVariables false
namespace Go.Proofs.Ytpppnoliogdkiaa.P
open Go Go.RowKit Go.Proofs.Ytpppnoliogdkiaa.D
end Go.Proofs.Ytpppnoliogdkiaa.P
set_option linter.unusedVariables false
namespace Go.Proofs.Ytpppnoliogdkiaa.P
open Go Go.RowKit Go.Proofs.Ytpppnoliogdkiaa.D
end Go.Proofs.Ytpppnoliogdkiaa.P
set_option linter.unusedVariables false
namespace Go.Proofs.Ytpppnoliogdkiaa.P
open Go Go.RowKit Go.Proofs.Ytpppnoliogdkiaa.D
end Go.Proofs.Ytpppnoliogdkiaa.P
set_option linter.unusedVariables false
namespace Go.Proofs.Ytpppnoliogdkiaa.P
open Go Go.RowKit Go.Proofs.Ytpppnoliogdkiaa.D
end Go.Proofs.Ytpppnoliogdkiaa.P
set_option linter.unusedVariables false
namespace Go.Proofs.Ytpppnoliogdkiaa.P
open Go Go.RowKit Go.Proofs.Ytpppnoliogdkiaa.D
end Go.Proofs.Ytpppnoliogdkiaa.P
set_option linter.unusedVariables false
namespace Go.Proofs.Ytpppnoliogdkiaa.P
open Go Go.RowKit Go.Proofs.Ytpppnoliogdkiaa.D
end Go.Proofs.Ytpppnoliogdkiaa.P
set_option linter.unusedVariables false
set_option linter.unusedSimpArgs false
set_option maxHeartbeats 2000000
set_option maxRecDepth 20000
namespace Go.Proofs.Ytpppnoliogdkiaa.V
open Go.RowKit Go.Proofs.Ytpppnoliogdkiaa.D Go.Proofs.Ytpppnoliogdkiaa.P
theorem areIn (n : Int) (xs : List Int) (hl : xs.length ≤ maxLen) : impl_areIn.f n xs = some (B (AllIn n xs)) := by
  have hm := maxLen_le
  rw [impl_areIn.f_eq]
  refine scanT xs.length (fun i => impl_areIn.l0 n xs (xs.length : Int) i) (fun i => 0 ≤ rd xs i ∧ rd xs i < n) (fun i h0 h1 _ => ?_) (fun _ => ?_)
  · refine ⟨fun h => ?_, fun h => ?_⟩ <;> (rw [impl_areIn.l0_eq])
    · ((with_reducible repeat (first | refine go_pos (by first | assumption | omega | rfl | exact B_pos (by omega)) ?_ | refine go_neg (by first | assumption | omega | decide | exact B_not (by omega)) ?_ | refine go_bind (by first | assumption) ?_ | dsimp only)); first | done | (with_reducible rfl) | simp (disch := omega) only [w64] | (show False; done))
    · by_cases h2 : rd xs i < 0 <;> ((with_reducible repeat (first | refine go_pos (by first | assumption | omega | rfl | exact B_pos (by omega)) ?_ | refine go_neg (by first | assumption | omega | decide | exact B_not (by omega)) ?_ | refine go_bind (by first | assumption) ?_ | dsimp only)); first | done | (with_reducible rfl) | simp (disch := omega) only [w64] | (show False; done))
  · (rw [impl_areIn.l0_eq])
    ((with_reducible repeat (first | refine go_pos (by first | assumption | omega | rfl | exact B_pos (by omega)) ?_ | refine go_neg (by first | assumption | omega | decide | exact B_not (by omega)) ?_ | refine go_bind (by first | assumption) ?_ | dsimp only)); first | done | (with_reducible rfl) | simp (disch := omega) only [w64] | (show False; done))
theorem index_ (xs : List Int) (x : Int) (hl : xs.length ≤ maxLen) :
    ((∀ i : Int, 0 ≤ i → i < xs.length → rd xs i ≠ x) ∧ slices_Index_int64.f xs x = some (-1)) ∨
    ∃ i : Int, 0 ≤ i ∧ i < xs.length ∧ (∀ j : Int, 0 ≤ j → j < i → rd xs j ≠ x) ∧ rd xs i = x ∧ slices_Index_int64.f xs x = some i := by
  have hm := maxLen_le
  rw [slices_Index_int64.f_eq]
  suffices H : ∀ d m : Nat, m + d = xs.length → (∀ j : Int, 0 ≤ j → j < m → rd xs j ≠ x) →
      ((∀ i : Int, 0 ≤ i → i < xs.length → rd xs i ≠ x) ∧ slices_Index_int64.l0 xs x (xs.length : Int) m = some (-1)) ∨
      ∃ i : Int, 0 ≤ i ∧ i < xs.length ∧ (∀ j : Int, 0 ≤ j → j < i → rd xs j ≠ x) ∧ rd xs i = x ∧ slices_Index_int64.l0 xs x (xs.length : Int) m = some i from
    H xs.length 0 (by omega) (fun j h0 h1 => by omega)
  intro d
  induction d with
  | zero =>
    intro m hd hp
    obtain rfl : m = xs.length := by omega
    refine .inl ⟨hp, ?_⟩
    (rw [slices_Index_int64.l0_eq])
    ((with_reducible repeat (first | refine go_pos (by first | assumption | omega | rfl | exact B_pos (by omega)) ?_ | refine go_neg (by first | assumption | omega | decide | exact B_not (by omega)) ?_ | refine go_bind (by first | assumption) ?_ | dsimp only)); first | done | (with_reducible rfl) | simp (disch := omega) only [w64] | (show False; done))
  | succ d ih =>
    intro m hd hp
    by_cases h2 : x = rd xs m
    · refine .inr ⟨m, by omega, by omega, hp, h2.symm, ?_⟩
      (rw [slices_Index_int64.l0_eq])
      ((with_reducible repeat (first | refine go_pos (by first | assumption | omega | rfl | exact B_pos (by omega)) ?_ | refine go_neg (by first | assumption | omega | decide | exact B_not (by omega)) ?_ | refine go_bind (by first | assumption) ?_ | dsimp only)); first | done | (with_reducible rfl) | simp (disch := omega) only [w64] | (show False; done))
    · have st : slices_Index_int64.l0 xs x (xs.length : Int) m = slices_Index_int64.l0 xs x (xs.length : Int) ((m + 1 : Nat) : Int) := by
        rw [Int.natCast_add, Int.natCast_one]
        (rw [slices_Index_int64.l0_eq])
        ((with_reducible repeat (first | refine go_pos (by first | assumption | omega | rfl | exact B_pos (by omega)) ?_ | refine go_neg (by first | assumption | omega | decide | exact B_not (by omega)) ?_ | refine go_bind (by first | assumption) ?_ | dsimp only)); first | done | (with_reducible rfl) | simp (disch := omega) only [w64] | (show False; done))
      rw [st]
      refine ih (m + 1) (by omega) fun j k0 k1 => ?_
      by_cases e : j = m
      · rw [e]; exact fun h => h2 h.symm
      · exact hp j k0 (by omega)
theorem contains_ (xs : List Int) (x : Int) (hl : xs.length ≤ maxLen) : slices_Contains_int64.f xs x = some (B (∃ i : Int, 0 ≤ i ∧ i < xs.length ∧ rd xs i = x)) := by
  rw [slices_Contains_int64.f_eq]
  rcases index_ xs x hl with ⟨h, e⟩ | ⟨i, h0, h1, _, h2, e⟩
  · rw [e, B_neg fun ⟨i, h0, h1, h2⟩ => h i h0 h1 h2]; rfl
  · rw [e, B_pos ⟨i, h0, h1, h2⟩]; simp [h0]
structure Grp (g : List (List Int)) : Prop where
  n1 : 1 ≤ g.length
  n8 : g.length ≤ 8
  row : ∀ a : Int, 0 ≤ a → a < g.length → (row g a).length = g.length
  ent : ∀ a b : Int, 0 ≤ a → a < g.length → 0 ≤ b → b < g.length → 0 ≤ T g a b ∧ T g a b < g.length
  one : ∀ a : Int, 0 ≤ a → a < g.length → T g 0 a = a
  one' : ∀ a : Int, 0 ≤ a → a < g.length → T g a 0 = a
  assoc : ∀ a b c : Int, 0 ≤ a → a < g.length → 0 ≤ b → b < g.length → 0 ≤ c → c < g.length → T g (T g a b) c = T g a (T g b c)
  inv : ∀ a : Int, 0 ≤ a → a < g.length → ∃ b : Int, 0 ≤ b ∧ b < g.length ∧ T g a b = 0
theorem Grp.inv2 {g : List (List Int)} (h : Grp g) {a : Int} (h0 : 0 ≤ a) (h1 : a < g.length) : ∃ b : Int, 0 ≤ b ∧ b < g.length ∧ T g a b = 0 ∧ T g b a = 0 := by
  obtain ⟨b, b0, b1, hb⟩ := h.inv a h0 h1
  obtain ⟨c, c0, c1, hc⟩ := h.inv b b0 b1
  refine ⟨b, b0, b1, hb, ?_⟩
  have hac : c = a := by
    have e1 := h.assoc a b c h0 h1 b0 b1 c0 c1
    rw [hb, hc, h.one c c0 c1, h.one' a h0 h1] at e1
    exact e1
  rw [← hac]; exact hc
theorem rows_len {g : List (List Int)} (hr : ∀ r ∈ g, r.length ≤ maxLen) {a : Int} (h0 : 0 ≤ a) (h1 : a < g.length) : (row g a).length ≤ maxLen := hr _ (row_mem h0 h1)
def Tab (g : List (List Int)) : Prop := ∀ a : Int, 0 ≤ a → a < g.length → (row g a).length = g.length ∧ AllIn g.length (row g a)
def Law (g : List (List Int)) (a : Int) : Prop := T g 0 a = a ∧ T g a 0 = a ∧ (∃ b : Int, 0 ≤ b ∧ b < g.length ∧ T g a b = 0) ∧ ∀ b : Int, 0 ≤ b → b < g.length → ∀ c : Int, 0 ≤ c → c < g.length → T g (T g a b) c = T g a (T g b c)
theorem grp_iff (g : List (List Int)) : Grp g ↔ (1 ≤ g.length ∧ g.length ≤ 8) ∧ Tab g ∧ ∀ a : Int, 0 ≤ a → a < g.length → Law g a := by
  constructor
  · intro h
    refine ⟨⟨h.n1, h.n8⟩, fun a h0 h1 => ⟨h.row a h0 h1, fun i i0 i1 => ?_⟩, fun a h0 h1 => ⟨h.one a h0 h1, h.one' a h0 h1, h.inv a h0 h1, fun b b0 b1 c c0 c1 => h.assoc a b c h0 h1 b0 b1 c0 c1⟩⟩
    have := h.row a h0 h1
    exact h.ent a i h0 h1 i0 (by omega)
  · rintro ⟨⟨h1, h8⟩, ht, hl⟩
    refine ⟨h1, h8, fun a a0 a1 => (ht a a0 a1).1, fun a b a0 a1 b0 b1 => ?_, fun a a0 a1 => (hl a a0 a1).1, fun a a0 a1 => (hl a a0 a1).2.1, fun a b c a0 a1 b0 b1 c0 c1 => (hl a a0 a1).2.2.2 b b0 b1 c c0 c1, fun a a0 a1 => (hl a a0 a1).2.2.1⟩
    have := (ht a a0 a1).1
    exact (ht a a0 a1).2 b b0 (by omega)
theorem isGroup (g : List (List Int)) (hl : g.length ≤ maxLen) (hr : ∀ r ∈ g, r.length ≤ maxLen) : impl_IsGroup.f g = some (B (Grp g)) := by
  have hm := maxLen_le
  rw [B_congr (grp_iff g)]
  (rw [impl_IsGroup.f_eq])
  by_cases c1 : (g.length : Int) < 1 ∨ (g.length : Int) > 8
  · rw [B_neg fun h => by omega]
    by_cases c2 : (g.length : Int) < 1 <;> ((with_reducible repeat (first | refine go_pos (by first | assumption | omega | rfl | exact B_pos (by omega)) ?_ | refine go_neg (by first | assumption | omega | decide | exact B_not (by omega)) ?_ | refine go_bind (by first | assumption | exact impl_order.f_eq _) ?_ | dsimp only)); first | done | (with_reducible rfl) | simp (disch := omega) only [w64] | (show False; done))
  rw [B_congr (show ((1 ≤ g.length ∧ g.length ≤ 8) ∧ Tab g ∧ ∀ a : Int, 0 ≤ a → a < g.length → Law g a) ↔ (Tab g ∧ ∀ a : Int, 0 ≤ a → a < g.length → Law g a) from ⟨fun h => h.2, fun h => ⟨by omega, h⟩⟩)]
  (with_reducible repeat (first | refine go_pos (by first | assumption | omega | rfl | exact B_pos (by omega)) ?_ | refine go_neg (by first | assumption | omega | decide | exact B_not (by omega)) ?_ | refine go_bind (by first | assumption | exact impl_order.f_eq _) ?_ | dsimp only))
  refine scanB g.length (fun i => impl_IsGroup.l0 (g.length : Int) g (g.length : Int) i g) (fun a => (row g a).length = g.length ∧ AllIn g.length (row g a)) _ (fun i h0 h1 _ => ?_) (fun ht => ?_)
  · have ha := areIn g.length (row g i) (rows_len hr h0 h1)
    refine ⟨fun h => ?_, fun h => ?_⟩ <;> (rw [impl_IsGroup.l0_eq])
    · have h1 := h.1
      rw [B_pos h.2] at ha
      ((with_reducible repeat (first | refine go_pos (by first | assumption | omega | rfl | exact B_pos (by omega)) ?_ | refine go_neg (by first | assumption | omega | decide | exact B_not (by omega)) ?_ | refine go_bind (by first | assumption) ?_ | dsimp only)); first | done | (with_reducible rfl) | simp (disch := omega) only [w64] | (show False; done))
    · by_cases h2 : ((row g i).length : Int) = g.length
      · rw [B_neg fun h3 => h ⟨by omega, h3⟩] at ha
        ((with_reducible repeat (first | refine go_pos (by first | assumption | omega | rfl | exact B_pos (by omega)) ?_ | refine go_neg (by first | assumption | omega | decide | exact B_not (by omega)) ?_ | refine go_bind (by first | assumption) ?_ | dsimp only)); first | done | (with_reducible rfl) | simp (disch := omega) only [w64] | (show False; done))
      · ((with_reducible repeat (first | refine go_pos (by first | assumption | omega | rfl | exact B_pos (by omega)) ?_ | refine go_neg (by first | assumption | omega | decide | exact B_not (by omega)) ?_ | refine go_bind (by first | assumption) ?_ | dsimp only)); first | done | (with_reducible rfl) | simp (disch := omega) only [w64] | (show False; done))
  (rw [impl_IsGroup.l0_eq])
  (with_reducible repeat (first | refine go_pos (by first | assumption | omega | rfl | exact B_pos (by omega)) ?_ | refine go_neg (by first | assumption | omega | decide | exact B_not (by omega)) ?_ | refine go_bind (by first | assumption) ?_ | dsimp only))
  refine scanT g.length (fun i => impl_IsGroup.l1 (g.length : Int) (g.length : Int) i g) (Law g) (fun a a0 a1 _ => ?_) (fun _ => ?_)
  rotate_left
  · (rw [impl_IsGroup.l1_eq])
    ((with_reducible repeat (first | refine go_pos (by first | assumption | omega | rfl | exact B_pos (by omega)) ?_ | refine go_neg (by first | assumption | omega | decide | exact B_not (by omega)) ?_ | refine go_bind (by first | assumption) ?_ | dsimp only)); first | done | (with_reducible rfl) | simp (disch := omega) only [w64] | (show False; done))
  have hlen : ∀ x : Int, 0 ≤ x → x < g.length → ((row g x).length : Int) = g.length := fun x x0 x1 => by rw [(ht x x0 x1).1]
  have hent : ∀ x y : Int, 0 ≤ x → x < g.length → 0 ≤ y → y < g.length → 0 ≤ T g x y ∧ T g x y < g.length := fun x y x0 x1 y0 y1 => (ht x x0 x1).2 y y0 (by rw [hlen x x0 x1]; exact y1)
  have l0 := hlen 0 (by omega) (by omega)
  have la := hlen a a0 a1
  have hc := contains_ (row g a) 0 (rows_len hr a0 a1)
  rw [B_congr (show (∃ i : Int, 0 ≤ i ∧ i < (row g a).length ∧ rd (row g a) i = 0) ↔ ∃ b : Int, 0 ≤ b ∧ b < g.length ∧ T g a b = 0 by rw [la]; exact Iff.rfl)] at hc
  by_cases h2 : T g 0 a = a
  rotate_left
  · refine ⟨fun h => absurd h.1 h2, fun _ => ?_⟩
    (rw [impl_IsGroup.l1_eq])
    ((with_reducible repeat (first | refine go_pos (by first | assumption | omega | rfl | exact B_pos (by omega)) ?_ | refine go_neg (by first | assumption | omega | decide | exact B_not (by omega)) ?_ | refine go_bind (by first | assumption) ?_ | dsimp only)); first | done | (with_reducible rfl) | simp (disch := omega) only [w64] | (show False; done))
  by_cases h3 : T g a 0 = a
  rotate_left
  · refine ⟨fun h => absurd h.2.1 h3, fun _ => ?_⟩
    (rw [impl_IsGroup.l1_eq])
    ((with_reducible repeat (first | refine go_pos (by first | assumption | omega | rfl | exact B_pos (by omega)) ?_ | refine go_neg (by first | assumption | omega | decide | exact B_not (by omega)) ?_ | refine go_bind (by first | assumption) ?_ | dsimp only)); first | done | (with_reducible rfl) | simp (disch := omega) only [w64] | (show False; done))
  by_cases h4 : ∃ b : Int, 0 ≤ b ∧ b < g.length ∧ T g a b = 0
  rotate_left
  · refine ⟨fun h => absurd h.2.2.1 h4, fun _ => ?_⟩
    rw [B_neg h4] at hc
    (rw [impl_IsGroup.l1_eq])
    ((with_reducible repeat (first | refine go_pos (by first | assumption | omega | rfl | exact B_pos (by omega)) ?_ | refine go_neg (by first | assumption | omega | decide | exact B_not (by omega)) ?_ | refine go_bind (by first | assumption) ?_ | dsimp only)); first | done | (with_reducible rfl) | simp (disch := omega) only [w64] | (show False; done))
  rw [B_pos h4] at hc
  have inner := scanI g.length (fun b => impl_IsGroup.l2 (g.length : Int) a (g.length : Int) a (g.length : Int) b g) (fun b => ∀ c : Int, 0 ≤ c → c < g.length → T g (T g a b) c = T g a (T g b c)) (some false) (impl_IsGroup.l1 (g.length : Int) (g.length : Int) (a + 1) g)
    (fun b b0 b1 _ => by
      obtain ⟨e0, e1⟩ := hent a b a0 a1 b0 b1
      have le := hlen _ e0 e1
      have lb := hlen b b0 b1
      have := scanI g.length (fun c => impl_IsGroup.l3 (g.length : Int) a b (g.length : Int) a (g.length : Int) b (g.length : Int) c g) (fun c => T g (T g a b) c = T g a (T g b c)) (some false) (impl_IsGroup.l2 (g.length : Int) a (g.length : Int) a (g.length : Int) (b + 1) g)
        (fun c c0 c1 _ => by
          obtain ⟨f0, f1⟩ := hent b c b0 b1 c0 c1
          refine ⟨fun h => ?_, fun h => ?_⟩ <;> (rw [impl_IsGroup.l3_eq]) <;> ((with_reducible repeat (first | refine go_pos (by first | assumption | omega | rfl | exact B_pos (by omega)) ?_ | refine go_neg (by first | assumption | omega | decide | exact B_not (by omega)) ?_ | refine go_bind (by first | assumption) ?_ | dsimp only)); first | done | (with_reducible rfl) | simp (disch := omega) only [w64] | (show False; done))) (fun _ => by (rw [impl_IsGroup.l3_eq]); ((with_reducible repeat (first | refine go_pos (by first | assumption | omega | rfl | exact B_pos (by omega)) ?_ | refine go_neg (by first | assumption | omega | decide | exact B_not (by omega)) ?_ | refine go_bind (by first | assumption) ?_ | dsimp only)); first | done | (with_reducible rfl) | simp (disch := omega) only [w64] | (show False; done)))
      refine ⟨fun h => ?_, fun h => ?_⟩ <;> (rw [impl_IsGroup.l2_eq])
      · (with_reducible repeat (first | refine go_pos (by first | assumption | omega | rfl | exact B_pos (by omega)) ?_ | refine go_neg (by first | assumption | omega | decide | exact B_not (by omega)) ?_ | refine go_bind (by first | assumption) ?_ | dsimp only))
        exact this.1 h
      · (with_reducible repeat (first | refine go_pos (by first | assumption | omega | rfl | exact B_pos (by omega)) ?_ | refine go_neg (by first | assumption | omega | decide | exact B_not (by omega)) ?_ | refine go_bind (by first | assumption) ?_ | dsimp only))
        exact this.2 h) (fun _ => by (rw [impl_IsGroup.l2_eq]); ((with_reducible repeat (first | refine go_pos (by first | assumption | omega | rfl | exact B_pos (by omega)) ?_ | refine go_neg (by first | assumption | omega | decide | exact B_not (by omega)) ?_ | refine go_bind (by first | assumption) ?_ | dsimp only)); first | done | (with_reducible rfl) | simp (disch := omega) only [w64] | (show False; done)))
  refine ⟨fun h => ?_, fun h => ?_⟩ <;> (rw [impl_IsGroup.l1_eq]) <;> (with_reducible repeat (first | refine go_pos (by first | assumption | omega | rfl | exact B_pos (by omega)) ?_ | refine go_neg (by first | assumption | omega | decide | exact B_not (by omega)) ?_ | refine go_bind (by first | assumption) ?_ | dsimp only))
  · exact inner.1 h.2.2.2
  · exact inner.2 fun k => h ⟨h2, h3, h4, k⟩
end Go.Proofs.Ytpppnoliogdkiaa.V
