/- What the proof of the law FactorSetOfChoice stands on, part 6: words, each Go function's Lean function, and that the Go code comes to its answers; no condition. (Packed by wip/myprint/pack.py out of what the kit's printer wrote, its words among it, partly by our patches of it, and out of texts of this session.) -/
import Derived.ChangeSlices
import Derived.ChangeSame
import Derived.Deep.Matrix
import Derived.Lib.SmallJoins
import Derived.Test.YtlkdhmijgpadaaaKFactorSetOfChoice3
import Derived.Test.YtlkdhmijgpadaaaKFactorSetOfChoice4
import Derived.Test.YtlkdhmijgpadaaaKFactorSetOfChoice5
set_option linter.unusedVariables false
namespace Go.Proofs.Ytlkdhmijgpadaaa.D
open Go Go.RowKit
theorem valid_view {P : Program} {g : FuncId} {c : Con} (hv : Valid P g c) {x : lsd (flats c.ins)} {r : c.R} (hx : c.f x = some r) {w : World} {vs : List Value} (ha : ASRs P (fun _ => False) (fun k => k < w.heap.size) w c.ins x vs (fun _ => False)) :
    Calls P g vs.toArray w fun e w' => ∃ u, e = .returned u ∧ Below w.heap.size w w' ∧ ∃ Z' Fo us, u = outV us ∧ ASRs P (fun _ => False) Z' w' c.outs (c.dec r).1 us Fo := by
  refine (hv.2 x r hx (fun k => k < w.heap.size) (fun _ => False) (fun _ => False) w vs ha (fun _ h => h.elim) (fun _ h => h) (fun _ h => h.elim)).mono ?_
  rintro e w' ⟨u, rfl, Z', Fi, Fo, hp⟩
  obtain ⟨us, hu, ho⟩ := hp.out
  exact ⟨u, rfl, ⟨hp.os, hp.tape, hp.output, hp.size, fun k hk => hp.old k hk fun h => h⟩, Z', Fo, us, hu, ho⟩
theorem cell_lt {w : World} {a : Addr} {v : Value} (h : w.cell? a = some v) : a.block < w.heap.size := by
  unfold World.cell? at h
  cases hb : w.heap[a.block]? with
  | none => rw [hb] at h; cases h
  | some o => exact (Array.getElem?_eq_some_iff.1 hb).1
theorem view_raw {α : Type} {w : World} {sz : Nat} {R : α → List Value → Prop} {A : Option Addr} {c : Nat} {xs : List α} (hz : 0 < sz) (hc : xs.length ≤ c) (hm : xs.length ≤ 9223372036854775807)
    (h : 0 < xs.length → ∃ ad, A = some ad ∧ ∀ (j : Nat) (p : α), xs[j]? = some p → ∃ cs, cs.length = sz ∧ R p cs ∧ ∀ (i : Nat) (u : Value), cs[i]? = some u → w.cell? (ad.add (j * sz + i)) = some u) : ViewRep (fun k => k < w.heap.size) w sz R A c xs := by
  refine ⟨hc, hm, fun hl => ?_⟩
  obtain ⟨ad, rfl, hcell⟩ := h hl
  refine ⟨ad, rfl, ?_, hcell⟩
  obtain ⟨cs, h1, h2, h3⟩ := hcell 0 xs[0] (List.getElem?_eq_getElem hl)
  have := cell_lt (h3 0 cs[0] (List.getElem?_eq_getElem (by omega)))
  rwa [add_block] at this
theorem law_true {P : Program} {g : FuncId} {c : Con} (hv : Valid P g c) {x : lsd (flats c.ins)} {r : c.R} (hx : c.f x = some r) {w : World} {vs : List Value} (ha : ASRs P (fun _ => False) (fun k => k < w.heap.size) w c.ins x vs (fun _ => False)) (ho : c.outs = [.one (.v .bool)]) (hr : ∀ y : lsd (flats [.one (.v .bool)]), HEq y (c.dec r).1 → y.1 = true) :
    Calls P g vs.toArray w fun e w' => e = .returned (.bool true) ∧ Below w.heap.size w w' := by
  refine (valid_view hv hx ha).mono ?_
  rintro e w' ⟨u, rfl, hb, Z', Fo, us, rfl, hh⟩
  refine ⟨?_, hb⟩
  obtain ⟨ins, outs, R, f, dec⟩ := c
  have ho : outs = [.one (.v .bool)] := ho
  subst ho
  obtain ⟨v, vs', F0, F1, rfl, h1, h2, _⟩ := hh
  cases h2
  have h1 : [v] = [.bool (dec r).1.1] := h1
  have hb1 : (dec r).1.1 = true := hr _ HEq.rfl
  cases h1
  rw [hb1]
  rfl
end Go.Proofs.Ytlkdhmijgpadaaa.D
set_option linter.unusedVariables false
namespace Go.Proofs.Ytlkdhmijgpadaaa.D
open Go Go.RowKit Go.ChangeShapes Go.WideShapes Go.Joins Go.Deep
section
variable {H : Type} {enc : TypeId × Value → H} {P : Program} {w : World} {base : Nat} {held : Bool}
abbrev Zw (w : World) : Nat → Prop := fun k => k < w.heap.size
abbrev No : Nat → Prop := fun _ => False
theorem rep_ints {q : TypeId} (hn : nf q = false) {k : IntKind} {a : Addr} {len cap : Nat} {zs : List Int} (hl : len ≤ cap) (hm : cap ≤ maxLen) (hz : zs.length = cap) (hc : ∀ i, i < zs.length → w.cell? (a.add i) = some (.int k (zs.getD i 0))) (hw : ∀ n ∈ zs, (Lit.int k n).wf = true) :
    ∃ l : List Int, len = l.length ∧ l.length ≤ maxLen ∧ (∀ x ∈ l, (Lit.int k x).wf = true) ∧ Rep (Zw w) w false (.sl q (.int k)) l [.slice (some a) len cap] No := by
  have hlen : (zs.take len).length = len := by rw [List.length_take]; omega
  refine ⟨zs.take len, hlen.symm, by omega, fun x hx => hw x (List.mem_of_mem_take hx), some a, cap, by rw [hlen], ?_, fun h => by rw [hn] at h; cases h⟩
  refine view_raw Nat.one_pos (by show (zs.take len).length ≤ _; omega) (by show (zs.take len).length ≤ _; simp only [maxLen] at hm; omega) fun _ => ⟨a, rfl, fun j p hj => ?_⟩
  have hj : (zs.take len)[j]? = some p := hj
  have hjl : j < len := by
    have := (List.getElem?_eq_some_iff.1 hj).1
    omega
  refine ⟨[.int k p], rfl, rfl, fun i u hu => ?_⟩
  cases i with
  | zero =>
    simp only [List.getElem?_cons_zero, Option.some.injEq] at hu
    subst hu
    have h := hc j (by omega)
    have hp : zs.getD j 0 = p := by
      rw [List.getElem?_take] at hj
      simp only [hjl, if_true] at hj
      simp [List.getD, hj]
    rw [hp] at h
    simpa [Ty.size] using h
  | succ i => simp at hu
theorem rep_none {q : TypeId} {t : Ty} : Rep (Zw w) w false (.sl q t) ([] : List t.den) [.slice none 0 0] No :=
  ⟨none, 0, rfl, ⟨Nat.le_refl _, Nat.zero_le _, fun h => absurd h (by simp)⟩, fun _ _ => rfl⟩
theorem come_rows {t e q : TypeId} {k : IntKind} {fuel : Nat} {v : Value} {x : DataW H × List MemPlace} (ht : P.underlying t = some (.slice e)) (he : P.underlying e = some (.slice q)) (hq : P.underlying q = some (.int k))
    (ce : P.cellsOf e = 1) (cq : P.cellsOf q = 1) (h : DataW.trod enc P w base (fun _ => true) held fuel t [v] = some x) (hne : nf e = false := by rfl) (hn : nf q = false := by rfl) :
    ∃ l : List (List Int), l.length ≤ maxLen ∧ (∀ r ∈ l, r.length ≤ maxLen ∧ ∀ x ∈ r, (Lit.int k x).wf = true) ∧ Rep (Zw w) w false (.sl e (.sl q (.int k))) l [v] No := by
  rcases open_int_rows ht he hq ce cq h with ⟨hcs, _⟩ | ⟨a, len, cap, A, L, C, Z, hcs, _, hl, hm, _, hr⟩
  · refine ⟨[], by simp, by simp, ?_⟩
    rw [hcs]
    exact rep_none
  · have each : ∀ r, r < cap → ∃ y : List Int, y.length ≤ maxLen ∧ (∀ x ∈ y, (Lit.int k x).wf = true) ∧ Rep (Zw w) w false (.sl q (.int k)) y [.slice (A r) (L r) (C r)] No := by
      intro r hrc
      obtain ⟨_, h1, h2, h3, h4, h5, h6⟩ := hr r hrc
      cases hA : A r with
      | none =>
        have hC := h5 hA
        refine ⟨[], by simp, by simp, ?_⟩
        have hL : L r = 0 := by omega
        rw [hL, hC]
        exact rep_none
      | some a' =>
        obtain ⟨l, _, h7, h8, h9⟩ := rep_ints (q := q) hn h1 h2 h3 (fun i hi => (h6 a' hA).2 i (by omega)) h4
        exact ⟨l, h7, h8, h9⟩
    obtain ⟨Y, hY⟩ := choose_lt each
    have hlen : ((List.range len).map Y).length = len := by simp
    refine ⟨(List.range len).map Y, by omega, fun r hr' => ?_, ?_⟩
    · obtain ⟨j, hj, rfl⟩ := List.mem_map.1 hr'
      obtain ⟨h1, h2, _⟩ := hY j (by have := List.mem_range.1 hj; omega)
      exact ⟨h1, h2⟩
    · rw [hcs]
      refine ⟨some a, cap, by rw [hlen], ?_, fun h => by rw [hne] at h; cases h⟩
      refine view_raw Nat.one_pos (by show ((List.range len).map Y).length ≤ _; omega) (by show ((List.range len).map Y).length ≤ _; simp only [maxLen] at hm; omega) fun _ => ⟨a, rfl, fun j p hj => ?_⟩
      have hj : ((List.range len).map Y)[j]? = some p := hj
      have hjl : j < len := by
        have := (List.getElem?_eq_some_iff.1 hj).1
        omega
      have hp : p = Y j := by simpa [hjl] using hj.symm
      subst hp
      obtain ⟨h1, h2, h3⟩ := hY j (by omega)
      refine ⟨[.slice (A j) (L j) (C j)], rfl, h3, fun i u hu => ?_⟩
      cases i with
      | zero =>
        simp only [List.getElem?_cons_zero, Option.some.injEq] at hu
        subst hu
        have := (hr j (by omega)).1
        simpa [Ty.size] using this
      | succ i => simp at hu
theorem open_agg1 {r : Reach} {b0 : Nat} {t : TypeId} {f0 : Field} {v : Value} {d : DataW H} {p : List MemPlace} {spare : Nat → Bool} (hs : P.underlying t = some (.struct #[f0])) (hone : oneCellFields P #[f0] = true) (hC : P.cellsOf t = 1)
    (hv : Value.okWide P w r b0 t v) (h : DataW.Trod enc P w base spare held t v d p) :
    ∃ (v0 : Value) (y0 : DataW H × List MemPlace) (n : Nat), v = .agg #[v0] ∧ DataW.trod enc P w base spare held n f0.type [v0] = some y0 := by
  obtain ⟨cs, rfl, hsz⟩ := okWide_struct hs hv
  have hsz1 : cs.size = 1 := hsz.trans hC
  obtain ⟨c0, rfl⟩ : ∃ c0, cs = #[c0] := by
    obtain ⟨l⟩ := cs
    match l, hsz1 with
    | [c0], _ => exact ⟨c0, rfl⟩
  obtain ⟨fuel, hf⟩ := h
  obtain ⟨y0, n, hx, _, h0⟩ := trod_struct1 hs hf
  obtain ⟨o0, k0⟩ := hone_of hone 0 f0 rfl
  exact ⟨c0, y0, n, rfl, by simpa [Value.cells, o0, k0] using h0⟩
theorem args_nil : ASRs P No (Zw w) w [] () [] No := rfl
theorem args_one {t : Ty} {x : t.den} {v : Value} {ins : List ASh} {y : lsd (flats ins)} {vs : List Value} (h : Rep (Zw w) w false t x [v] No) (hr : ASRs P No (Zw w) w ins y vs No) : ASRs P No (Zw w) w (.one (.v t) :: ins) (x, y) (v :: vs) No :=
  ⟨v, vs, No, No, rfl, h, hr, fun _ h => h, fun _ h => h, fun _ h => h.elim⟩
theorem args_agg1 {t : Ty} {x : t.den} {v : Value} {ins : List ASh} {y : lsd (flats ins)} {vs : List Value} (h : Rep (Zw w) w false t x [v] No) (hr : ASRs P No (Zw w) w ins y vs No) : ASRs P No (Zw w) w (.agg [.v t] :: ins) (x, y) (.agg #[v] :: vs) No :=
  ⟨.agg #[v], vs, No, No, rfl, ⟨[v], rfl, v, [], No, No, rfl, h, rfl, fun _ h => h, fun _ h => h, fun _ h => h.elim⟩, hr, fun _ h => h, fun _ h => h, fun _ h => h.elim⟩
end
end Go.Proofs.Ytlkdhmijgpadaaa.D
set_option linter.unusedVariables false
namespace Go.Proofs.Ytlkdhmijgpadaaa.D
open Go Go.RowKit
theorem valid_int1 {P : Program} {g : FuncId} {k k' : IntKind} {F : Int → Option Int} (hc : Callable P g) (h : ∀ (x y : Int) (w : World), F x = some y → Calls P g #[.int k x] w fun e w' => e = .returned (.int k' y) ∧ w' = w) :
    Valid P g ⟨[.one (.v (.int k))], [.one (.v (.int k'))], Int, fun x => F x.1, fun r => ((r, ()), ())⟩ := by
  refine ⟨hc, fun x r hx Z B S w vs ha hS hZ hB => ?_⟩
  obtain ⟨v, vs', F0, F1, rfl, h1, h2, _⟩ := ha
  cases h2
  have h1 : [v] = [.int k x.1] := h1
  cases h1
  refine (h x.1 r w hx).mono ?_
  rintro e w' ⟨rfl, rfl⟩
  refine ⟨_, rfl, Z, fun _ => False, fun _ => False, ⟨⟨_, [], fun _ => False, fun _ => False, rfl, trivial, trivial, fun _ h => h, fun _ h => h, fun _ h => h.elim⟩, ⟨[.int k' r], rfl, _, [], fun _ => False, fun _ => False, rfl, rfl, rfl, fun _ h => h, fun _ h => h, fun _ h => h.elim⟩, fun _ h => h.elim, fun _ h => (h.elim id id : False).elim, fun _ h => h, fun k hk => ⟨.inl hk, hZ k hk⟩, rfl, rfl, rfl, Nat.le_refl _, fun _ _ _ => rfl⟩⟩
end Go.Proofs.Ytlkdhmijgpadaaa.D
set_option linter.unusedVariables false
namespace Go.Proofs.Ytlkdhmijgpadaaa.P
open Go Go.RowKit Go.Proofs.Ytlkdhmijgpadaaa.D
noncomputable def bits_Len.f (a0 : Int) : Option Int := if 0 ≤ a0 ∧ a0 ≤ 18446744073709551615 then some (Lib.bitLen a0.toNat : Int) else none
noncomputable def bits_Len.con : Con := ⟨[.one (.v (.int .u64))], [.one (.v (.int .i64))], Int, fun x => bits_Len.f x.1, fun r => ((r, ()), (()))⟩
theorem bits_Len.valid : Valid Try.prog 162 bits_Len.con := valid_int1 ⟨_, Try.func162, by kernel_rfl, by kernel_rfl⟩ fun x y w h => by
  unfold bits_Len.f at h
  split at h
  · cases h
    exact Try.bits_Len x w (by omega) (by omega)
  · cases h
end Go.Proofs.Ytlkdhmijgpadaaa.P
set_option linter.unusedVariables false
namespace Go.Proofs.Ytlkdhmijgpadaaa.P
open Go Go.RowKit Go.Proofs.Ytlkdhmijgpadaaa.D
noncomputable def cmp_isNaN_int64.E : Env := { tt := TT, con := [], frz := [], rows := [], live := [], n := 6, pin := 0, nils := [] }
noncomputable def cmp_isNaN_int64.fn : D.Fn := { body := Try.f183.body.getD .skip, res := Try.f183.results.toList, ins := [.one (.v (.int .i64))], outs := [.one (.v .bool)] }
def cmp_isNaN_int64.enc (y : lsd (flats cmp_isNaN_int64.fn.outs) × lsd (ios cmp_isNaN_int64.fn.ins)) : Bool := y.1.1
noncomputable def cmp_isNaN_int64.f (a0 : Int) : Option Bool := denF cmp_isNaN_int64.E cmp_isNaN_int64.fn cmp_isNaN_int64.enc (a0, ())
set_option maxRecDepth 100000 in
theorem cmp_isNaN_int64.f_eq (a0 : Int) : cmp_isNaN_int64.f a0 = some (!decide (a0 = a0)) := by kernel_rfl
noncomputable def cmp_isNaN_int64.con : Con := ⟨cmp_isNaN_int64.fn.ins, cmp_isNaN_int64.fn.outs, Bool, fun x => cmp_isNaN_int64.f x.1, fun r => ((r, ()), (()))⟩
theorem cmp_isNaN_int64.valid : Valid Try.prog 183 cmp_isNaN_int64.con := fn_valid (f := cmp_isNaN_int64.fn) (E := cmp_isNaN_int64.E) (enc := cmp_isNaN_int64.enc) ⟨ttOk, conNil⟩ (Checked.mixed Try.checked) ⟨Try.func183, by kernel_rfl, by kernel_rfl, by kernel_rfl, by kernel_rfl, by decide, by kernel_rfl, by kernel_rfl⟩ (fun _ => rfl)
end Go.Proofs.Ytlkdhmijgpadaaa.P
set_option linter.unusedVariables false
namespace Go.Proofs.Ytlkdhmijgpadaaa.P
open Go Go.RowKit Go.Proofs.Ytlkdhmijgpadaaa.D
noncomputable def cmp_Less_int64.E : Env := { tt := TT, con := [(183, cmp_isNaN_int64.con)], frz := [], rows := [], live := [], n := 17, pin := 0, nils := [] }
noncomputable def cmp_Less_int64.fn : D.Fn := { body := Try.f194.body.getD .skip, res := Try.f194.results.toList, ins := [.one (.v (.int .i64)), .one (.v (.int .i64))], outs := [.one (.v .bool)] }
def cmp_Less_int64.enc (y : lsd (flats cmp_Less_int64.fn.outs) × lsd (ios cmp_Less_int64.fn.ins)) : Bool := y.1.1
noncomputable def cmp_Less_int64.f (a0 : Int) (a1 : Int) : Option Bool := denF cmp_Less_int64.E cmp_Less_int64.fn cmp_Less_int64.enc (a0, a1, ())
set_option maxRecDepth 100000 in
theorem cmp_Less_int64.f_eq (a0 : Int) (a1 : Int) : cmp_Less_int64.f a0 a1 = (cmp_isNaN_int64.f a0).bind fun t6 => if t6 = true then ((cmp_isNaN_int64.f a1).bind fun t9 => if t9 = true then (some (decide (a0 < a1))) else (some true)) else (some (decide (a0 < a1))) := by kernel_rfl
noncomputable def cmp_Less_int64.con : Con := ⟨cmp_Less_int64.fn.ins, cmp_Less_int64.fn.outs, Bool, fun x => cmp_Less_int64.f x.1 x.2.1, fun r => ((r, ()), (()))⟩
theorem cmp_Less_int64.valid : Valid Try.prog 194 cmp_Less_int64.con := fn_valid (f := cmp_Less_int64.fn) (E := cmp_Less_int64.E) (enc := cmp_Less_int64.enc) ⟨ttOk, (conCons cmp_isNaN_int64.valid conNil)⟩ (Checked.mixed Try.checked) ⟨Try.func194, by kernel_rfl, by kernel_rfl, by kernel_rfl, by kernel_rfl, by decide, by kernel_rfl, by kernel_rfl⟩ (fun _ => rfl)
end Go.Proofs.Ytlkdhmijgpadaaa.P
set_option linter.unusedVariables false
namespace Go.Proofs.Ytlkdhmijgpadaaa.P
open Go Go.RowKit Go.Proofs.Ytlkdhmijgpadaaa.D
noncomputable def slices_insertionSortOrdered_int64.E : Env := { tt := TT, con := [(194, cmp_Less_int64.con)], frz := [], rows := [], live := [(1, [0, 1, 2, 6]), (4, [0, 1, 2, 6, 7])], n := 49, pin := 1, nils := [] }
noncomputable def slices_insertionSortOrdered_int64.fn : D.Fn := { body := Try.f188.body.getD .skip, res := Try.f188.results.toList, ins := [.one (.own 2 true (.int .i64)), .one (.v (.int .i64)), .one (.v (.int .i64))], outs := [] }
def slices_insertionSortOrdered_int64.enc (y : lsd (flats slices_insertionSortOrdered_int64.fn.outs) × lsd (ios slices_insertionSortOrdered_int64.fn.ins)) : (List Int) := y.2.1
noncomputable def slices_insertionSortOrdered_int64.f (l0 : List Int) (a1 : Int) (a2 : Int) : Option (List Int) := denF slices_insertionSortOrdered_int64.E slices_insertionSortOrdered_int64.fn slices_insertionSortOrdered_int64.enc (l0, a1, a2, ())
noncomputable def slices_insertionSortOrdered_int64.l0 (x1 : Int) (x2 : Int) (x6 : Int) (r0 : List Int) : Option (List Int) := denAt slices_insertionSortOrdered_int64.E slices_insertionSortOrdered_int64.fn slices_insertionSortOrdered_int64.enc [1, 0] { fr := [(0, .lf (.own 0)), (1, .lf (.int .i64 x1)), (2, .lf (.int .i64 x2)), (6, .lf (.int .i64 x6))], ob := [(0, .row 2 true (.int .i64) r0)], nx := 1 }
noncomputable def slices_insertionSortOrdered_int64.l1 (x1 : Int) (x2 : Int) (x6 : Int) (x7 : Int) (r0 : List Int) : Option (List Int) := denAt slices_insertionSortOrdered_int64.E slices_insertionSortOrdered_int64.fn slices_insertionSortOrdered_int64.enc [1, 0, 0, 1, 0, 0, 1, 0] { fr := [(0, .lf (.own 0)), (1, .lf (.int .i64 x1)), (2, .lf (.int .i64 x2)), (6, .lf (.int .i64 x6)), (7, .lf (.int .i64 x7))], ob := [(0, .row 2 true (.int .i64) r0)], nx := 1 }
set_option maxRecDepth 100000 in
theorem slices_insertionSortOrdered_int64.f_eq (l0 : List Int) (a1 : Int) (a2 : Int) : slices_insertionSortOrdered_int64.f l0 a1 a2 = slices_insertionSortOrdered_int64.l0 a1 a2 (wrapI (a1 + 1)) l0 := by kernel_rfl
set_option maxRecDepth 100000 in
theorem slices_insertionSortOrdered_int64.l0_eq (x1 : Int) (x2 : Int) (x6 : Int) (r0 : List Int) : slices_insertionSortOrdered_int64.l0 x1 x2 x6 r0 = if x6 < x2 then (slices_insertionSortOrdered_int64.l1 x1 x2 x6 x6 r0) else (some r0) := (loop_unfold _ _ _ _).trans (by kernel_rfl)
set_option maxRecDepth 100000 in
theorem slices_insertionSortOrdered_int64.l1_eq (x1 : Int) (x2 : Int) (x6 : Int) (x7 : Int) (r0 : List Int) : slices_insertionSortOrdered_int64.l1 x1 x2 x6 x7 r0 = if x7 > x1 then (if 0 ≤ x7 then (if x7 < (r0.length : Int) then (if 0 ≤ x7 then (if x7 < (r0.length : Int) then (if 0 ≤ wrapI (x7 - 1) then (if wrapI (x7 - 1) < (r0.length : Int) then (if 0 ≤ wrapI (x7 - 1) then (if wrapI (x7 - 1) < (r0.length : Int) then ((cmp_Less_int64.f (rd r0 x7) (rd r0 (wrapI (x7 - 1)))).bind fun t29 => if t29 = true then (if 0 ≤ wrapI (x7 - 1) then (if wrapI (x7 - 1) < (r0.length : Int) then (if 0 ≤ wrapI (x7 - 1) then (if wrapI (x7 - 1) < (r0.length : Int) then (if 0 ≤ x7 then (if x7 < (r0.length : Int) then (if 0 ≤ x7 then (if x7 < (r0.length : Int) then (if 0 ≤ x7 then (if x7 < (r0.length : Int) then (if 0 ≤ x7 then (if x7 < (r0.length : Int) then (if 0 ≤ wrapI (x7 - 1) then (if wrapI (x7 - 1) < ((r0.set (x7 : Int).toNat (rd r0 (wrapI (x7 - 1)))).length : Int) then (if 0 ≤ wrapI (x7 - 1) then (if wrapI (x7 - 1) < ((r0.set (x7 : Int).toNat (rd r0 (wrapI (x7 - 1)))).length : Int) then (slices_insertionSortOrdered_int64.l1 x1 x2 x6 (wrapI (x7 - 1)) ((r0.set (x7 : Int).toNat (rd r0 (wrapI (x7 - 1)))).set (wrapI (x7 - 1) : Int).toNat (rd r0 x7))) else none) else none) else none) else none) else none) else none) else none) else none) else none) else none) else none) else none) else none) else none) else none) else none) else (slices_insertionSortOrdered_int64.l0 x1 x2 (wrapI (x6 + 1)) r0)) else none) else none) else none) else none) else none) else none) else none) else none) else (slices_insertionSortOrdered_int64.l0 x1 x2 (wrapI (x6 + 1)) r0) := (loop_unfold _ _ _ _).trans (by kernel_rfl)
noncomputable def slices_insertionSortOrdered_int64.con : Con := ⟨slices_insertionSortOrdered_int64.fn.ins, slices_insertionSortOrdered_int64.fn.outs, (List Int), fun x => slices_insertionSortOrdered_int64.f x.1 x.2.1 x.2.2.1, fun r => ((()), (r, ()))⟩
theorem slices_insertionSortOrdered_int64.valid : Valid Try.prog 188 slices_insertionSortOrdered_int64.con := fn_valid (f := slices_insertionSortOrdered_int64.fn) (E := slices_insertionSortOrdered_int64.E) (enc := slices_insertionSortOrdered_int64.enc) ⟨ttOk, (conCons cmp_Less_int64.valid conNil)⟩ (Checked.mixed Try.checked) ⟨Try.func188, by kernel_rfl, by kernel_rfl, by kernel_rfl, by kernel_rfl, by decide, by kernel_rfl, by kernel_rfl⟩ (fun _ => rfl)
end Go.Proofs.Ytlkdhmijgpadaaa.P
set_option linter.unusedVariables false
namespace Go.Proofs.Ytlkdhmijgpadaaa.P
open Go Go.RowKit Go.Proofs.Ytlkdhmijgpadaaa.D
noncomputable def slices_pdqsortOrdered_int64.E : Env := { tt := TT, con := [(188, slices_insertionSortOrdered_int64.con)], frz := [], rows := [], live := [(2, [0, 1, 2, 3, 8, 9])], n := 134, pin := 1, nils := [8, 9] }
noncomputable def slices_pdqsortOrdered_int64.fn : D.Fn := { body := Try.f169.body.getD .skip, res := Try.f169.results.toList, ins := [.one (.own 2 true (.int .i64)), .one (.v (.int .i64)), .one (.v (.int .i64)), .one (.v (.int .i64))], outs := [] }
def slices_pdqsortOrdered_int64.enc (y : lsd (flats slices_pdqsortOrdered_int64.fn.outs) × lsd (ios slices_pdqsortOrdered_int64.fn.ins)) : (List Int) := y.2.1
noncomputable def slices_pdqsortOrdered_int64.f (l0 : List Int) (a1 : Int) (a2 : Int) (a3 : Int) : Option (List Int) := denF slices_pdqsortOrdered_int64.E slices_pdqsortOrdered_int64.fn slices_pdqsortOrdered_int64.enc (l0, a1, a2, a3, ())
noncomputable def slices_pdqsortOrdered_int64.l0 (x1 : Int) (x2 : Int) (x3 : Int) (x8 : Bool) (x9 : Bool) (r0 : List Int) : Option (List Int) := denAt slices_pdqsortOrdered_int64.E slices_pdqsortOrdered_int64.fn slices_pdqsortOrdered_int64.enc [1, 1, 0] { fr := [(0, .lf (.own 0)), (1, .lf (.int .i64 x1)), (2, .lf (.int .i64 x2)), (3, .lf (.int .i64 x3)), (8, .lf (boolLf x8)), (9, .lf (boolLf x9))], ob := [(0, .row 2 true (.int .i64) r0)], nx := 1 }
set_option maxRecDepth 100000 in
theorem slices_pdqsortOrdered_int64.f_eq (l0 : List Int) (a1 : Int) (a2 : Int) (a3 : Int) : slices_pdqsortOrdered_int64.f l0 a1 a2 a3 = slices_pdqsortOrdered_int64.l0 a1 a2 a3 true true l0 := by kernel_rfl
set_option maxRecDepth 100000 in
theorem slices_pdqsortOrdered_int64.l0_eq (x1 : Int) (x2 : Int) (x3 : Int) (x8 : Bool) (x9 : Bool) (r0 : List Int) : slices_pdqsortOrdered_int64.l0 x1 x2 x3 x8 x9 r0 = if (wrapI (x2 - x1)) ≤ 12 then ((slices_insertionSortOrdered_int64.f r0 x1 x2).bind fun t27 => some t27) else (if x3 = 0 then none else (if x8 = true then none else none)) := (loop_unfold _ _ _ _).trans (by kernel_rfl)
noncomputable def slices_pdqsortOrdered_int64.con : Con := ⟨slices_pdqsortOrdered_int64.fn.ins, slices_pdqsortOrdered_int64.fn.outs, (List Int), fun x => slices_pdqsortOrdered_int64.f x.1 x.2.1 x.2.2.1 x.2.2.2.1, fun r => ((()), (r, ()))⟩
theorem slices_pdqsortOrdered_int64.valid : Valid Try.prog 169 slices_pdqsortOrdered_int64.con := fn_valid (f := slices_pdqsortOrdered_int64.fn) (E := slices_pdqsortOrdered_int64.E) (enc := slices_pdqsortOrdered_int64.enc) ⟨ttOk, (conCons slices_insertionSortOrdered_int64.valid conNil)⟩ (Checked.mixed Try.checked) ⟨Try.func169, by kernel_rfl, by kernel_rfl, by kernel_rfl, by kernel_rfl, by decide, by kernel_rfl, by kernel_rfl⟩ (fun _ => rfl)
end Go.Proofs.Ytlkdhmijgpadaaa.P
set_option linter.unusedVariables false
namespace Go.Proofs.Ytlkdhmijgpadaaa.P
open Go Go.RowKit Go.Proofs.Ytlkdhmijgpadaaa.D
noncomputable def slices_Sort_int64.E : Env := { tt := TT, con := [(162, bits_Len.con), (169, slices_pdqsortOrdered_int64.con)], frz := [], rows := [], live := [], n := 11, pin := 1, nils := [] }
noncomputable def slices_Sort_int64.fn : D.Fn := { body := Try.f155.body.getD .skip, res := Try.f155.results.toList, ins := [.one (.own 2 true (.int .i64))], outs := [] }
def slices_Sort_int64.enc (y : lsd (flats slices_Sort_int64.fn.outs) × lsd (ios slices_Sort_int64.fn.ins)) : (List Int) := y.2.1
noncomputable def slices_Sort_int64.f (l0 : List Int) : Option (List Int) := denF slices_Sort_int64.E slices_Sort_int64.fn slices_Sort_int64.enc (l0, ())
set_option maxRecDepth 100000 in
theorem slices_Sort_int64.f_eq (l0 : List Int) : slices_Sort_int64.f l0 = (bits_Len.f (wr .u64 (l0.length : Int))).bind fun t9 => (slices_pdqsortOrdered_int64.f l0 0 (l0.length : Int) t9).bind fun t10 => some t10 := by kernel_rfl
noncomputable def slices_Sort_int64.con : Con := ⟨slices_Sort_int64.fn.ins, slices_Sort_int64.fn.outs, (List Int), fun x => slices_Sort_int64.f x.1, fun r => ((()), (r, ()))⟩
theorem slices_Sort_int64.valid : Valid Try.prog 155 slices_Sort_int64.con := fn_valid (f := slices_Sort_int64.fn) (E := slices_Sort_int64.E) (enc := slices_Sort_int64.enc) ⟨ttOk, (conCons bits_Len.valid (conCons slices_pdqsortOrdered_int64.valid conNil))⟩ (Checked.mixed Try.checked) ⟨Try.func155, by kernel_rfl, by kernel_rfl, by kernel_rfl, by kernel_rfl, by decide, by kernel_rfl, by kernel_rfl⟩ (fun _ => rfl)
end Go.Proofs.Ytlkdhmijgpadaaa.P
set_option linter.unusedVariables false
namespace Go.Proofs.Ytlkdhmijgpadaaa.P
open Go Go.RowKit Go.Proofs.Ytlkdhmijgpadaaa.D
noncomputable def impl_Group_subgroup.E : Env := { tt := TT, con := [(155, slices_Sort_int64.con), (69, impl_Group_times.con), (154, slices_Contains_int64.con)], frz := [], rows := [], live := [(3, [1, 2, 5, 6]), (6, [1, 2, 5, 6, 17, 18, 19])], n := 43, pin := 0, nils := [] }
noncomputable def impl_Group_subgroup.fn : D.Fn := { body := Try.f115.body.getD .skip, res := Try.f115.results.toList, ins := [.agg [.v (.sl 25 (.sl 2 (.int .i64)))], .one (.v (.sl 2 (.int .i64)))], outs := [.one (.own 2 true (.int .i64))] }
def impl_Group_subgroup.enc (y : lsd (flats impl_Group_subgroup.fn.outs) × lsd (ios impl_Group_subgroup.fn.ins)) : (List Int) := y.1.1
noncomputable def impl_Group_subgroup.f (l0_0 : List (List Int)) (l1 : List Int) : Option (List Int) := denF impl_Group_subgroup.E impl_Group_subgroup.fn impl_Group_subgroup.enc (l0_0, l1, ())
noncomputable def impl_Group_subgroup.l0 (x1 : List Int) (x6 : Int) (b0_0 : List (List Int)) (r1 : List Int) : Option (List Int) := denAt impl_Group_subgroup.E impl_Group_subgroup.fn impl_Group_subgroup.enc [1, 1, 0, 1, 0] { fr := [(1, .lf (.sl (.int .i64) x1)), (2, .lf (.box 0 0)), (5, .lf (.own 1)), (6, .lf (.int .i64 x6))], ob := [(0, .box 35 false [.sl (.sl 2 (.int .i64)) b0_0]), (1, .row 2 true (.int .i64) r1)], nx := 2 }
noncomputable def impl_Group_subgroup.l1 (x1 : List Int) (x6 : Int) (x17 : List Int) (x18 : Int) (x19 : Int) (b0_0 : List (List Int)) (r1 : List Int) : Option (List Int) := denAt impl_Group_subgroup.E impl_Group_subgroup.fn impl_Group_subgroup.enc [1, 1, 0, 1, 0, 0, 1, 0, 0, 1, 0] { fr := [(1, .lf (.sl (.int .i64) x1)), (2, .lf (.box 0 0)), (5, .lf (.own 1)), (6, .lf (.int .i64 x6)), (17, .lf (.sl (.int .i64) x17)), (18, .lf (.int .i64 x18)), (19, .lf (.int .i64 x19))], ob := [(0, .box 35 false [.sl (.sl 2 (.int .i64)) b0_0]), (1, .row 2 true (.int .i64) r1)], nx := 2 }
set_option maxRecDepth 100000 in
theorem impl_Group_subgroup.f_eq (l0_0 : List (List Int)) (l1 : List Int) : impl_Group_subgroup.f l0_0 l1 = impl_Group_subgroup.l0 l1 0 l0_0 ([0] : List Int) := by kernel_rfl
set_option maxRecDepth 100000 in
theorem impl_Group_subgroup.l0_eq (x1 : List Int) (x6 : Int) (b0_0 : List (List Int)) (r1 : List Int) : impl_Group_subgroup.l0 x1 x6 b0_0 r1 = if x6 < (r1.length : Int) then (impl_Group_subgroup.l1 x1 x6 x1 (x1.length : Int) 0 b0_0 r1) else ((slices_Sort_int64.f r1).bind fun t41 => some t41) := (loop_unfold _ _ _ _).trans (by kernel_rfl)
set_option maxRecDepth 100000 in
theorem impl_Group_subgroup.l1_eq (x1 : List Int) (x6 : Int) (x17 : List Int) (x18 : Int) (x19 : Int) (b0_0 : List (List Int)) (r1 : List Int) : impl_Group_subgroup.l1 x1 x6 x17 x18 x19 b0_0 r1 = if x19 < x18 then (if 0 ≤ x19 then (if x19 < (x17.length : Int) then (if 0 ≤ x6 then (if x6 < (r1.length : Int) then (if 0 ≤ x6 then (if x6 < (r1.length : Int) then ((impl_Group_times.f b0_0 ([rd r1 x6, rd x17 x19] : List Int)).bind fun t30 => (slices_Contains_int64.f r1 t30).bind fun t33 => if t33 = true then (impl_Group_subgroup.l1 x1 x6 x17 x18 (wrapI (x19 + 1)) b0_0 r1) else (if r1.length + ([t30] : List Int).length ≤ 17592186044416 then (impl_Group_subgroup.l1 x1 x6 x17 x18 (wrapI (x19 + 1)) b0_0 (r1 ++ ([t30] : List Int))) else none)) else none) else none) else none) else none) else none) else none) else (impl_Group_subgroup.l0 x1 (wrapI (x6 + 1)) b0_0 r1) := (loop_unfold _ _ _ _).trans (by kernel_rfl)
noncomputable def impl_Group_subgroup.con : Con := ⟨impl_Group_subgroup.fn.ins, impl_Group_subgroup.fn.outs, (List Int), fun x => impl_Group_subgroup.f x.1 x.2.1, fun r => ((r, ()), (()))⟩
theorem impl_Group_subgroup.valid : Valid Try.prog 115 impl_Group_subgroup.con := fn_valid (f := impl_Group_subgroup.fn) (E := impl_Group_subgroup.E) (enc := impl_Group_subgroup.enc) ⟨ttOk, (conCons slices_Sort_int64.valid (conCons impl_Group_times.valid (conCons slices_Contains_int64.valid conNil)))⟩ (Checked.mixed Try.checked) ⟨Try.func115, by kernel_rfl, by kernel_rfl, by kernel_rfl, by kernel_rfl, by decide, by kernel_rfl, by kernel_rfl⟩ (fun _ => rfl)
end Go.Proofs.Ytlkdhmijgpadaaa.P
set_option linter.unusedVariables false
namespace Go.Proofs.Ytlkdhmijgpadaaa.P
open Go Go.RowKit Go.Proofs.Ytlkdhmijgpadaaa.D
noncomputable def impl_Group_inverse.E : Env := { tt := TT, con := [(120, slices_Index_int64.con)], frz := [], rows := [], live := [], n := 11, pin := 0, nils := [] }
noncomputable def impl_Group_inverse.fn : D.Fn := { body := Try.f70.body.getD .skip, res := Try.f70.results.toList, ins := [.agg [.v (.sl 25 (.sl 2 (.int .i64)))], .one (.v (.int .i64))], outs := [.one (.v (.int .i64))] }
def impl_Group_inverse.enc (y : lsd (flats impl_Group_inverse.fn.outs) × lsd (ios impl_Group_inverse.fn.ins)) : Int := y.1.1
noncomputable def impl_Group_inverse.f (l0_0 : List (List Int)) (a1 : Int) : Option Int := denF impl_Group_inverse.E impl_Group_inverse.fn impl_Group_inverse.enc (l0_0, a1, ())
set_option maxRecDepth 100000 in
theorem impl_Group_inverse.f_eq (l0_0 : List (List Int)) (a1 : Int) : impl_Group_inverse.f l0_0 a1 = if 0 ≤ a1 then (if a1 < (l0_0.length : Int) then ((slices_Index_int64.f (row l0_0 a1) 0).bind fun t10 => some t10) else none) else none := by kernel_rfl
noncomputable def impl_Group_inverse.con : Con := ⟨impl_Group_inverse.fn.ins, impl_Group_inverse.fn.outs, Int, fun x => impl_Group_inverse.f x.1 x.2.1, fun r => ((r, ()), (()))⟩
theorem impl_Group_inverse.valid : Valid Try.prog 70 impl_Group_inverse.con := fn_valid (f := impl_Group_inverse.fn) (E := impl_Group_inverse.E) (enc := impl_Group_inverse.enc) ⟨ttOk, (conCons slices_Index_int64.valid conNil)⟩ (Checked.mixed Try.checked) ⟨Try.func70, by kernel_rfl, by kernel_rfl, by kernel_rfl, by kernel_rfl, by decide, by kernel_rfl, by kernel_rfl⟩ (fun _ => rfl)
end Go.Proofs.Ytlkdhmijgpadaaa.P
set_option linter.unusedVariables false
namespace Go.Proofs.Ytlkdhmijgpadaaa.P
open Go Go.RowKit Go.Proofs.Ytlkdhmijgpadaaa.D
noncomputable def impl_Group_conjugate.E : Env := { tt := TT, con := [(70, impl_Group_inverse.con), (69, impl_Group_times.con)], frz := [], rows := [], live := [], n := 15, pin := 0, nils := [] }
noncomputable def impl_Group_conjugate.fn : D.Fn := { body := Try.f66.body.getD .skip, res := Try.f66.results.toList, ins := [.agg [.v (.sl 25 (.sl 2 (.int .i64)))], .one (.v (.int .i64)), .one (.v (.int .i64))], outs := [.one (.v (.int .i64))] }
def impl_Group_conjugate.enc (y : lsd (flats impl_Group_conjugate.fn.outs) × lsd (ios impl_Group_conjugate.fn.ins)) : Int := y.1.1
noncomputable def impl_Group_conjugate.f (l0_0 : List (List Int)) (a1 : Int) (a2 : Int) : Option Int := denF impl_Group_conjugate.E impl_Group_conjugate.fn impl_Group_conjugate.enc (l0_0, a1, a2, ())
set_option maxRecDepth 100000 in
theorem impl_Group_conjugate.f_eq (l0_0 : List (List Int)) (a1 : Int) (a2 : Int) : impl_Group_conjugate.f l0_0 a1 a2 = (impl_Group_inverse.f l0_0 a1).bind fun t12 => (impl_Group_times.f l0_0 ([a1, a2, t12] : List Int)).bind fun t14 => some t14 := by kernel_rfl
noncomputable def impl_Group_conjugate.con : Con := ⟨impl_Group_conjugate.fn.ins, impl_Group_conjugate.fn.outs, Int, fun x => impl_Group_conjugate.f x.1 x.2.1 x.2.2.1, fun r => ((r, ()), (()))⟩
theorem impl_Group_conjugate.valid : Valid Try.prog 66 impl_Group_conjugate.con := fn_valid (f := impl_Group_conjugate.fn) (E := impl_Group_conjugate.E) (enc := impl_Group_conjugate.enc) ⟨ttOk, (conCons impl_Group_inverse.valid (conCons impl_Group_times.valid conNil))⟩ (Checked.mixed Try.checked) ⟨Try.func66, by kernel_rfl, by kernel_rfl, by kernel_rfl, by kernel_rfl, by decide, by kernel_rfl, by kernel_rfl⟩ (fun _ => rfl)
end Go.Proofs.Ytlkdhmijgpadaaa.P
set_option linter.unusedVariables false
namespace Go.Proofs.Ytlkdhmijgpadaaa.P
open Go Go.RowKit Go.Proofs.Ytlkdhmijgpadaaa.D
noncomputable def impl_Group_isNormal.E : Env := { tt := TT, con := [(52, impl_order.con), (66, impl_Group_conjugate.con), (154, slices_Contains_int64.con)], frz := [], rows := [], live := [(2, [1, 2, 8, 9, 10]), (5, [1, 2, 6, 8, 9, 10, 15, 16])], n := 28, pin := 0, nils := [] }
noncomputable def impl_Group_isNormal.fn : D.Fn := { body := Try.f116.body.getD .skip, res := Try.f116.results.toList, ins := [.agg [.v (.sl 25 (.sl 2 (.int .i64)))], .one (.v (.sl 2 (.int .i64)))], outs := [.one (.v .bool)] }
def impl_Group_isNormal.enc (y : lsd (flats impl_Group_isNormal.fn.outs) × lsd (ios impl_Group_isNormal.fn.ins)) : Bool := y.1.1
noncomputable def impl_Group_isNormal.f (l0_0 : List (List Int)) (l1 : List Int) : Option Bool := denF impl_Group_isNormal.E impl_Group_isNormal.fn impl_Group_isNormal.enc (l0_0, l1, ())
noncomputable def impl_Group_isNormal.l0 (x1 : List Int) (x8 : List Int) (x9 : Int) (x10 : Int) (b0_0 : List (List Int)) : Option Bool := denAt impl_Group_isNormal.E impl_Group_isNormal.fn impl_Group_isNormal.enc [1, 0, 1, 0] { fr := [(1, .lf (.sl (.int .i64) x1)), (2, .lf (.box 0 0)), (8, .lf (.sl (.int .i64) x8)), (9, .lf (.int .i64 x9)), (10, .lf (.int .i64 x10))], ob := [(0, .box 35 false [.sl (.sl 2 (.int .i64)) b0_0])], nx := 1 }
noncomputable def impl_Group_isNormal.l1 (x1 : List Int) (x6 : Int) (x8 : List Int) (x9 : Int) (x10 : Int) (x15 : Int) (x16 : Int) (b0_0 : List (List Int)) : Option Bool := denAt impl_Group_isNormal.E impl_Group_isNormal.fn impl_Group_isNormal.enc [1, 0, 1, 0, 0, 1, 1, 0, 0, 1, 1, 0] { fr := [(1, .lf (.sl (.int .i64) x1)), (2, .lf (.box 0 0)), (6, .lf (.int .i64 x6)), (8, .lf (.sl (.int .i64) x8)), (9, .lf (.int .i64 x9)), (10, .lf (.int .i64 x10)), (15, .lf (.int .i64 x15)), (16, .lf (.int .i64 x16))], ob := [(0, .box 35 false [.sl (.sl 2 (.int .i64)) b0_0])], nx := 1 }
set_option maxRecDepth 100000 in
theorem impl_Group_isNormal.f_eq (l0_0 : List (List Int)) (l1 : List Int) : impl_Group_isNormal.f l0_0 l1 = impl_Group_isNormal.l0 l1 l1 (l1.length : Int) 0 l0_0 := by kernel_rfl
set_option maxRecDepth 100000 in
theorem impl_Group_isNormal.l0_eq (x1 : List Int) (x8 : List Int) (x9 : Int) (x10 : Int) (b0_0 : List (List Int)) : impl_Group_isNormal.l0 x1 x8 x9 x10 b0_0 = if x10 < x9 then (if 0 ≤ x10 then (if x10 < (x8.length : Int) then ((impl_order.f b0_0).bind fun t15 => impl_Group_isNormal.l1 x1 (rd x8 x10) x8 x9 x10 t15 0 b0_0) else none) else none) else (some true) := (loop_unfold _ _ _ _).trans (by kernel_rfl)
set_option maxRecDepth 100000 in
theorem impl_Group_isNormal.l1_eq (x1 : List Int) (x6 : Int) (x8 : List Int) (x9 : Int) (x10 : Int) (x15 : Int) (x16 : Int) (b0_0 : List (List Int)) : impl_Group_isNormal.l1 x1 x6 x8 x9 x10 x15 x16 b0_0 = if x16 < x15 then ((impl_Group_conjugate.f b0_0 x16 x6).bind fun t23 => (slices_Contains_int64.f x1 t23).bind fun t24 => if t24 = true then (impl_Group_isNormal.l1 x1 x6 x8 x9 x10 x15 (wrapI (x16 + 1)) b0_0) else (some false)) else (impl_Group_isNormal.l0 x1 x8 x9 (wrapI (x10 + 1)) b0_0) := (loop_unfold _ _ _ _).trans (by kernel_rfl)
noncomputable def impl_Group_isNormal.con : Con := ⟨impl_Group_isNormal.fn.ins, impl_Group_isNormal.fn.outs, Bool, fun x => impl_Group_isNormal.f x.1 x.2.1, fun r => ((r, ()), (()))⟩
theorem impl_Group_isNormal.valid : Valid Try.prog 116 impl_Group_isNormal.con := fn_valid (f := impl_Group_isNormal.fn) (E := impl_Group_isNormal.E) (enc := impl_Group_isNormal.enc) ⟨ttOk, (conCons impl_order.valid (conCons impl_Group_conjugate.valid (conCons slices_Contains_int64.valid conNil)))⟩ (Checked.mixed Try.checked) ⟨Try.func116, by kernel_rfl, by kernel_rfl, by kernel_rfl, by kernel_rfl, by decide, by kernel_rfl, by kernel_rfl⟩ (fun _ => rfl)
end Go.Proofs.Ytlkdhmijgpadaaa.P
set_option linter.unusedVariables false
namespace Go.Proofs.Ytlkdhmijgpadaaa.P
open Go Go.RowKit Go.Proofs.Ytlkdhmijgpadaaa.D
noncomputable def impl_made.E : Env := { tt := TT, con := [], frz := [], rows := [], live := [(3, [0, 1, 4, 5, 10, 11]), (7, [0, 1, 4, 5, 6, 7, 10, 11, 15, 16])], n := 35, pin := 0, nils := [4, 5, 9] }
noncomputable def impl_made.fn : D.Fn := { body := Try.f89.body.getD .skip, res := Try.f89.results.toList, ins := [.one (.v (.int .i64)), .one (.fn [(.int .i64), (.int .i64)] (.int .i64))], outs := [.agg [.own 25 true (.sl 2 (.int .i64))]] }
def impl_made.enc (y : lsd (flats impl_made.fn.outs) × lsd (ios impl_made.fn.ins)) : (List (List Int)) := y.1.1
noncomputable def impl_made.f (a0 : Int) (f1 : Int → Int → Option Int) : Option (List (List Int)) := denF impl_made.E impl_made.fn impl_made.enc (a0, fun x => f1 x.1 x.2.1, ())
noncomputable def impl_made.l0 (x0 : Int) (fx1 : Int → Int → Option Int) (x10 : Int) (x11 : Int) (r2 : List (List Int)) (r3 : List (List Int)) : Option (List (List Int)) := denAt impl_made.E impl_made.fn impl_made.enc [1, 1, 0, 1, 0] { fr := [(0, .lf (.int .i64 x0)), (1, .lf (.fn [(.int .i64), (.int .i64)] (.int .i64) (fun x => fx1 x.1 x.2.1))), (4, .lf (.box 0 0)), (5, .lf (.box 1 0)), (10, .lf (.int .i64 x10)), (11, .lf (.int .i64 x11))], ob := [(0, .box 35 false [.own 2]), (1, .box 35 false [.own 3]), (2, .row 25 true (.sl 2 (.int .i64)) r2), (3, .row 25 true (.sl 2 (.int .i64)) r3)], nx := 4 }
noncomputable def impl_made.l1 (x0 : Int) (fx1 : Int → Int → Option Int) (x6 : Int) (x10 : Int) (x11 : Int) (x15 : Int) (x16 : Int) (r2 : List Int) (r3 : List (List Int)) (r4 : List (List Int)) : Option (List (List Int)) := denAt impl_made.E impl_made.fn impl_made.enc [1, 1, 0, 1, 0, 0, 1, 1, 0, 0, 1, 1, 0, 1, 0] { fr := [(0, .lf (.int .i64 x0)), (1, .lf (.fn [(.int .i64), (.int .i64)] (.int .i64) (fun x => fx1 x.1 x.2.1))), (4, .lf (.box 0 0)), (5, .lf (.box 1 0)), (6, .lf (.int .i64 x6)), (7, .lf (.own 2)), (10, .lf (.int .i64 x10)), (11, .lf (.int .i64 x11)), (15, .lf (.int .i64 x15)), (16, .lf (.int .i64 x16))], ob := [(0, .box 35 false [.own 3]), (1, .box 35 false [.own 4]), (2, .row 2 true (.int .i64) r2), (3, .row 25 true (.sl 2 (.int .i64)) r3), (4, .row 25 true (.sl 2 (.int .i64)) r4)], nx := 5 }
set_option maxRecDepth 100000 in
theorem impl_made.f_eq (a0 : Int) (f1 : Int → Int → Option Int) : impl_made.f a0 f1 = impl_made.l0 a0 f1 a0 0 ([] : List (List Int)) ([] : List (List Int)) := by kernel_rfl
set_option maxRecDepth 100000 in
theorem impl_made.l0_eq (x0 : Int) (fx1 : Int → Int → Option Int) (x10 : Int) (x11 : Int) (r2 : List (List Int)) (r3 : List (List Int)) : impl_made.l0 x0 fx1 x10 x11 r2 r3 = if x11 < x10 then (impl_made.l1 x0 fx1 x11 x10 x11 x0 0 ([] : List Int) r2 r3) else (some r3) := (loop_unfold _ _ _ _).trans (by kernel_rfl)
set_option maxRecDepth 100000 in
theorem impl_made.l1_eq (x0 : Int) (fx1 : Int → Int → Option Int) (x6 : Int) (x10 : Int) (x11 : Int) (x15 : Int) (x16 : Int) (r2 : List Int) (r3 : List (List Int)) (r4 : List (List Int)) : impl_made.l1 x0 fx1 x6 x10 x11 x15 x16 r2 r3 r4 = if x16 < x15 then ((fx1 x6 x16).bind fun t23 => if r2.length + ([t23] : List Int).length ≤ 17592186044416 then (impl_made.l1 x0 fx1 x6 x10 x11 x15 (wrapI (x16 + 1)) (r2 ++ ([t23] : List Int)) r3 r4) else none) else (if r4.length + ([r2] : List (List Int)).length ≤ 5864062014805 then (impl_made.l0 x0 fx1 x10 (wrapI (x11 + 1)) r3 (r4 ++ ([r2] : List (List Int)))) else none) := (loop_unfold _ _ _ _).trans (by kernel_rfl)
noncomputable def impl_made.con : Con := ⟨impl_made.fn.ins, impl_made.fn.outs, (List (List Int)), fun x => impl_made.f x.1 (fun z0 z1 => x.2.1 (z0, z1, ())), fun r => ((r, ()), (()))⟩
theorem impl_made.valid : Valid Try.prog 89 impl_made.con := fn_valid (f := impl_made.fn) (E := impl_made.E) (enc := impl_made.enc) ⟨ttOk, conNil⟩ (Checked.mixed Try.checked) ⟨Try.func89, by kernel_rfl, by kernel_rfl, by kernel_rfl, by kernel_rfl, by decide, by kernel_rfl, by kernel_rfl⟩ (fun _ => rfl)
end Go.Proofs.Ytlkdhmijgpadaaa.P
set_option linter.unusedVariables false
namespace Go.Proofs.Ytlkdhmijgpadaaa.P
open Go Go.RowKit Go.Proofs.Ytlkdhmijgpadaaa.D
noncomputable def bits_Mul64.E : Env := { tt := TT, con := [], frz := [], rows := [], live := [], n := 51, pin := 0, nils := [] }
noncomputable def bits_Mul64.fn : D.Fn := { body := Try.f198.body.getD .skip, res := Try.f198.results.toList, ins := [.one (.v (.int .u64)), .one (.v (.int .u64))], outs := [.one (.v (.int .u64)), .one (.v (.int .u64))] }
def bits_Mul64.enc (y : lsd (flats bits_Mul64.fn.outs) × lsd (ios bits_Mul64.fn.ins)) : Int × Int := (y.1.1, y.1.2.1)
noncomputable def bits_Mul64.f (a0 : Int) (a1 : Int) : Option (Int × Int) := denF bits_Mul64.E bits_Mul64.fn bits_Mul64.enc (a0, a1, ())
set_option maxRecDepth 100000 in
theorem bits_Mul64.f_eq (a0 : Int) (a1 : Int) : bits_Mul64.f a0 a1 = some (wr .u64 ((wr .u64 ((wr .u64 ((shrI .u64 a0 32) * (shrI .u64 a1 32))) + (shrI .u64 (wr .u64 ((wr .u64 ((shrI .u64 a0 32) * (andI .u64 a1 4294967295))) + (shrI .u64 (wr .u64 ((andI .u64 a0 4294967295) * (andI .u64 a1 4294967295))) 32))) 32))) + (shrI .u64 (wr .u64 ((andI .u64 (wr .u64 ((wr .u64 ((shrI .u64 a0 32) * (andI .u64 a1 4294967295))) + (shrI .u64 (wr .u64 ((andI .u64 a0 4294967295) * (andI .u64 a1 4294967295))) 32))) 4294967295) + (wr .u64 ((andI .u64 a0 4294967295) * (shrI .u64 a1 32))))) 32)), wr .u64 (a0 * a1)) := by kernel_rfl
noncomputable def bits_Mul64.con : Con := ⟨bits_Mul64.fn.ins, bits_Mul64.fn.outs, Int × Int, fun x => bits_Mul64.f x.1 x.2.1, fun r => ((r.1, r.2, ()), (()))⟩
theorem bits_Mul64.valid : Valid Try.prog 198 bits_Mul64.con := fn_valid (f := bits_Mul64.fn) (E := bits_Mul64.E) (enc := bits_Mul64.enc) ⟨ttOk, conNil⟩ (Checked.mixed Try.checked) ⟨Try.func198, by kernel_rfl, by kernel_rfl, by kernel_rfl, by kernel_rfl, by decide, by kernel_rfl, by kernel_rfl⟩ (fun _ => rfl)
end Go.Proofs.Ytlkdhmijgpadaaa.P
set_option linter.unusedVariables false
namespace Go.Proofs.Ytlkdhmijgpadaaa.P
open Go Go.RowKit Go.Proofs.Ytlkdhmijgpadaaa.D
noncomputable def bits_Mul.E : Env := { tt := TT, con := [(198, bits_Mul64.con)], frz := [], rows := [], live := [], n := 30, pin := 0, nils := [] }
noncomputable def bits_Mul.fn : D.Fn := { body := Try.f170.body.getD .skip, res := Try.f170.results.toList, ins := [.one (.v (.int .u64)), .one (.v (.int .u64))], outs := [.one (.v (.int .u64)), .one (.v (.int .u64))] }
def bits_Mul.enc (y : lsd (flats bits_Mul.fn.outs) × lsd (ios bits_Mul.fn.ins)) : Int × Int := (y.1.1, y.1.2.1)
noncomputable def bits_Mul.f (a0 : Int) (a1 : Int) : Option (Int × Int) := denF bits_Mul.E bits_Mul.fn bits_Mul.enc (a0, a1, ())
set_option maxRecDepth 100000 in
theorem bits_Mul.f_eq (a0 : Int) (a1 : Int) : bits_Mul.f a0 a1 = (bits_Mul64.f a0 a1).bind fun t25 => some (t25.1, t25.2) := by kernel_rfl
noncomputable def bits_Mul.con : Con := ⟨bits_Mul.fn.ins, bits_Mul.fn.outs, Int × Int, fun x => bits_Mul.f x.1 x.2.1, fun r => ((r.1, r.2, ()), (()))⟩
theorem bits_Mul.valid : Valid Try.prog 170 bits_Mul.con := fn_valid (f := bits_Mul.fn) (E := bits_Mul.E) (enc := bits_Mul.enc) ⟨ttOk, (conCons bits_Mul64.valid conNil)⟩ (Checked.mixed Try.checked) ⟨Try.func170, by kernel_rfl, by kernel_rfl, by kernel_rfl, by kernel_rfl, by decide, by kernel_rfl, by kernel_rfl⟩ (fun _ => rfl)
end Go.Proofs.Ytlkdhmijgpadaaa.P
set_option linter.unusedVariables false
namespace Go.Proofs.Ytlkdhmijgpadaaa.P
open Go Go.RowKit Go.Proofs.Ytlkdhmijgpadaaa.D
noncomputable def slices_Repeat_int64.E : Env := { tt := TT, con := [(170, bits_Mul.con)], frz := [], rows := [], live := [(8, [7, 8])], n := 48, pin := 0, nils := [44] }
noncomputable def slices_Repeat_int64.fn : D.Fn := { body := Try.f157.body.getD .skip, res := Try.f157.results.toList, ins := [.one (.v (.sl 2 (.int .i64))), .one (.v (.int .i64))], outs := [.one (.own 2 true (.int .i64))] }
def slices_Repeat_int64.enc (y : lsd (flats slices_Repeat_int64.fn.outs) × lsd (ios slices_Repeat_int64.fn.ins)) : (List Int) := y.1.1
noncomputable def slices_Repeat_int64.f (l0 : List Int) (a1 : Int) : Option (List Int) := denF slices_Repeat_int64.E slices_Repeat_int64.fn slices_Repeat_int64.enc (l0, a1, ())
noncomputable def slices_Repeat_int64.l0 (x8 : Int) (r0 : List Int) : Option (List Int) := denAt slices_Repeat_int64.E slices_Repeat_int64.fn slices_Repeat_int64.enc [1, 1, 1, 1, 1, 1, 0, 0] { fr := [(7, .lf (.own 0)), (8, .lf (.int .i64 x8))], ob := [(0, .row 2 true (.int .i64) r0)], nx := 1 }
set_option maxRecDepth 100000 in
theorem slices_Repeat_int64.f_eq (l0 : List Int) (a1 : Int) : slices_Repeat_int64.f l0 a1 = if a1 < 0 then none else ((bits_Mul.f (wr .u64 (l0.length : Int)) (wr .u64 a1)).bind fun t18 => if t18.1 > 0 then none else (if t18.2 > 9223372036854775807 then none else (if wrapI t18.2 = wrapI t18.2 then (if 0 ≤ wrapI t18.2 then (if (wrapI t18.2 : Int).toNat ≤ 17592186044416 then (if 0 < ((List.replicate (wrapI t18.2 : Int).toNat (0 : Int)).length : Int) then (slices_Repeat_int64.l0 ((List.take ((List.replicate (wrapI t18.2 : Int).toNat (0 : Int)).length - 0) l0).length : Int) (List.take 0 (List.replicate (wrapI t18.2 : Int).toNat (0 : Int)) ++ List.take ((List.replicate (wrapI t18.2 : Int).toNat (0 : Int)).length - 0) l0 ++ List.drop (0 + (List.take ((List.replicate (wrapI t18.2 : Int).toNat (0 : Int)).length - 0) l0).length) (List.replicate (wrapI t18.2 : Int).toNat (0 : Int)))) else none) else none) else none) else none))) := by kernel_rfl
set_option maxRecDepth 100000 in
theorem slices_Repeat_int64.l0_eq (x8 : Int) (r0 : List Int) : slices_Repeat_int64.l0 x8 r0 = if x8 < (r0.length : Int) then (if 0 < (r0.length : Int) then (if 0 ≤ x8 then (if x8 ≤ (r0.length : Int) then (if 0 < (r0.length : Int) then (if 0 ≤ x8 then (if x8 ≤ (r0.length : Int) then (if 0 < (r0.length : Int) then (slices_Repeat_int64.l0 (wrapI (x8 + ((List.take (r0.length - ((x8 : Int).toNat)) (List.take ((x8 : Int).toNat) r0)).length : Int))) (List.take ((x8 : Int).toNat) r0 ++ List.take (r0.length - ((x8 : Int).toNat)) (List.take ((x8 : Int).toNat) r0) ++ List.drop (((x8 : Int).toNat) + (List.take (r0.length - ((x8 : Int).toNat)) (List.take ((x8 : Int).toNat) r0)).length) r0)) else none) else none) else none) else none) else none) else none) else none) else (some r0) := (loop_unfold _ _ _ _).trans (by kernel_rfl)
noncomputable def slices_Repeat_int64.con : Con := ⟨slices_Repeat_int64.fn.ins, slices_Repeat_int64.fn.outs, (List Int), fun x => slices_Repeat_int64.f x.1 x.2.1, fun r => ((r, ()), (()))⟩
theorem slices_Repeat_int64.valid : Valid Try.prog 157 slices_Repeat_int64.con := fn_valid (f := slices_Repeat_int64.fn) (E := slices_Repeat_int64.E) (enc := slices_Repeat_int64.enc) ⟨ttOk, (conCons bits_Mul.valid conNil)⟩ (Checked.mixed Try.checked) ⟨Try.func157, by kernel_rfl, by kernel_rfl, by kernel_rfl, by kernel_rfl, by decide, by kernel_rfl, by kernel_rfl⟩ (fun _ => rfl)
end Go.Proofs.Ytlkdhmijgpadaaa.P
set_option linter.unusedVariables false
namespace Go.Proofs.Ytlkdhmijgpadaaa.P
open Go Go.RowKit Go.Proofs.Ytlkdhmijgpadaaa.D
noncomputable def impl_Group_cosets.E : Env := { tt := TT, con := [(157, slices_Repeat_int64.con), (52, impl_order.con), (69, impl_Group_times.con)], frz := [], rows := [], live := [(3, [1, 2, 6, 7, 18, 19]), (7, [1, 2, 6, 7, 8, 18, 19, 27, 28, 29])], n := 50, pin := 0, nils := [] }
noncomputable def impl_Group_cosets.fn : D.Fn := { body := Try.f118.body.getD .skip, res := Try.f118.results.toList, ins := [.agg [.v (.sl 25 (.sl 2 (.int .i64)))], .one (.v (.sl 2 (.int .i64)))], outs := [.one (.own 2 true (.int .i64)), .one (.own 2 true (.int .i64))] }
def impl_Group_cosets.enc (y : lsd (flats impl_Group_cosets.fn.outs) × lsd (ios impl_Group_cosets.fn.ins)) : (List Int) × (List Int) := (y.1.1, y.1.2.1)
noncomputable def impl_Group_cosets.f (l0_0 : List (List Int)) (l1 : List Int) : Option ((List Int) × (List Int)) := denF impl_Group_cosets.E impl_Group_cosets.fn impl_Group_cosets.enc (l0_0, l1, ())
noncomputable def impl_Group_cosets.l0 (x1 : List Int) (x18 : Int) (x19 : Int) (b0_0 : List (List Int)) (r1 : List Int) (r2 : List Int) : Option ((List Int) × (List Int)) := denAt impl_Group_cosets.E impl_Group_cosets.fn impl_Group_cosets.enc [1, 1, 0, 1, 0] { fr := [(1, .lf (.sl (.int .i64) x1)), (2, .lf (.box 0 0)), (6, .lf (.own 1)), (7, .lf (.own 2)), (18, .lf (.int .i64 x18)), (19, .lf (.int .i64 x19))], ob := [(0, .box 35 false [.sl (.sl 2 (.int .i64)) b0_0]), (1, .row 2 true (.int .i64) r1), (2, .row 2 true (.int .i64) r2)], nx := 3 }
noncomputable def impl_Group_cosets.l1 (x1 : List Int) (x8 : Int) (x18 : Int) (x19 : Int) (x27 : List Int) (x28 : Int) (x29 : Int) (b0_0 : List (List Int)) (r1 : List Int) (r2 : List Int) : Option ((List Int) × (List Int)) := denAt impl_Group_cosets.E impl_Group_cosets.fn impl_Group_cosets.enc [1, 1, 0, 1, 0, 0, 1, 1, 0, 0, 1, 1, 0, 1, 0] { fr := [(1, .lf (.sl (.int .i64) x1)), (2, .lf (.box 0 0)), (6, .lf (.own 1)), (7, .lf (.own 2)), (8, .lf (.int .i64 x8)), (18, .lf (.int .i64 x18)), (19, .lf (.int .i64 x19)), (27, .lf (.sl (.int .i64) x27)), (28, .lf (.int .i64 x28)), (29, .lf (.int .i64 x29))], ob := [(0, .box 35 false [.sl (.sl 2 (.int .i64)) b0_0]), (1, .row 2 true (.int .i64) r1), (2, .row 2 true (.int .i64) r2)], nx := 3 }
set_option maxRecDepth 100000 in
theorem impl_Group_cosets.f_eq (l0_0 : List (List Int)) (l1 : List Int) : impl_Group_cosets.f l0_0 l1 = (slices_Repeat_int64.f ([-1] : List Int) (l0_0.length : Int)).bind fun t16 => (impl_order.f l0_0).bind fun t18 => impl_Group_cosets.l0 l1 t18 0 l0_0 ([] : List Int) t16 := by kernel_rfl
set_option maxRecDepth 100000 in
theorem impl_Group_cosets.l0_eq (x1 : List Int) (x18 : Int) (x19 : Int) (b0_0 : List (List Int)) (r1 : List Int) (r2 : List Int) : impl_Group_cosets.l0 x1 x18 x19 b0_0 r1 r2 = if x19 < x18 then (if 0 ≤ x19 then (if x19 < (r2.length : Int) then (if 0 ≤ x19 then (if x19 < (r2.length : Int) then (if (rd r2 x19) ≥ 0 then (impl_Group_cosets.l0 x1 x18 (wrapI (x19 + 1)) b0_0 r1 r2) else (impl_Group_cosets.l1 x1 x19 x18 x19 x1 (x1.length : Int) 0 b0_0 r1 r2)) else none) else none) else none) else none) else (some (r1, r2)) := (loop_unfold _ _ _ _).trans (by kernel_rfl)
set_option maxRecDepth 100000 in
theorem impl_Group_cosets.l1_eq (x1 : List Int) (x8 : Int) (x18 : Int) (x19 : Int) (x27 : List Int) (x28 : Int) (x29 : Int) (b0_0 : List (List Int)) (r1 : List Int) (r2 : List Int) : impl_Group_cosets.l1 x1 x8 x18 x19 x27 x28 x29 b0_0 r1 r2 = if x29 < x28 then (if 0 ≤ x29 then (if x29 < (x27.length : Int) then ((impl_Group_times.f b0_0 ([x8, rd x27 x29] : List Int)).bind fun t38 => if 0 ≤ t38 then (if t38 < (r2.length : Int) then (if 0 ≤ t38 then (if t38 < (r2.length : Int) then (impl_Group_cosets.l1 x1 x8 x18 x19 x27 x28 (wrapI (x29 + 1)) b0_0 r1 (r2.set (t38 : Int).toNat (r1.length : Int))) else none) else none) else none) else none) else none) else none) else (if r1.length + ([x8] : List Int).length ≤ 17592186044416 then (impl_Group_cosets.l0 x1 x18 (wrapI (x19 + 1)) b0_0 (r1 ++ ([x8] : List Int)) r2) else none) := (loop_unfold _ _ _ _).trans (by kernel_rfl)
noncomputable def impl_Group_cosets.con : Con := ⟨impl_Group_cosets.fn.ins, impl_Group_cosets.fn.outs, (List Int) × (List Int), fun x => impl_Group_cosets.f x.1 x.2.1, fun r => ((r.1, r.2, ()), (()))⟩
theorem impl_Group_cosets.valid : Valid Try.prog 118 impl_Group_cosets.con := fn_valid (f := impl_Group_cosets.fn) (E := impl_Group_cosets.E) (enc := impl_Group_cosets.enc) ⟨ttOk, (conCons slices_Repeat_int64.valid (conCons impl_order.valid (conCons impl_Group_times.valid conNil)))⟩ (Checked.mixed Try.checked) ⟨Try.func118, by kernel_rfl, by kernel_rfl, by kernel_rfl, by kernel_rfl, by decide, by kernel_rfl, by kernel_rfl⟩ (fun _ => rfl)
end Go.Proofs.Ytlkdhmijgpadaaa.P
set_option linter.unusedVariables false
namespace Go.Proofs.Ytlkdhmijgpadaaa.P
open Go Go.RowKit Go.Proofs.Ytlkdhmijgpadaaa.D
noncomputable def impl_Group_quotient_1.E : Env := { tt := TT, con := [(69, impl_Group_times.con)], frz := [], rows := [], live := [], n := 22, pin := 0, nils := [] }
noncomputable def impl_Group_quotient_1.fn : D.Fn := { body := Try.f156.body.getD .skip, res := Try.f156.results.toList, ins := [.one (.v (.int .i64)), .one (.v (.int .i64)), .ptr true 25 [.v (.sl 2 (.int .i64))], .ptr true 35 [.v (.sl 25 (.sl 2 (.int .i64)))], .ptr true 25 [.v (.sl 2 (.int .i64))]], outs := [.one (.v (.int .i64))] }
def impl_Group_quotient_1.enc (y : lsd (flats impl_Group_quotient_1.fn.outs) × lsd (ios impl_Group_quotient_1.fn.ins)) : Int := y.1.1
noncomputable def impl_Group_quotient_1.f (a0 : Int) (a1 : Int) (l2 : List Int) (l3 : List (List Int)) (l4 : List Int) : Option Int := denF impl_Group_quotient_1.E impl_Group_quotient_1.fn impl_Group_quotient_1.enc (a0, a1, l2, l3, l4, ())
set_option maxRecDepth 100000 in
theorem impl_Group_quotient_1.f_eq (a0 : Int) (a1 : Int) (l2 : List Int) (l3 : List (List Int)) (l4 : List Int) : impl_Group_quotient_1.f a0 a1 l2 l3 l4 = if 0 ≤ a0 then (if a0 < (l4.length : Int) then (if 0 ≤ a1 then (if a1 < (l4.length : Int) then ((impl_Group_times.f l3 ([rd l4 a0, rd l4 a1] : List Int)).bind fun t19 => if 0 ≤ t19 then (if t19 < (l2.length : Int) then (some (rd l2 t19)) else none) else none) else none) else none) else none) else none := by kernel_rfl
noncomputable def impl_Group_quotient_1.con : Con := ⟨impl_Group_quotient_1.fn.ins, impl_Group_quotient_1.fn.outs, Int, fun x => impl_Group_quotient_1.f x.1 x.2.1 x.2.2.1 x.2.2.2.1 x.2.2.2.2.1, fun r => ((r, ()), (()))⟩
theorem impl_Group_quotient_1.valid : Valid Try.prog 156 impl_Group_quotient_1.con := fn_valid (f := impl_Group_quotient_1.fn) (E := impl_Group_quotient_1.E) (enc := impl_Group_quotient_1.enc) ⟨ttOk, (conCons impl_Group_times.valid conNil)⟩ (Checked.mixed Try.checked) ⟨Try.func156, by kernel_rfl, by kernel_rfl, by kernel_rfl, by kernel_rfl, by decide, by kernel_rfl, by kernel_rfl⟩ (fun _ => rfl)
end Go.Proofs.Ytlkdhmijgpadaaa.P
set_option linter.unusedVariables false
namespace Go.Proofs.Ytlkdhmijgpadaaa.P
open Go Go.RowKit Go.Proofs.Ytlkdhmijgpadaaa.D
noncomputable def impl_Group_quotient.E : Env := { tt := TT, con := [(118, impl_Group_cosets.con), (89, impl_made.con), (156, impl_Group_quotient_1.con)], frz := [], rows := [], live := [], n := 19, pin := 0, nils := [] }
noncomputable def impl_Group_quotient.fn : D.Fn := { body := Try.f117.body.getD .skip, res := Try.f117.results.toList, ins := [.agg [.v (.sl 25 (.sl 2 (.int .i64)))], .one (.v (.sl 2 (.int .i64)))], outs := [.agg [.own 25 true (.sl 2 (.int .i64))], .one (.own 2 true (.int .i64))] }
def impl_Group_quotient.enc (y : lsd (flats impl_Group_quotient.fn.outs) × lsd (ios impl_Group_quotient.fn.ins)) : (List (List Int)) × (List Int) := (y.1.1, y.1.2.1)
noncomputable def impl_Group_quotient.f (l0_0 : List (List Int)) (l1 : List Int) : Option ((List (List Int)) × (List Int)) := denF impl_Group_quotient.E impl_Group_quotient.fn impl_Group_quotient.enc (l0_0, l1, ())
set_option maxRecDepth 100000 in
theorem impl_Group_quotient.f_eq (l0_0 : List (List Int)) (l1 : List Int) : impl_Group_quotient.f l0_0 l1 = (impl_Group_cosets.f l0_0 l1).bind fun t11 => (impl_made.f (t11.1.length : Int) (fun z0 z1 => (impl_Group_quotient_1.f z0 z1 t11.2 l0_0 t11.1).map fun z => z)).bind fun t17 => some (t17, t11.2) := by kernel_rfl
noncomputable def impl_Group_quotient.con : Con := ⟨impl_Group_quotient.fn.ins, impl_Group_quotient.fn.outs, (List (List Int)) × (List Int), fun x => impl_Group_quotient.f x.1 x.2.1, fun r => ((r.1, r.2, ()), (()))⟩
theorem impl_Group_quotient.valid : Valid Try.prog 117 impl_Group_quotient.con := fn_valid (f := impl_Group_quotient.fn) (E := impl_Group_quotient.E) (enc := impl_Group_quotient.enc) ⟨ttOk, (conCons impl_Group_cosets.valid (conCons impl_made.valid (conCons impl_Group_quotient_1.valid conNil)))⟩ (Checked.mixed Try.checked) ⟨Try.func117, by kernel_rfl, by kernel_rfl, by kernel_rfl, by kernel_rfl, by decide, by kernel_rfl, by kernel_rfl⟩ (fun _ => rfl)
end Go.Proofs.Ytlkdhmijgpadaaa.P
set_option linter.unusedVariables false
namespace Go.Proofs.Ytlkdhmijgpadaaa.P
open Go Go.RowKit Go.Proofs.Ytlkdhmijgpadaaa.D
noncomputable def impl_choice.E : Env := { tt := TT, con := [(114, impl_IsGroup.con), (52, impl_order.con), (115, impl_Group_subgroup.con), (116, impl_Group_isNormal.con), (117, impl_Group_quotient.con), (118, impl_Group_cosets.con)], frz := [], rows := [], live := [], n := 50, pin := 0, nils := [] }
noncomputable def impl_choice.fn : D.Fn := { body := Try.f62.body.getD .skip, res := Try.f62.results.toList, ins := [.agg [.v (.sl 25 (.sl 2 (.int .i64)))], .one (.v (.int .i64))], outs := [.agg [.own 25 true (.sl 2 (.int .i64))], .one (.own 2 true (.int .i64)), .one (.own 2 true (.int .i64)), .one (.v (.int .i64))] }
def impl_choice.enc (y : lsd (flats impl_choice.fn.outs) × lsd (ios impl_choice.fn.ins)) : (List (List Int)) × (List Int) × (List Int) × Int := (y.1.1, y.1.2.1, y.1.2.2.1, y.1.2.2.2.1)
noncomputable def impl_choice.f (l0_0 : List (List Int)) (a1 : Int) : Option ((List (List Int)) × (List Int) × (List Int) × Int) := denF impl_choice.E impl_choice.fn impl_choice.enc (l0_0, a1, ())
set_option maxRecDepth 100000 in
theorem impl_choice.f_eq (l0_0 : List (List Int)) (a1 : Int) : impl_choice.f l0_0 a1 = (impl_IsGroup.f l0_0).bind fun t14 => if t14 = true then (if a1 < 1 then (some (([] : List (List Int)), ([] : List Int), ([] : List Int), 2)) else ((impl_order.f l0_0).bind fun t22 => if a1 ≥ t22 then (some (([] : List (List Int)), ([] : List Int), ([] : List Int), 2)) else ((impl_Group_subgroup.f l0_0 ([a1] : List Int)).bind fun t29 => (impl_Group_isNormal.f l0_0 t29).bind fun t32 => if t32 = true then ((impl_Group_quotient.f l0_0 t29).bind fun t38 => (impl_Group_cosets.f l0_0 t29).bind fun t44 => some (t38.1, t44.1, t38.2, 0)) else (some (([] : List (List Int)), ([] : List Int), ([] : List Int), 5))))) else (some (([] : List (List Int)), ([] : List Int), ([] : List Int), 1)) := by kernel_rfl
noncomputable def impl_choice.con : Con := ⟨impl_choice.fn.ins, impl_choice.fn.outs, (List (List Int)) × (List Int) × (List Int) × Int, fun x => impl_choice.f x.1 x.2.1, fun r => ((r.1, r.2.1, r.2.2.1, r.2.2.2, ()), (()))⟩
theorem impl_choice.valid : Valid Try.prog 62 impl_choice.con := fn_valid (f := impl_choice.fn) (E := impl_choice.E) (enc := impl_choice.enc) ⟨ttOk, (conCons impl_IsGroup.valid (conCons impl_order.valid (conCons impl_Group_subgroup.valid (conCons impl_Group_isNormal.valid (conCons impl_Group_quotient.valid (conCons impl_Group_cosets.valid conNil))))))⟩ (Checked.mixed Try.checked) ⟨Try.func62, by kernel_rfl, by kernel_rfl, by kernel_rfl, by kernel_rfl, by decide, by kernel_rfl, by kernel_rfl⟩ (fun _ => rfl)
end Go.Proofs.Ytlkdhmijgpadaaa.P
set_option linter.unusedVariables false
namespace Go.Proofs.Ytlkdhmijgpadaaa.P
open Go Go.RowKit Go.Proofs.Ytlkdhmijgpadaaa.D
noncomputable def impl_power.E : Env := { tt := TT, con := [], frz := [], rows := [], live := [(3, [0, 5, 6, 7])], n := 14, pin := 0, nils := [] }
noncomputable def impl_power.fn : D.Fn := { body := Try.f143.body.getD .skip, res := Try.f143.results.toList, ins := [.one (.v (.int .i64)), .one (.v (.int .i64))], outs := [.one (.v (.int .i64))] }
def impl_power.enc (y : lsd (flats impl_power.fn.outs) × lsd (ios impl_power.fn.ins)) : Int := y.1.1
noncomputable def impl_power.f (a0 : Int) (a1 : Int) : Option Int := denF impl_power.E impl_power.fn impl_power.enc (a0, a1, ())
noncomputable def impl_power.l0 (x0 : Int) (x5 : Int) (x6 : Int) (x7 : Int) : Option Int := denAt impl_power.E impl_power.fn impl_power.enc [1, 1, 0, 1, 0] { fr := [(0, .lf (.int .i64 x0)), (5, .lf (.int .i64 x5)), (6, .lf (.int .i64 x6)), (7, .lf (.int .i64 x7))], ob := [], nx := 0 }
set_option maxRecDepth 100000 in
theorem impl_power.f_eq (a0 : Int) (a1 : Int) : impl_power.f a0 a1 = impl_power.l0 a0 1 a1 0 := by kernel_rfl
set_option maxRecDepth 100000 in
theorem impl_power.l0_eq (x0 : Int) (x5 : Int) (x6 : Int) (x7 : Int) : impl_power.l0 x0 x5 x6 x7 = if x7 < x6 then (impl_power.l0 x0 (wrapI (x5 * x0)) x6 (wrapI (x7 + 1))) else (some x5) := (loop_unfold _ _ _ _).trans (by kernel_rfl)
noncomputable def impl_power.con : Con := ⟨impl_power.fn.ins, impl_power.fn.outs, Int, fun x => impl_power.f x.1 x.2.1, fun r => ((r, ()), (()))⟩
theorem impl_power.valid : Valid Try.prog 143 impl_power.con := fn_valid (f := impl_power.fn) (E := impl_power.E) (enc := impl_power.enc) ⟨ttOk, conNil⟩ (Checked.mixed Try.checked) ⟨Try.func143, by kernel_rfl, by kernel_rfl, by kernel_rfl, by kernel_rfl, by decide, by kernel_rfl, by kernel_rfl⟩ (fun _ => rfl)
end Go.Proofs.Ytlkdhmijgpadaaa.P
set_option linter.unusedVariables false
namespace Go.Proofs.Ytlkdhmijgpadaaa.P
open Go Go.RowKit Go.Proofs.Ytlkdhmijgpadaaa.D
noncomputable def impl_cells.E : Env := { tt := TT, con := [(52, impl_order.con), (143, impl_power.con)], frz := [], rows := [], live := [], n := 10, pin := 0, nils := [] }
noncomputable def impl_cells.fn : D.Fn := { body := Try.f102.body.getD .skip, res := Try.f102.results.toList, ins := [.agg [.v (.sl 25 (.sl 2 (.int .i64)))], .one (.v (.int .i64))], outs := [.one (.v (.int .i64))] }
def impl_cells.enc (y : lsd (flats impl_cells.fn.outs) × lsd (ios impl_cells.fn.ins)) : Int := y.1.1
noncomputable def impl_cells.f (l0_0 : List (List Int)) (a1 : Int) : Option Int := denF impl_cells.E impl_cells.fn impl_cells.enc (l0_0, a1, ())
set_option maxRecDepth 100000 in
theorem impl_cells.f_eq (l0_0 : List (List Int)) (a1 : Int) : impl_cells.f l0_0 a1 = (impl_order.f l0_0).bind fun t6 => (impl_power.f (wrapI (t6 - 1)) a1).bind fun t9 => some t9 := by kernel_rfl
noncomputable def impl_cells.con : Con := ⟨impl_cells.fn.ins, impl_cells.fn.outs, Int, fun x => impl_cells.f x.1 x.2.1, fun r => ((r, ()), (()))⟩
theorem impl_cells.valid : Valid Try.prog 102 impl_cells.con := fn_valid (f := impl_cells.fn) (E := impl_cells.E) (enc := impl_cells.enc) ⟨ttOk, (conCons impl_order.valid (conCons impl_power.valid conNil))⟩ (Checked.mixed Try.checked) ⟨Try.func102, by kernel_rfl, by kernel_rfl, by kernel_rfl, by kernel_rfl, by decide, by kernel_rfl, by kernel_rfl⟩ (fun _ => rfl)
end Go.Proofs.Ytlkdhmijgpadaaa.P
set_option linter.unusedVariables false
namespace Go.Proofs.Ytlkdhmijgpadaaa.P
open Go Go.RowKit Go.Proofs.Ytlkdhmijgpadaaa.D
noncomputable def impl_zero.E : Env := { tt := TT, con := [(102, impl_cells.con)], frz := [], rows := [], live := [], n := 11, pin := 0, nils := [] }
noncomputable def impl_zero.fn : D.Fn := { body := Try.f103.body.getD .skip, res := Try.f103.results.toList, ins := [.agg [.v (.sl 25 (.sl 2 (.int .i64)))], .one (.v (.int .i64))], outs := [.agg [.v (.int .i64), .own 2 true (.int .i64)]] }
def impl_zero.enc (y : lsd (flats impl_zero.fn.outs) × lsd (ios impl_zero.fn.ins)) : Int × (List Int) := (y.1.1, y.1.2.1)
noncomputable def impl_zero.f (l0_0 : List (List Int)) (a1 : Int) : Option (Int × (List Int)) := denF impl_zero.E impl_zero.fn impl_zero.enc (l0_0, a1, ())
set_option maxRecDepth 100000 in
theorem impl_zero.f_eq (l0_0 : List (List Int)) (a1 : Int) : impl_zero.f l0_0 a1 = (impl_cells.f l0_0 a1).bind fun t8 => if t8 = t8 then (if 0 ≤ t8 then (if (t8 : Int).toNat ≤ 17592186044416 then (some (a1, List.replicate (t8 : Int).toNat (0 : Int))) else none) else none) else none := by kernel_rfl
noncomputable def impl_zero.con : Con := ⟨impl_zero.fn.ins, impl_zero.fn.outs, Int × (List Int), fun x => impl_zero.f x.1 x.2.1, fun r => ((r.1, r.2, ()), (()))⟩
theorem impl_zero.valid : Valid Try.prog 103 impl_zero.con := fn_valid (f := impl_zero.fn) (E := impl_zero.E) (enc := impl_zero.enc) ⟨ttOk, (conCons impl_cells.valid conNil)⟩ (Checked.mixed Try.checked) ⟨Try.func103, by kernel_rfl, by kernel_rfl, by kernel_rfl, by kernel_rfl, by decide, by kernel_rfl, by kernel_rfl⟩ (fun _ => rfl)
end Go.Proofs.Ytlkdhmijgpadaaa.P
set_option linter.unusedVariables false
namespace Go.Proofs.Ytlkdhmijgpadaaa.P
open Go Go.RowKit Go.Proofs.Ytlkdhmijgpadaaa.D
noncomputable def impl_listOf.E : Env := { tt := TT, con := [(52, impl_order.con)], frz := [], rows := [], live := [(3, [2, 7, 8, 9])], n := 32, pin := 0, nils := [] }
noncomputable def impl_listOf.fn : D.Fn := { body := Try.f119.body.getD .skip, res := Try.f119.results.toList, ins := [.agg [.v (.sl 25 (.sl 2 (.int .i64)))], .one (.v (.int .i64)), .one (.v (.int .i64))], outs := [.one (.own 2 true (.int .i64))] }
def impl_listOf.enc (y : lsd (flats impl_listOf.fn.outs) × lsd (ios impl_listOf.fn.ins)) : (List Int) := y.1.1
noncomputable def impl_listOf.f (l0_0 : List (List Int)) (a1 : Int) (a2 : Int) : Option (List Int) := denF impl_listOf.E impl_listOf.fn impl_listOf.enc (l0_0, a1, a2, ())
noncomputable def impl_listOf.l0 (x2 : Int) (x8 : Int) (x9 : Int) (r0 : List Int) : Option (List Int) := denAt impl_listOf.E impl_listOf.fn impl_listOf.enc [1, 1, 0, 1, 0] { fr := [(2, .lf (.int .i64 x2)), (7, .lf (.own 0)), (8, .lf (.int .i64 x8)), (9, .lf (.int .i64 x9))], ob := [(0, .row 2 true (.int .i64) r0)], nx := 1 }
set_option maxRecDepth 100000 in
theorem impl_listOf.f_eq (l0_0 : List (List Int)) (a1 : Int) (a2 : Int) : impl_listOf.f l0_0 a1 a2 = if a1 = a1 then (if 0 ≤ a1 then (if (a1 : Int).toNat ≤ 17592186044416 then ((impl_order.f l0_0).bind fun t13 => impl_listOf.l0 a2 (wrapI (t13 - 1)) (wrapI (a1 - 1)) (List.replicate (a1 : Int).toNat (0 : Int))) else none) else none) else none := by kernel_rfl
set_option maxRecDepth 100000 in
theorem impl_listOf.l0_eq (x2 : Int) (x8 : Int) (x9 : Int) (r0 : List Int) : impl_listOf.l0 x2 x8 x9 r0 = if x9 ≥ 0 then (if x8 = 0 then none else (if 0 ≤ x9 then (if x9 < (r0.length : Int) then (if 0 ≤ x9 then (if x9 < (r0.length : Int) then (if x8 = 0 then none else (impl_listOf.l0 (wrapI ((x2 : Int).tdiv x8)) x8 (wrapI (x9 - 1)) (r0.set (x9 : Int).toNat (wrapI (1 + ((x2 : Int).tmod x8)))))) else none) else none) else none) else none)) else (some r0) := (loop_unfold _ _ _ _).trans (by kernel_rfl)
noncomputable def impl_listOf.con : Con := ⟨impl_listOf.fn.ins, impl_listOf.fn.outs, (List Int), fun x => impl_listOf.f x.1 x.2.1 x.2.2.1, fun r => ((r, ()), (()))⟩
theorem impl_listOf.valid : Valid Try.prog 119 impl_listOf.con := fn_valid (f := impl_listOf.fn) (E := impl_listOf.E) (enc := impl_listOf.enc) ⟨ttOk, (conCons impl_order.valid conNil)⟩ (Checked.mixed Try.checked) ⟨Try.func119, by kernel_rfl, by kernel_rfl, by kernel_rfl, by kernel_rfl, by decide, by kernel_rfl, by kernel_rfl⟩ (fun _ => rfl)
end Go.Proofs.Ytlkdhmijgpadaaa.P
set_option linter.unusedVariables false
namespace Go.Proofs.Ytlkdhmijgpadaaa.P
open Go Go.RowKit Go.Proofs.Ytlkdhmijgpadaaa.D
noncomputable def impl_told.E : Env := { tt := TT, con := [(103, impl_zero.con), (119, impl_listOf.con)], frz := [], rows := [], live := [(3, [1, 2, 3, 4, 8, 9, 16, 17])], n := 38, pin := 0, nils := [] }
noncomputable def impl_told.fn : D.Fn := { body := Try.f67.body.getD .skip, res := Try.f67.results.toList, ins := [.agg [.v (.sl 25 (.sl 2 (.int .i64)))], .one (.v (.int .i64)), .one (.v (.int .i64)), .one (.fn [(.sl 2 (.int .i64))] (.int .i64))], outs := [.agg [.v (.int .i64), .own 2 true (.int .i64)]] }
def impl_told.enc (y : lsd (flats impl_told.fn.outs) × lsd (ios impl_told.fn.ins)) : Int × (List Int) := (y.1.1, y.1.2.1)
noncomputable def impl_told.f (l0_0 : List (List Int)) (a1 : Int) (a2 : Int) (f3 : (List Int) → Option Int) : Option (Int × (List Int)) := denF impl_told.E impl_told.fn impl_told.enc (l0_0, a1, a2, fun x => f3 x.1, ())
noncomputable def impl_told.l0 (x1 : Int) (x2 : Int) (fx3 : (List Int) → Option Int) (x16 : Int) (x17 : Int) (b0_0 : List (List Int)) (b1_0 : Int) (b2_0 : Int) (r3 : List Int) : Option (Int × (List Int)) := denAt impl_told.E impl_told.fn impl_told.enc [1, 1, 0, 1, 0] { fr := [(1, .lf (.int .i64 x1)), (2, .lf (.int .i64 x2)), (3, .lf (.fn [(.sl 2 (.int .i64))] (.int .i64) (fun x => fx3 x.1))), (4, .lf (.box 0 0)), (8, .lf (.box 1 0)), (9, .lf (.box 2 0)), (16, .lf (.int .i64 x16)), (17, .lf (.int .i64 x17))], ob := [(0, .box 35 false [.sl (.sl 2 (.int .i64)) b0_0]), (1, .box 39 false [.int .i64 b1_0, .nil]), (2, .box 39 false [.int .i64 b2_0, .own 3]), (3, .row 2 true (.int .i64) r3)], nx := 4 }
set_option maxRecDepth 100000 in
theorem impl_told.f_eq (l0_0 : List (List Int)) (a1 : Int) (a2 : Int) (f3 : (List Int) → Option Int) : impl_told.f l0_0 a1 a2 f3 = (impl_zero.f l0_0 a2).bind fun t13 => impl_told.l0 a1 a2 f3 (t13.2.length : Int) 0 l0_0 0 t13.1 t13.2 := by kernel_rfl
set_option maxRecDepth 100000 in
theorem impl_told.l0_eq (x1 : Int) (x2 : Int) (fx3 : (List Int) → Option Int) (x16 : Int) (x17 : Int) (b0_0 : List (List Int)) (b1_0 : Int) (b2_0 : Int) (r3 : List Int) : impl_told.l0 x1 x2 fx3 x16 x17 b0_0 b1_0 b2_0 r3 = if x17 < x16 then ((impl_listOf.f b0_0 x2 x17).bind fun t27 => (fx3 t27).bind fun t28 => if x1 = 0 then none else (if x1 = 0 then none else (if 0 ≤ x17 then (if x17 < (r3.length : Int) then (if 0 ≤ x17 then (if x17 < (r3.length : Int) then (impl_told.l0 x1 x2 fx3 x16 (wrapI (x17 + 1)) b0_0 b1_0 b2_0 (r3.set (x17 : Int).toNat ((wrapI (((t28 : Int).tmod x1) + x1) : Int).tmod x1))) else none) else none) else none) else none))) else (some (b2_0, r3)) := (loop_unfold _ _ _ _).trans (by kernel_rfl)
noncomputable def impl_told.con : Con := ⟨impl_told.fn.ins, impl_told.fn.outs, Int × (List Int), fun x => impl_told.f x.1 x.2.1 x.2.2.1 (fun z0 => x.2.2.2.1 (z0, ())), fun r => ((r.1, r.2, ()), (()))⟩
theorem impl_told.valid : Valid Try.prog 67 impl_told.con := fn_valid (f := impl_told.fn) (E := impl_told.E) (enc := impl_told.enc) ⟨ttOk, (conCons impl_zero.valid (conCons impl_listOf.valid conNil))⟩ (Checked.mixed Try.checked) ⟨Try.func67, by kernel_rfl, by kernel_rfl, by kernel_rfl, by kernel_rfl, by decide, by kernel_rfl, by kernel_rfl⟩ (fun _ => rfl)
end Go.Proofs.Ytlkdhmijgpadaaa.P
set_option linter.unusedVariables false
namespace Go.Proofs.Ytlkdhmijgpadaaa.P
open Go Go.RowKit Go.Proofs.Ytlkdhmijgpadaaa.D
noncomputable def impl_exponentOf.E : Env := { tt := TT, con := [(69, impl_Group_times.con)], frz := [], rows := [], live := [(3, [1, 2, 3, 7, 8])], n := 20, pin := 0, nils := [] }
noncomputable def impl_exponentOf.fn : D.Fn := { body := Try.f65.body.getD .skip, res := Try.f65.results.toList, ins := [.agg [.v (.sl 25 (.sl 2 (.int .i64)))], .one (.v (.int .i64)), .one (.v (.int .i64))], outs := [.one (.v (.int .i64))] }
def impl_exponentOf.enc (y : lsd (flats impl_exponentOf.fn.outs) × lsd (ios impl_exponentOf.fn.ins)) : Int := y.1.1
noncomputable def impl_exponentOf.f (l0_0 : List (List Int)) (a1 : Int) (a2 : Int) : Option Int := denF impl_exponentOf.E impl_exponentOf.fn impl_exponentOf.enc (l0_0, a1, a2, ())
noncomputable def impl_exponentOf.l0 (x1 : Int) (x2 : Int) (x7 : Int) (x8 : Int) (b0_0 : List (List Int)) : Option Int := denAt impl_exponentOf.E impl_exponentOf.fn impl_exponentOf.enc [1, 1, 0, 1, 0] { fr := [(1, .lf (.int .i64 x1)), (2, .lf (.int .i64 x2)), (3, .lf (.box 0 0)), (7, .lf (.int .i64 x7)), (8, .lf (.int .i64 x8))], ob := [(0, .box 35 false [.sl (.sl 2 (.int .i64)) b0_0])], nx := 1 }
set_option maxRecDepth 100000 in
theorem impl_exponentOf.f_eq (l0_0 : List (List Int)) (a1 : Int) (a2 : Int) : impl_exponentOf.f l0_0 a1 a2 = impl_exponentOf.l0 a1 a2 0 0 l0_0 := by kernel_rfl
set_option maxRecDepth 100000 in
theorem impl_exponentOf.l0_eq (x1 : Int) (x2 : Int) (x7 : Int) (x8 : Int) (b0_0 : List (List Int)) : impl_exponentOf.l0 x1 x2 x7 x8 b0_0 = if x8 = x2 then (some x7) else ((impl_Group_times.f b0_0 ([x8, x1] : List Int)).bind fun t16 => impl_exponentOf.l0 x1 x2 (wrapI (x7 + 1)) t16 b0_0) := (loop_unfold _ _ _ _).trans (by kernel_rfl)
noncomputable def impl_exponentOf.con : Con := ⟨impl_exponentOf.fn.ins, impl_exponentOf.fn.outs, Int, fun x => impl_exponentOf.f x.1 x.2.1 x.2.2.1, fun r => ((r, ()), (()))⟩
theorem impl_exponentOf.valid : Valid Try.prog 65 impl_exponentOf.con := fn_valid (f := impl_exponentOf.fn) (E := impl_exponentOf.E) (enc := impl_exponentOf.enc) ⟨ttOk, (conCons impl_Group_times.valid conNil)⟩ (Checked.mixed Try.checked) ⟨Try.func65, by kernel_rfl, by kernel_rfl, by kernel_rfl, by kernel_rfl, by decide, by kernel_rfl, by kernel_rfl⟩ (fun _ => rfl)
end Go.Proofs.Ytlkdhmijgpadaaa.P
set_option linter.unusedVariables false
namespace Go.Proofs.Ytlkdhmijgpadaaa.P
open Go Go.RowKit Go.Proofs.Ytlkdhmijgpadaaa.D
noncomputable def impl_FactorSetOfChoice_1.E : Env := { tt := TT, con := [(69, impl_Group_times.con), (70, impl_Group_inverse.con), (65, impl_exponentOf.con)], frz := [], rows := [], live := [], n := 39, pin := 0, nils := [] }
noncomputable def impl_FactorSetOfChoice_1.fn : D.Fn := { body := Try.f68.body.getD .skip, res := Try.f68.results.toList, ins := [.one (.v (.sl 2 (.int .i64))), .ptr true 35 [.v (.sl 25 (.sl 2 (.int .i64)))], .ptr true 25 [.v (.sl 2 (.int .i64))], .ptr true 2 [.v (.int .i64)], .ptr true 25 [.v (.sl 2 (.int .i64))]], outs := [.one (.v (.int .i64))] }
def impl_FactorSetOfChoice_1.enc (y : lsd (flats impl_FactorSetOfChoice_1.fn.outs) × lsd (ios impl_FactorSetOfChoice_1.fn.ins)) : Int := y.1.1
noncomputable def impl_FactorSetOfChoice_1.f (l0 : List Int) (l1 : List (List Int)) (l2 : List Int) (a3 : Int) (l4 : List Int) : Option Int := denF impl_FactorSetOfChoice_1.E impl_FactorSetOfChoice_1.fn impl_FactorSetOfChoice_1.enc (l0, l1, l2, a3, l4, ())
set_option maxRecDepth 100000 in
theorem impl_FactorSetOfChoice_1.f_eq (l0 : List Int) (l1 : List (List Int)) (l2 : List Int) (a3 : Int) (l4 : List Int) : impl_FactorSetOfChoice_1.f l0 l1 l2 a3 l4 = if 0 < (l0.length : Int) then (if 0 ≤ rd l0 0 then (if rd l0 0 < (l2.length : Int) then (if 1 < (l0.length : Int) then (if 0 ≤ rd l0 1 then (if rd l0 1 < (l2.length : Int) then ((impl_Group_times.f l1 ([rd l2 (rd l0 0), rd l2 (rd l0 1)] : List Int)).bind fun t22 => if 0 ≤ t22 then (if t22 < (l4.length : Int) then (if 0 ≤ rd l4 t22 then (if rd l4 t22 < (l2.length : Int) then ((impl_Group_inverse.f l1 (rd l2 (rd l4 t22))).bind fun t35 => (impl_Group_times.f l1 ([t22, t35] : List Int)).bind fun t37 => (impl_exponentOf.f l1 a3 t37).bind fun t38 => some t38) else none) else none) else none) else none) else none) else none) else none) else none) else none) else none := by kernel_rfl
noncomputable def impl_FactorSetOfChoice_1.con : Con := ⟨impl_FactorSetOfChoice_1.fn.ins, impl_FactorSetOfChoice_1.fn.outs, Int, fun x => impl_FactorSetOfChoice_1.f x.1 x.2.1 x.2.2.1 x.2.2.2.1 x.2.2.2.2.1, fun r => ((r, ()), (()))⟩
theorem impl_FactorSetOfChoice_1.valid : Valid Try.prog 68 impl_FactorSetOfChoice_1.con := fn_valid (f := impl_FactorSetOfChoice_1.fn) (E := impl_FactorSetOfChoice_1.E) (enc := impl_FactorSetOfChoice_1.enc) ⟨ttOk, (conCons impl_Group_times.valid (conCons impl_Group_inverse.valid (conCons impl_exponentOf.valid conNil)))⟩ (Checked.mixed Try.checked) ⟨Try.func68, by kernel_rfl, by kernel_rfl, by kernel_rfl, by kernel_rfl, by decide, by kernel_rfl, by kernel_rfl⟩ (fun _ => rfl)
end Go.Proofs.Ytlkdhmijgpadaaa.P
set_option linter.unusedVariables false
namespace Go.Proofs.Ytlkdhmijgpadaaa.P
open Go Go.RowKit Go.Proofs.Ytlkdhmijgpadaaa.D
noncomputable def impl_FactorSetOfChoice.E : Env := { tt := TT, con := [(62, impl_choice.con), (53, impl_Group_orderOf.con), (67, impl_told.con), (68, impl_FactorSetOfChoice_1.con)], frz := [], rows := [], live := [], n := 28, pin := 0, nils := [] }
noncomputable def impl_FactorSetOfChoice.fn : D.Fn := { body := Try.f33.body.getD .skip, res := Try.f33.results.toList, ins := [.agg [.v (.sl 25 (.sl 2 (.int .i64)))], .one (.v (.int .i64))], outs := [.agg [.v (.int .i64), .own 2 true (.int .i64)], .one (.v (.int .i64))] }
def impl_FactorSetOfChoice.enc (y : lsd (flats impl_FactorSetOfChoice.fn.outs) × lsd (ios impl_FactorSetOfChoice.fn.ins)) : Int × (List Int) × Int := (y.1.1, y.1.2.1, y.1.2.2.1)
noncomputable def impl_FactorSetOfChoice.f (l0_0 : List (List Int)) (a1 : Int) : Option (Int × (List Int) × Int) := denF impl_FactorSetOfChoice.E impl_FactorSetOfChoice.fn impl_FactorSetOfChoice.enc (l0_0, a1, ())
set_option maxRecDepth 100000 in
theorem impl_FactorSetOfChoice.f_eq (l0_0 : List (List Int)) (a1 : Int) : impl_FactorSetOfChoice.f l0_0 a1 = (impl_choice.f l0_0 a1).bind fun t13 => if t13.2.2.2 = 0 then ((impl_Group_orderOf.f l0_0 a1).bind fun t25 => (impl_told.f t13.1 t25 2 (fun z0 => (impl_FactorSetOfChoice_1.f z0 l0_0 t13.2.1 a1 t13.2.2.1).map fun z => z)).bind fun t27 => some (t27.1, t27.2, 0)) else (some (0, ([] : List Int), t13.2.2.2)) := by kernel_rfl
noncomputable def impl_FactorSetOfChoice.con : Con := ⟨impl_FactorSetOfChoice.fn.ins, impl_FactorSetOfChoice.fn.outs, Int × (List Int) × Int, fun x => impl_FactorSetOfChoice.f x.1 x.2.1, fun r => ((r.1, r.2.1, r.2.2, ()), (()))⟩
theorem impl_FactorSetOfChoice.valid : Valid Try.prog 33 impl_FactorSetOfChoice.con := fn_valid (f := impl_FactorSetOfChoice.fn) (E := impl_FactorSetOfChoice.E) (enc := impl_FactorSetOfChoice.enc) ⟨ttOk, (conCons impl_choice.valid (conCons impl_Group_orderOf.valid (conCons impl_told.valid (conCons impl_FactorSetOfChoice_1.valid conNil))))⟩ (Checked.mixed Try.checked) ⟨Try.func33, by kernel_rfl, by kernel_rfl, by kernel_rfl, by kernel_rfl, by decide, by kernel_rfl, by kernel_rfl⟩ (fun _ => rfl)
end Go.Proofs.Ytlkdhmijgpadaaa.P
set_option linter.unusedVariables false
namespace Go.Proofs.Ytlkdhmijgpadaaa.P
open Go Go.RowKit Go.Proofs.Ytlkdhmijgpadaaa.D
noncomputable def laws_heldInt64S.E : Env := { tt := TT, con := [], frz := [], rows := [], live := [(2, [0, 1, 5])], n := 21, pin := 0, nils := [] }
noncomputable def laws_heldInt64S.fn : D.Fn := { body := Try.f25.body.getD .skip, res := Try.f25.results.toList, ins := [.one (.v (.sl 2 (.int .i64))), .one (.v (.int .i64))], outs := [.one (.v (.int .i64))] }
def laws_heldInt64S.enc (y : lsd (flats laws_heldInt64S.fn.outs) × lsd (ios laws_heldInt64S.fn.ins)) : Int := y.1.1
noncomputable def laws_heldInt64S.f (l0 : List Int) (a1 : Int) : Option Int := denF laws_heldInt64S.E laws_heldInt64S.fn laws_heldInt64S.enc (l0, a1, ())
noncomputable def laws_heldInt64S.l0 (x0 : List Int) (x1 : Int) (x5 : Int) : Option Int := denAt laws_heldInt64S.E laws_heldInt64S.fn laws_heldInt64S.enc [1, 0, 1, 0] { fr := [(0, .lf (.sl (.int .i64) x0)), (1, .lf (.int .i64 x1)), (5, .lf (.int .i64 x5))], ob := [], nx := 0 }
set_option maxRecDepth 100000 in
theorem laws_heldInt64S.f_eq (l0 : List Int) (a1 : Int) : laws_heldInt64S.f l0 a1 = laws_heldInt64S.l0 l0 a1 0 := by kernel_rfl
set_option maxRecDepth 100000 in
theorem laws_heldInt64S.l0_eq (x0 : List Int) (x1 : Int) (x5 : Int) : laws_heldInt64S.l0 x0 x1 x5 = if x5 < (x0.length : Int) then (if 0 ≤ x5 then (if x5 < (x0.length : Int) then (if (rd x0 x5) = x1 then (laws_heldInt64S.l0 x0 (wrapI (x1 + 1)) (wrapI (x5 + 1))) else (some (-1))) else none) else none) else (some x1) := (loop_unfold _ _ _ _).trans (by kernel_rfl)
noncomputable def laws_heldInt64S.con : Con := ⟨laws_heldInt64S.fn.ins, laws_heldInt64S.fn.outs, Int, fun x => laws_heldInt64S.f x.1 x.2.1, fun r => ((r, ()), (()))⟩
theorem laws_heldInt64S.valid : Valid Try.prog 25 laws_heldInt64S.con := fn_valid (f := laws_heldInt64S.fn) (E := laws_heldInt64S.E) (enc := laws_heldInt64S.enc) ⟨ttOk, conNil⟩ (Checked.mixed Try.checked) ⟨Try.func25, by kernel_rfl, by kernel_rfl, by kernel_rfl, by kernel_rfl, by decide, by kernel_rfl, by kernel_rfl⟩ (fun _ => rfl)
end Go.Proofs.Ytlkdhmijgpadaaa.P
set_option linter.unusedVariables false
namespace Go.Proofs.Ytlkdhmijgpadaaa.P
open Go Go.RowKit Go.Proofs.Ytlkdhmijgpadaaa.D
noncomputable def laws_heldCochain.E : Env := { tt := TT, con := [(25, laws_heldInt64S.con)], frz := [], rows := [], live := [], n := 12, pin := 0, nils := [] }
noncomputable def laws_heldCochain.fn : D.Fn := { body := Try.f34.body.getD .skip, res := Try.f34.results.toList, ins := [.agg [.v (.int .i64), .v (.sl 2 (.int .i64))], .one (.v (.int .i64))], outs := [.one (.v (.int .i64))] }
def laws_heldCochain.enc (y : lsd (flats laws_heldCochain.fn.outs) × lsd (ios laws_heldCochain.fn.ins)) : Int := y.1.1
noncomputable def laws_heldCochain.f (a0_0 : Int) (l0_1 : List Int) (a1 : Int) : Option Int := denF laws_heldCochain.E laws_heldCochain.fn laws_heldCochain.enc (a0_0, l0_1, a1, ())
set_option maxRecDepth 100000 in
theorem laws_heldCochain.f_eq (a0_0 : Int) (l0_1 : List Int) (a1 : Int) : laws_heldCochain.f a0_0 l0_1 a1 = (laws_heldInt64S.f l0_1 a1).bind fun t8 => if t8 < 0 then (some (-1)) else (some t8) := by kernel_rfl
noncomputable def laws_heldCochain.con : Con := ⟨laws_heldCochain.fn.ins, laws_heldCochain.fn.outs, Int, fun x => laws_heldCochain.f x.1 x.2.1 x.2.2.1, fun r => ((r, ()), (()))⟩
theorem laws_heldCochain.valid : Valid Try.prog 34 laws_heldCochain.con := fn_valid (f := laws_heldCochain.fn) (E := laws_heldCochain.E) (enc := laws_heldCochain.enc) ⟨ttOk, (conCons laws_heldInt64S.valid conNil)⟩ (Checked.mixed Try.checked) ⟨Try.func34, by kernel_rfl, by kernel_rfl, by kernel_rfl, by kernel_rfl, by decide, by kernel_rfl, by kernel_rfl⟩ (fun _ => rfl)
end Go.Proofs.Ytlkdhmijgpadaaa.P
set_option linter.unusedVariables false
namespace Go.Proofs.Ytlkdhmijgpadaaa.P
open Go Go.RowKit Go.Proofs.Ytlkdhmijgpadaaa.D
noncomputable def laws_FnExactFactorSetOfChoice.E : Env := { tt := TT, con := [(9, laws_szGroup.con), (13, laws_toGroup.con), (32, spec_FactorSetOfChoice.con), (33, impl_FactorSetOfChoice.con), (20, laws_eqCochain.con), (18, laws_eqGroup.con), (21, laws_markGroup.con), (23, laws_markCochain.con), (34, laws_heldCochain.con)], frz := [], rows := [], live := [], n := 101, pin := 0, nils := [] }
noncomputable def laws_FnExactFactorSetOfChoice.fn : D.Fn := { body := Try.f6.body.getD .skip, res := Try.f6.results.toList, ins := [.agg [.v (.sl 25 (.sl 2 (.int .i64)))], .one (.v (.int .i64))], outs := [.one (.v .bool)] }
def laws_FnExactFactorSetOfChoice.enc (y : lsd (flats laws_FnExactFactorSetOfChoice.fn.outs) × lsd (ios laws_FnExactFactorSetOfChoice.fn.ins)) : Bool := y.1.1
noncomputable def laws_FnExactFactorSetOfChoice.f (l0_0 : List (List Int)) (a1 : Int) : Option Bool := denF laws_FnExactFactorSetOfChoice.E laws_FnExactFactorSetOfChoice.fn laws_FnExactFactorSetOfChoice.enc (l0_0, a1, ())
set_option maxRecDepth 100000 in
theorem laws_FnExactFactorSetOfChoice.f_eq (l0_0 : List (List Int)) (a1 : Int) : laws_FnExactFactorSetOfChoice.f l0_0 a1 = (laws_szGroup.f l0_0 1048576).bind fun t18 => if t18 < 0 then (some true) else ((laws_toGroup.f l0_0).bind fun t23 => (spec_FactorSetOfChoice.f t23 a1).bind fun t25 => (laws_toGroup.f l0_0).bind fun t29 => (impl_FactorSetOfChoice.f t29 a1).bind fun t33 => (laws_eqCochain.f t33.1 t33.2.1 t25.1 t25.2.1).bind fun t38 => if t38 = true then (if t33.2.2 = t25.2.2 then ((laws_toGroup.f l0_0).bind fun t47 => (laws_eqGroup.f t29 t47).bind fun t48 => if t48 = true then ((laws_markGroup.f t29 1).bind fun t52 => if t52.1 < 0 then (some false) else ((laws_eqCochain.f t33.1 t33.2.1 t25.1 t25.2.1).bind fun t58 => if t58 = true then (if t33.2.2 = t25.2.2 then ((laws_markCochain.f t33.1 t33.2.1 1).bind fun t68 => (laws_heldCochain.f t33.1 t68.2 1).bind fun t71 => if t71 < 0 then (some false) else (if t71 = t68.1 then ((laws_toGroup.f l0_0).bind fun t79 => (impl_FactorSetOfChoice.f t79 a1).bind fun t81 => (laws_eqCochain.f t81.1 t81.2.1 t25.1 t25.2.1).bind fun t86 => if t86 = true then (if t81.2.2 = t25.2.2 then ((laws_heldCochain.f t33.1 t68.2 1).bind fun t95 => if t95 < 0 then (some false) else (if t95 = t68.1 then (some true) else (some false))) else (some false)) else (some false)) else (some false))) else (some false)) else (some false))) else (some false)) else (some false)) else (some false)) := by kernel_rfl
noncomputable def laws_FnExactFactorSetOfChoice.con : Con := ⟨laws_FnExactFactorSetOfChoice.fn.ins, laws_FnExactFactorSetOfChoice.fn.outs, Bool, fun x => laws_FnExactFactorSetOfChoice.f x.1 x.2.1, fun r => ((r, ()), (()))⟩
theorem laws_FnExactFactorSetOfChoice.valid : Valid Try.prog 6 laws_FnExactFactorSetOfChoice.con := fn_valid (f := laws_FnExactFactorSetOfChoice.fn) (E := laws_FnExactFactorSetOfChoice.E) (enc := laws_FnExactFactorSetOfChoice.enc) ⟨ttOk, (conCons laws_szGroup.valid (conCons laws_toGroup.valid (conCons spec_FactorSetOfChoice.valid (conCons impl_FactorSetOfChoice.valid (conCons laws_eqCochain.valid (conCons laws_eqGroup.valid (conCons laws_markGroup.valid (conCons laws_markCochain.valid (conCons laws_heldCochain.valid conNil)))))))))⟩ (Checked.mixed Try.checked) ⟨Try.func6, by kernel_rfl, by kernel_rfl, by kernel_rfl, by kernel_rfl, by decide, by kernel_rfl, by kernel_rfl⟩ (fun _ => rfl)
end Go.Proofs.Ytlkdhmijgpadaaa.P
set_option linter.unusedVariables false
namespace Go.Proofs.Ytlkdhmijgpadaaa.P
open Go Go.RowKit Go.Proofs.Ytlkdhmijgpadaaa.D
end Go.Proofs.Ytlkdhmijgpadaaa.P
set_option linter.unusedVariables false
namespace Go.Proofs.Ytlkdhmijgpadaaa.P
open Go Go.RowKit Go.Proofs.Ytlkdhmijgpadaaa.D
end Go.Proofs.Ytlkdhmijgpadaaa.P
set_option linter.unusedVariables false
namespace Go.Proofs.Ytlkdhmijgpadaaa.P
open Go Go.RowKit Go.Proofs.Ytlkdhmijgpadaaa.D
end Go.Proofs.Ytlkdhmijgpadaaa.P
set_option linter.unusedVariables false
namespace Go.Proofs.Ytlkdhmijgpadaaa.P
open Go Go.RowKit Go.Proofs.Ytlkdhmijgpadaaa.D
end Go.Proofs.Ytlkdhmijgpadaaa.P
set_option linter.unusedVariables false
namespace Go.Proofs.Ytlkdhmijgpadaaa.P
open Go Go.RowKit Go.Proofs.Ytlkdhmijgpadaaa.D
end Go.Proofs.Ytlkdhmijgpadaaa.P
set_option linter.unusedVariables false
namespace Go.Proofs.Ytlkdhmijgpadaaa.P
open Go Go.RowKit Go.Proofs.Ytlkdhmijgpadaaa.D
end Go.Proofs.Ytlkdhmijgpadaaa.P
set_option linter.unusedVariables false
namespace Go.Proofs.Ytlkdhmijgpadaaa.P
open Go Go.RowKit Go.Proofs.Ytlkdhmijgpadaaa.D
end Go.Proofs.Ytlkdhmijgpadaaa.P
set_option linter.unusedVariables false
namespace Go.Proofs.Ytlkdhmijgpadaaa.V
open Go Go.RowKit Go.Proofs.Ytlkdhmijgpadaaa.D
theorem w64 {x : Int} (h0 : -9223372036854775808 ≤ x) (h1 : x ≤ 9223372036854775807) : wrapI x = x := by unfold wrapI; rw [hid_eq]; unfold wrap64; omega
theorem wn {j : Nat} (h : j < 4611686018427387904) : wrapI ((j : Int) + 1) = ((j + 1 : Nat) : Int) := by rw [w64 (by omega) (by omega)]; omega
theorem go_pos {α : Type} {p : Prop} {inst : Decidable p} {a b r : α} (h : p) (k : a = r) : (if p then a else b) = r := by rw [if_pos h]; exact k
theorem go_neg {α : Type} {p : Prop} {inst : Decidable p} {a b r : α} (h : ¬ p) (k : b = r) : (if p then a else b) = r := by rw [if_neg h]; exact k
theorem go_bind {α β : Type} {c : Option α} {f : α → Option β} {a : α} {r : Option β} (h : c = some a) (k : f a = r) : c.bind f = r := by rw [h]; exact k
theorem maxLen_le : maxLen ≤ 9223372036854775807 := by unfold maxLen; omega
theorem le_maxLen {n : Nat} (h : n ≤ 9223372036854775807) : n ≤ maxLen := by unfold maxLen; omega
noncomputable def ite_ {α : Type} (p : Prop) (a b : α) : α := @ite α p (Classical.propDecidable p) a b
noncomputable def B (p : Prop) : Bool := @decide p (Classical.propDecidable p)
theorem B_pos {p : Prop} (h : p) : B p = true := by unfold B; simp [h]
theorem B_neg {p : Prop} (h : ¬ p) : B p = false := by unfold B; simp [h]
theorem B_not {p : Prop} (h : ¬ p) : ¬ (B p = true) := by rw [B_neg h]; decide
theorem B_congr {p q : Prop} (h : p ↔ q) : B p = B q := by rw [show p = q from propext h]
theorem B_decide (p : Prop) {inst : Decidable p} : decide p = B p := by by_cases h : p <;> simp [h, B]
theorem B_true : B True = true := B_pos trivial
theorem scan {R : Type} (n : Nat) (L : Int → R) (P : Int → Prop) (bad : R)
    (hs : ∀ i : Int, 0 ≤ i → i < n → (∀ j : Int, 0 ≤ j → j < i → P j) → (P i → L i = L (i + 1)) ∧ (¬ P i → L i = bad)) :
    ((∀ j : Int, 0 ≤ j → j < n → P j) ∧ L 0 = L n) ∨ (∃ m : Int, 0 ≤ m ∧ m < n ∧ (∀ j : Int, 0 ≤ j → j < m → P j) ∧ ¬ P m ∧ L 0 = L m ∧ L 0 = bad) := by
  suffices H : ∀ d m : Nat, m + d = n → (∀ j : Int, 0 ≤ j → j < m → P j) →
      ((∀ j : Int, 0 ≤ j → j < n → P j) ∧ L m = L n) ∨ (∃ i : Int, 0 ≤ i ∧ i < n ∧ (∀ j : Int, 0 ≤ j → j < i → P j) ∧ ¬ P i ∧ L m = L i ∧ L m = bad) by
    simpa using H n 0 (by omega) (fun j h0 h1 => by omega)
  intro d
  induction d with
  | zero =>
    intro m hm hp
    have : (m : Int) = n := by omega
    rw [this] at hp ⊢
    exact .inl ⟨hp, rfl⟩
  | succ d ih =>
    intro m hm hp
    obtain ⟨h1, h2⟩ := hs m (by omega) (by omega) hp
    by_cases h : P m
    · have hp' : ∀ j : Int, 0 ≤ j → j < ((m + 1 : Nat) : Int) → P j := fun j h0 hj => by
        by_cases e : j = m
        · rw [e]; exact h
        · exact hp j h0 (by omega)
      have := ih (m + 1) (by omega) hp'
      rwa [Int.natCast_add, Int.natCast_one, ← h1 h] at this
    · exact .inr ⟨m, by omega, by omega, hp, h, rfl, h2 h⟩
theorem scanB (n : Nat) (L : Int → Option Bool) (P : Int → Prop) (Q : Prop)
    (hs : ∀ i : Int, 0 ≤ i → i < n → (∀ j : Int, 0 ≤ j → j < i → P j) → (P i → L i = L (i + 1)) ∧ (¬ P i → L i = some false))
    (he : (∀ j : Int, 0 ≤ j → j < n → P j) → L n = some (B Q)) : L 0 = some (B ((∀ j : Int, 0 ≤ j → j < n → P j) ∧ Q)) := by
  rcases scan n L P (some false) hs with ⟨h1, h2⟩ | ⟨j, h0, h1, _, h2, _, h3⟩
  · rw [B_congr (show ((∀ j : Int, 0 ≤ j → j < n → P j) ∧ Q) ↔ Q from ⟨fun h => h.2, fun h => ⟨h1, h⟩⟩), h2]
    exact he h1
  · rw [B_neg fun h => h2 (h.1 j h0 h1)]
    exact h3
theorem scanT (n : Nat) (L : Int → Option Bool) (P : Int → Prop)
    (hs : ∀ i : Int, 0 ≤ i → i < n → (∀ j : Int, 0 ≤ j → j < i → P j) → (P i → L i = L (i + 1)) ∧ (¬ P i → L i = some false))
    (he : (∀ j : Int, 0 ≤ j → j < n → P j) → L n = some true) : L 0 = some (B (∀ j : Int, 0 ≤ j → j < n → P j)) := by
  have := scanB n L P True hs (fun h => by rw [B_true]; exact he h)
  rwa [B_congr (show ((∀ j : Int, 0 ≤ j → j < n → P j) ∧ True) ↔ _ from ⟨fun h => h.1, fun h => ⟨h, trivial⟩⟩)] at this
theorem scanI {R : Type} (n : Nat) (L : Int → R) (P : Int → Prop) (bad go : R)
    (hs : ∀ i : Int, 0 ≤ i → i < n → (∀ j : Int, 0 ≤ j → j < i → P j) → (P i → L i = L (i + 1)) ∧ (¬ P i → L i = bad)) (he : (∀ j : Int, 0 ≤ j → j < n → P j) → L n = go) :
    ((∀ j : Int, 0 ≤ j → j < n → P j) → L 0 = go) ∧ (¬ (∀ j : Int, 0 ≤ j → j < n → P j) → L 0 = bad) := by
  rcases scan n L P bad hs with ⟨h1, h2⟩ | ⟨j, h0, h1, _, h2, _, h3⟩
  · exact ⟨fun _ => h2.trans (he h1), fun h => absurd h1 h⟩
  · exact ⟨fun h => absurd (h j h0 h1) h2, fun _ => h3⟩
theorem up {R : Type} (n : Nat) (L : Nat → R) (h : ∀ i, i < n → L i = L (i + 1)) : L 0 = L n := by
  suffices H : ∀ m, m ≤ n → L 0 = L m from H n (Nat.le_refl _)
  intro m
  induction m with
  | zero => exact fun _ => rfl
  | succ m ih => exact fun hm => (ih (by omega)).trans (h m (by omega))
theorem rd_get {xs : List Int} {j : Nat} (h : j < xs.length) : rd xs (j : Int) = xs[j] := by simp [rd, List.getD_eq_getElem?_getD, List.getElem?_eq_getElem h]
theorem rd_at {xs : List Int} {i : Int} (h0 : 0 ≤ i) (h1 : i < xs.length) : xs[i.toNat]? = some (rd xs i) := by
  have h : i.toNat < xs.length := by omega
  simp [rd, List.getD_eq_getElem?_getD, List.getElem?_eq_getElem h]
theorem rd_mem {xs : List Int} {i : Int} (h0 : 0 ≤ i) (h1 : i < xs.length) : rd xs i ∈ xs := List.mem_of_getElem? (rd_at h0 h1)
theorem ext_rd {xs ys : List Int} (hl : xs.length = ys.length) (h : ∀ i : Int, 0 ≤ i → i < xs.length → rd xs i = rd ys i) : xs = ys := by
  apply List.ext_getElem hl
  intro i h1 h2
  have := h i (by omega) (by omega)
  simpa [rd, List.getD_eq_getElem?_getD, List.getElem?_eq_getElem h1, List.getElem?_eq_getElem h2] using this
theorem row_get {g : List (List Int)} {j : Nat} (h : j < g.length) : row g (j : Int) = g[j] := by simp [row, List.getD_eq_getElem?_getD, List.getElem?_eq_getElem h]
theorem row_mem {g : List (List Int)} {a : Int} (h0 : 0 ≤ a) (h1 : a < g.length) : row g a ∈ g := by
  have h : a.toNat < g.length := by omega
  unfold row
  rw [List.getD_eq_getElem?_getD, List.getElem?_eq_getElem h]
  exact List.getElem_mem h
theorem mem_row {g : List (List Int)} {r : List Int} (h : r ∈ g) : ∃ i : Int, 0 ≤ i ∧ i < g.length ∧ row g i = r := by
  obtain ⟨i, hi, rfl⟩ := List.mem_iff_getElem.1 h
  exact ⟨i, by omega, by omega, row_get hi⟩
theorem ext_row {xs ys : List (List Int)} (hl : xs.length = ys.length) (h : ∀ i : Int, 0 ≤ i → i < xs.length → row xs i = row ys i) : xs = ys := by
  apply List.ext_getElem hl
  intro i h1 h2
  have := h i (by omega) (by omega)
  rwa [row_get h1, row_get h2] at this
def AllIn (n : Int) (xs : List Int) : Prop := ∀ i : Int, 0 ≤ i → i < xs.length → 0 ≤ rd xs i ∧ rd xs i < n
theorem allIn_two {n x y : Int} (h0 : 0 ≤ x) (h1 : x < n) (h2 : 0 ≤ y) (h3 : y < n) : AllIn n [x, y] := by
  intro i i0 i1
  have : i = 0 ∨ i = 1 := by simp at i1; omega
  rcases this with rfl | rfl <;> simp [rd, *]
theorem allIn_three {n x y z : Int} (h0 : 0 ≤ x) (h1 : x < n) (h2 : 0 ≤ y) (h3 : y < n) (h4 : 0 ≤ z) (h5 : z < n) : AllIn n [x, y, z] := by
  intro i i0 i1
  have : i = 0 ∨ i = 1 ∨ i = 2 := by simp at i1; omega
  rcases this with rfl | rfl | rfl <;> simp [rd, *]
theorem AllIn.mem {n : Int} {xs : List Int} (h : AllIn n xs) {x : Int} (hx : x ∈ xs) : 0 ≤ x ∧ x < n := by
  obtain ⟨i, hi, rfl⟩ := List.mem_iff_getElem.1 hx
  have := h i (by omega) (by omega)
  rwa [rd_get hi] at this
theorem allIn_of {n : Int} {xs : List Int} (h : ∀ x ∈ xs, 0 ≤ x ∧ x < n) : AllIn n xs := fun i i0 i1 => h _ (rd_mem i0 i1)
theorem AllIn.drop {n : Int} {xs : List Int} (h : AllIn n xs) (j : Nat) : AllIn n (xs.drop j) := allIn_of fun x hx => h.mem (List.mem_of_mem_drop hx)
theorem AllIn.take {n : Int} {xs : List Int} (h : AllIn n xs) (j : Nat) : AllIn n (xs.take j) := allIn_of fun x hx => h.mem (List.mem_of_mem_take hx)
theorem AllIn.append {n : Int} {xs ys : List Int} (h : AllIn n xs) (k : AllIn n ys) : AllIn n (xs ++ ys) := allIn_of fun x hx => by
  rcases List.mem_append.1 hx with h' | h'
  · exact h.mem h'
  · exact k.mem h'
theorem tmod_nn {a m : Int} (h : 0 ≤ a) : Int.tmod a m = a % m := Int.tmod_eq_emod_of_nonneg h
theorem tdiv_nn {a m : Int} (h : 0 ≤ a) : Int.tdiv a m = a / m := Int.tdiv_eq_ediv_of_nonneg h
end Go.Proofs.Ytlkdhmijgpadaaa.V
set_option linter.unusedVariables false
set_option linter.unusedSimpArgs false
set_option maxHeartbeats 2000000
set_option maxRecDepth 20000
namespace Go.Proofs.Ytlkdhmijgpadaaa.V
open Go.RowKit Go.Proofs.Ytlkdhmijgpadaaa.D Go.Proofs.Ytlkdhmijgpadaaa.P
theorem copy_step {α : Type} (xs : List α) (d : α) (m : Nat) (hm : m < xs.length) :
    (xs.take m ++ List.replicate (xs.length - m) d).set m xs[m] = xs.take (m + 1) ++ List.replicate (xs.length - (m + 1)) d := by
  have h1 : (xs.take m).length = m := by rw [List.length_take]; omega
  rw [List.set_append, if_neg (by omega), h1, Nat.sub_self]
  rw [show xs.length - m = (xs.length - (m + 1)) + 1 by omega, List.replicate_succ, List.set_cons_zero]
  rw [List.take_succ_eq_append_getElem hm, List.append_assoc]; rfl
theorem copy_len {α : Type} (xs : List α) (d : α) (m : Nat) (hm : m ≤ xs.length) : (xs.take m ++ List.replicate (xs.length - m) d).length = xs.length := by
  rw [List.length_append, List.length_take, List.length_replicate]; omega
theorem toInt64S (xs : List Int) (hl : xs.length ≤ 1048576) : laws_toInt64S.f xs = some xs := by
  rw [laws_toInt64S.f_eq, Int.toNat_natCast]
  (with_reducible repeat (first | refine go_pos (by first | assumption | omega | rfl | exact B_pos (by omega)) ?_ | refine go_neg (by first | assumption | omega | decide | exact B_not (by omega)) ?_ | refine go_bind (by first | assumption) ?_ | dsimp only))
  have := up xs.length (fun m => laws_toInt64S.l0 xs (m : Int) (xs.take m ++ List.replicate (xs.length - m) 0)) (fun m hm => by
    have hw : wrapI ((m : Int) + 1) = ((m + 1 : Nat) : Int) := by rw [w64 (by omega) (by omega)]; omega
    have l1 := copy_len xs (0 : Int) m (by omega)
    rw [← copy_step xs 0 m hm, laws_toInt64S.l0_eq, hw, Int.toNat_natCast, rd_get hm]
    ((with_reducible repeat (first | refine go_pos (by first | assumption | omega | rfl | exact B_pos (by omega)) ?_ | refine go_neg (by first | assumption | omega | decide | exact B_not (by omega)) ?_ | refine go_bind (by first | assumption) ?_ | dsimp only)); first | done | (with_reducible rfl) | simp (disch := omega) only [w64] | (show False; done)))
  simp only [List.take_zero, List.nil_append, Nat.sub_zero, List.take_length, Nat.sub_self, List.replicate_zero, List.append_nil, Int.natCast_zero] at this
  rw [this, laws_toInt64S.l0_eq]
  ((with_reducible repeat (first | refine go_pos (by first | assumption | omega | rfl | exact B_pos (by omega)) ?_ | refine go_neg (by first | assumption | omega | decide | exact B_not (by omega)) ?_ | refine go_bind (by first | assumption) ?_ | dsimp only)); first | done | (with_reducible rfl) | simp (disch := omega) only [w64] | (show False; done))
theorem toInt64SS (g : List (List Int)) (hl : g.length ≤ 1048576) (hr : ∀ r ∈ g, r.length ≤ 1048576) : laws_toInt64SS.f g = some g := by
  rw [laws_toInt64SS.f_eq, Int.toNat_natCast]
  (with_reducible repeat (first | refine go_pos (by first | assumption | omega | rfl | exact B_pos (by omega)) ?_ | refine go_neg (by first | assumption | omega | decide | exact B_not (by omega)) ?_ | refine go_bind (by first | assumption) ?_ | dsimp only))
  have := up g.length (fun m => laws_toInt64SS.l0 g (m : Int) (g.take m ++ List.replicate (g.length - m) [])) (fun m hm => by
    have hw : wrapI ((m : Int) + 1) = ((m + 1 : Nat) : Int) := by rw [w64 (by omega) (by omega)]; omega
    have l1 := copy_len g ([] : List Int) m (by omega)
    have ht := toInt64S g[m] (hr _ (List.getElem_mem hm))
    rw [← copy_step g [] m hm, laws_toInt64SS.l0_eq, hw, Int.toNat_natCast, row_get hm]
    ((with_reducible repeat (first | refine go_pos (by first | assumption | omega | rfl | exact B_pos (by omega)) ?_ | refine go_neg (by first | assumption | omega | decide | exact B_not (by omega)) ?_ | refine go_bind (by first | assumption) ?_ | dsimp only)); first | done | (with_reducible rfl) | simp (disch := omega) only [w64] | (show False; done)))
  simp only [List.take_zero, List.nil_append, Nat.sub_zero, List.take_length, Nat.sub_self, List.replicate_zero, List.append_nil, Int.natCast_zero] at this
  rw [this, laws_toInt64SS.l0_eq]
  ((with_reducible repeat (first | refine go_pos (by first | assumption | omega | rfl | exact B_pos (by omega)) ?_ | refine go_neg (by first | assumption | omega | decide | exact B_not (by omega)) ?_ | refine go_bind (by first | assumption) ?_ | dsimp only)); first | done | (with_reducible rfl) | simp (disch := omega) only [w64] | (show False; done))
theorem toGroup (g : List (List Int)) (hl : g.length ≤ 1048576) (hr : ∀ r ∈ g, r.length ≤ 1048576) : laws_toGroup.f g = some g := by
  rw [laws_toGroup.f_eq]; ((with_reducible repeat (first | refine go_pos (by first | assumption | omega | rfl | exact B_pos (by omega)) ?_ | refine go_neg (by first | assumption | omega | decide | exact B_not (by omega)) ?_ | refine go_bind (by first | assumption | exact toInt64SS _ hl hr) ?_ | dsimp only)); first | done | (with_reducible rfl) | simp (disch := omega) only [w64] | (show False; done))
theorem eqInt64S (xs ys : List Int) (hl : xs.length ≤ maxLen) : laws_eqInt64S.f xs ys = some (B (xs = ys)) := by
  have hm := maxLen_le
  rw [laws_eqInt64S.f_eq]
  by_cases h : (xs.length : Int) = ys.length
  rotate_left
  · rw [B_neg fun e => h (by rw [e])]
    ((with_reducible repeat (first | refine go_pos (by first | assumption | omega | rfl | exact B_pos (by omega)) ?_ | refine go_neg (by first | assumption | omega | decide | exact B_not (by omega)) ?_ | refine go_bind (by first | assumption) ?_ | dsimp only)); first | done | (with_reducible rfl) | simp (disch := omega) only [w64] | (show False; done))
  (with_reducible repeat (first | refine go_pos (by first | assumption | omega | rfl | exact B_pos (by omega)) ?_ | refine go_neg (by first | assumption | omega | decide | exact B_not (by omega)) ?_ | refine go_bind (by first | assumption) ?_ | dsimp only))
  rw [B_congr (show xs = ys ↔ ∀ i : Int, 0 ≤ i → i < xs.length → rd xs i = rd ys i from ⟨fun e i _ _ => by rw [e], fun e => ext_rd (by omega) e⟩)]
  refine scanT xs.length (fun i => laws_eqInt64S.l0 xs ys i) (fun i => rd xs i = rd ys i) (fun i i0 i1 _ => ?_) (fun _ => by (rw [laws_eqInt64S.l0_eq]); ((with_reducible repeat (first | refine go_pos (by first | assumption | omega | rfl | exact B_pos (by omega)) ?_ | refine go_neg (by first | assumption | omega | decide | exact B_not (by omega)) ?_ | refine go_bind (by first | assumption) ?_ | dsimp only)); first | done | (with_reducible rfl) | simp (disch := omega) only [w64] | (show False; done)))
  refine ⟨fun h => ?_, fun h => ?_⟩ <;> (rw [laws_eqInt64S.l0_eq]) <;> ((with_reducible repeat (first | refine go_pos (by first | assumption | omega | rfl | exact B_pos (by omega)) ?_ | refine go_neg (by first | assumption | omega | decide | exact B_not (by omega)) ?_ | refine go_bind (by first | assumption) ?_ | dsimp only)); first | done | (with_reducible rfl) | simp (disch := omega) only [w64] | (show False; done))
theorem eqInt64SS (xs ys : List (List Int)) (hl : xs.length ≤ maxLen) (hr : ∀ r ∈ xs, r.length ≤ maxLen) : laws_eqInt64SS.f xs ys = some (B (xs = ys)) := by
  have hm := maxLen_le
  rw [laws_eqInt64SS.f_eq]
  by_cases h : (xs.length : Int) = ys.length
  rotate_left
  · rw [B_neg fun e => h (by rw [e])]
    ((with_reducible repeat (first | refine go_pos (by first | assumption | omega | rfl | exact B_pos (by omega)) ?_ | refine go_neg (by first | assumption | omega | decide | exact B_not (by omega)) ?_ | refine go_bind (by first | assumption) ?_ | dsimp only)); first | done | (with_reducible rfl) | simp (disch := omega) only [w64] | (show False; done))
  (with_reducible repeat (first | refine go_pos (by first | assumption | omega | rfl | exact B_pos (by omega)) ?_ | refine go_neg (by first | assumption | omega | decide | exact B_not (by omega)) ?_ | refine go_bind (by first | assumption) ?_ | dsimp only))
  rw [B_congr (show xs = ys ↔ ∀ i : Int, 0 ≤ i → i < xs.length → row xs i = row ys i from ⟨fun e i _ _ => by rw [e], fun e => ext_row (by omega) e⟩)]
  refine scanT xs.length (fun i => laws_eqInt64SS.l0 xs ys i) (fun i => row xs i = row ys i) (fun i i0 i1 _ => ?_) (fun _ => by (rw [laws_eqInt64SS.l0_eq]); ((with_reducible repeat (first | refine go_pos (by first | assumption | omega | rfl | exact B_pos (by omega)) ?_ | refine go_neg (by first | assumption | omega | decide | exact B_not (by omega)) ?_ | refine go_bind (by first | assumption) ?_ | dsimp only)); first | done | (with_reducible rfl) | simp (disch := omega) only [w64] | (show False; done)))
  have he := eqInt64S (row xs i) (row ys i) (hr _ (row_mem i0 i1))
  refine ⟨fun h => ?_, fun h => ?_⟩
  · rw [B_pos h] at he
    (rw [laws_eqInt64SS.l0_eq])
    ((with_reducible repeat (first | refine go_pos (by first | assumption | omega | rfl | exact B_pos (by omega)) ?_ | refine go_neg (by first | assumption | omega | decide | exact B_not (by omega)) ?_ | refine go_bind (by first | assumption) ?_ | dsimp only)); first | done | (with_reducible rfl) | simp (disch := omega) only [w64] | (show False; done))
  · rw [B_neg h] at he
    (rw [laws_eqInt64SS.l0_eq])
    ((with_reducible repeat (first | refine go_pos (by first | assumption | omega | rfl | exact B_pos (by omega)) ?_ | refine go_neg (by first | assumption | omega | decide | exact B_not (by omega)) ?_ | refine go_bind (by first | assumption) ?_ | dsimp only)); first | done | (with_reducible rfl) | simp (disch := omega) only [w64] | (show False; done))
theorem eqGroup (xs ys : List (List Int)) (hl : xs.length ≤ maxLen) (hr : ∀ r ∈ xs, r.length ≤ maxLen) : laws_eqGroup.f xs ys = some (B (xs = ys)) := by
  have he := eqInt64SS xs ys hl hr
  rw [laws_eqGroup.f_eq, he]
  by_cases h : xs = ys
  · rw [B_pos h]; rfl
  · rw [B_neg h]; rfl
theorem same_Group (xs : List (List Int)) (hl : xs.length ≤ maxLen) (hr : ∀ r ∈ xs, r.length ≤ maxLen) : laws_eqGroup.f xs xs = some true := by rw [eqGroup xs xs hl hr, B_pos rfl]
theorem szInt64S (xs : List Int) (left : Int) (hl : xs.length ≤ maxLen) (l0 : 0 ≤ left) (l1 : left ≤ 1048576) :
    ∃ t, laws_szInt64S.f xs left = some t ∧ (t < 0 ∨ (0 ≤ t ∧ t ≤ 1048576 ∧ xs.length ≤ 1048576)) := by
  have hm := maxLen_le
  rw [laws_szInt64S.f_eq, w64 (by omega) (by omega)]
  by_cases h : left - (xs.length : Int) < 0
  · exact ⟨_, if_pos h, .inl (by omega)⟩
  · exact ⟨_, if_neg h, .inr (by omega)⟩
theorem szInt64SS (g : List (List Int)) (left : Int) (hl : g.length ≤ maxLen) (hr : ∀ r ∈ g, r.length ≤ maxLen) (l0 : 0 ≤ left) (l1 : left ≤ 1048576) :
    ∃ t, laws_szInt64SS.f g left = some t ∧ (t < 0 ∨ (0 ≤ t ∧ t ≤ 1048576 ∧ g.length ≤ 1048576 ∧ ∀ r ∈ g, r.length ≤ 1048576)) := by
  have hm := maxLen_le
  rw [laws_szInt64SS.f_eq, w64 (by omega) (by omega)]
  by_cases h : left - (g.length : Int) < 0
  · exact ⟨_, if_pos h, .inl (by omega)⟩
  rw [if_neg h]
  have H : ∀ d m : Nat, m + d = g.length → ∀ s : Int, 0 ≤ s → s ≤ 1048576 → (∀ j, j < m → (row g j).length ≤ 1048576) → ∃ t, laws_szInt64SS.l0 g s (m : Int) = some t ∧ (t < 0 ∨ (0 ≤ t ∧ t ≤ 1048576 ∧ g.length ≤ 1048576 ∧ ∀ r ∈ g, r.length ≤ 1048576)) := by
    intro d
    induction d with
    | zero =>
      intro m hd s s0 s1 hs
      obtain rfl : m = g.length := by omega
      refine ⟨s, by (rw [laws_szInt64SS.l0_eq]); ((with_reducible repeat (first | refine go_pos (by first | assumption | omega | rfl | exact B_pos (by omega)) ?_ | refine go_neg (by first | assumption | omega | decide | exact B_not (by omega)) ?_ | refine go_bind (by first | assumption) ?_ | dsimp only)); first | done | (with_reducible rfl) | simp (disch := omega) only [w64] | (show False; done)), .inr ⟨s0, s1, by omega, fun r hr' => ?_⟩⟩
      obtain ⟨i, i0, i1, rfl⟩ := mem_row hr'
      have := hs i.toNat (by omega)
      rwa [show ((i.toNat : Nat) : Int) = i by omega] at this
    | succ d ih =>
      intro m hd s s0 s1 hs
      obtain ⟨t, ht, h⟩ := szInt64S (row g m) s (hr _ (row_mem (by omega) (by omega))) s0 s1
      have hw : wrapI ((m : Int) + 1) = ((m + 1 : Nat) : Int) := by rw [w64 (by omega) (by omega)]; omega
      rcases h with h | ⟨h0, h1, h2⟩
      · refine ⟨-1, ?_, .inl (by omega)⟩
        (rw [laws_szInt64SS.l0_eq])
        ((with_reducible repeat (first | refine go_pos (by first | assumption | omega | rfl | exact B_pos (by omega)) ?_ | refine go_neg (by first | assumption | omega | decide | exact B_not (by omega)) ?_ | refine go_bind (by first | assumption) ?_ | dsimp only)); first | done | (with_reducible rfl) | simp (disch := omega) only [w64] | (show False; done))
      · obtain ⟨t', ht', h'⟩ := ih (m + 1) (by omega) t h0 h1 (fun j hj => by
          by_cases e : j = m
          · rw [e]; exact h2
          · exact hs j (by omega))
        refine ⟨t', ?_, h'⟩
        (rw [laws_szInt64SS.l0_eq, hw])
        (with_reducible repeat (first | refine go_pos (by first | assumption | omega | rfl | exact B_pos (by omega)) ?_ | refine go_neg (by first | assumption | omega | decide | exact B_not (by omega)) ?_ | refine go_bind (by first | assumption) ?_ | dsimp only))
        exact ht'
  have := H g.length 0 (by omega) (left - g.length) (by omega) (by omega) (fun j hj => by omega)
  exact this
theorem szGroup (g : List (List Int)) (left : Int) (hl : g.length ≤ maxLen) (hr : ∀ r ∈ g, r.length ≤ maxLen) (l0 : 0 ≤ left) (l1 : left ≤ 1048576) :
    ∃ t, laws_szGroup.f g left = some t ∧ (t < 0 ∨ (0 ≤ t ∧ t ≤ 1048576 ∧ g.length ≤ 1048576 ∧ ∀ r ∈ g, r.length ≤ 1048576)) := by
  obtain ⟨t, ht, h⟩ := szInt64SS g left hl hr l0 l1
  rw [laws_szGroup.f_eq]
  rcases h with h | h
  · exact ⟨-1, by ((with_reducible repeat (first | refine go_pos (by first | assumption | omega | rfl | exact B_pos (by omega)) ?_ | refine go_neg (by first | assumption | omega | decide | exact B_not (by omega)) ?_ | refine go_bind (by first | assumption) ?_ | dsimp only)); first | done | (with_reducible rfl) | simp (disch := omega) only [w64] | (show False; done)), .inl (by omega)⟩
  · have := h.1
    exact ⟨t, by ((with_reducible repeat (first | refine go_pos (by first | assumption | omega | rfl | exact B_pos (by omega)) ?_ | refine go_neg (by first | assumption | omega | decide | exact B_not (by omega)) ?_ | refine go_bind (by first | assumption) ?_ | dsimp only)); first | done | (with_reducible rfl) | simp (disch := omega) only [w64] | (show False; done)), .inr h⟩
def MkS (a : Int) (n : Nat) : List Int := (List.range n).map fun (i : Nat) => a + (i : Int)
theorem MkS_length (a : Int) (n : Nat) : (MkS a n).length = n := by simp [MkS]
theorem MkS_rd {a : Int} {n : Nat} {i : Int} (h0 : 0 ≤ i) (h1 : i < n) : rd (MkS a n) i = a + i := by
  have h : i.toNat < n := by omega
  simp [rd, MkS, List.getD_eq_getElem?_getD, h]
  omega
theorem MkS_step (a : Int) (xs : List Int) (m : Nat) (hm : m < xs.length) : (MkS a m ++ xs.drop m).set m (a + m) = MkS a (m + 1) ++ xs.drop (m + 1) := by
  rw [List.set_append, if_neg (by rw [MkS_length]; omega), MkS_length, Nat.sub_self, List.drop_eq_getElem_cons hm, List.set_cons_zero]
  simp [MkS, List.range_succ]
theorem markS (xs : List Int) (a : Int) (h0 : 0 ≤ a) (h1 : a + xs.length ≤ 4611686018427387904) : laws_markInt64S.f xs a = some (a + xs.length, MkS a xs.length) := by
  rw [laws_markInt64S.f_eq]
  have := up xs.length (fun m => laws_markInt64S.l0 (a + (m : Int)) (m : Int) (MkS a m ++ xs.drop m)) (fun m hm => by
    have hw : wrapI ((m : Int) + 1) = ((m + 1 : Nat) : Int) := by rw [w64 (by omega) (by omega)]; omega
    have hw2 : wrapI (a + (m : Int) + 1) = a + ((m + 1 : Nat) : Int) := by rw [w64 (by omega) (by omega)]; omega
    have l1 : (MkS a m ++ xs.drop m).length = xs.length := by rw [List.length_append, MkS_length, List.length_drop]; omega
    rw [← MkS_step a xs m hm, laws_markInt64S.l0_eq, hw, hw2, Int.toNat_natCast]
    ((with_reducible repeat (first | refine go_pos (by first | assumption | omega | rfl | exact B_pos (by omega)) ?_ | refine go_neg (by first | assumption | omega | decide | exact B_not (by omega)) ?_ | refine go_bind (by first | assumption) ?_ | dsimp only)); first | done | (with_reducible rfl) | simp (disch := omega) only [w64] | (show False; done)))
  simp only [Int.natCast_zero, Int.add_zero, List.drop_zero, List.drop_length, List.append_nil, show MkS a 0 = [] from rfl, List.nil_append] at this
  have hl := MkS_length a xs.length
  rw [this, laws_markInt64S.l0_eq]
  ((with_reducible repeat (first | refine go_pos (by first | assumption | omega | rfl | exact B_pos (by omega)) ?_ | refine go_neg (by first | assumption | omega | decide | exact B_not (by omega)) ?_ | refine go_bind (by first | assumption) ?_ | dsimp only)); first | done | (with_reducible rfl) | simp (disch := omega) only [w64] | (show False; done))
theorem heldS (a : Int) (n : Nat) (h0 : 0 ≤ a) (h1 : a + n ≤ 4611686018427387904) : laws_heldInt64S.f (MkS a n) a = some (a + n) := by
  rw [laws_heldInt64S.f_eq]
  have hl := MkS_length a n
  have := up n (fun m => laws_heldInt64S.l0 (MkS a n) (a + (m : Int)) (m : Int)) (fun m hm => by
    have hw : wrapI ((m : Int) + 1) = ((m + 1 : Nat) : Int) := by rw [w64 (by omega) (by omega)]; omega
    have hw2 : wrapI (a + (m : Int) + 1) = a + ((m + 1 : Nat) : Int) := by rw [w64 (by omega) (by omega)]; omega
    have e := MkS_rd (a := a) (n := n) (i := m) (by omega) (by omega)
    rw [laws_heldInt64S.l0_eq, hw, hw2]
    ((with_reducible repeat (first | refine go_pos (by first | assumption | omega | rfl | exact B_pos (by omega)) ?_ | refine go_neg (by first | assumption | omega | decide | exact B_not (by omega)) ?_ | refine go_bind (by first | assumption) ?_ | dsimp only)); first | done | (with_reducible rfl) | simp (disch := omega) only [w64] | (show False; done)))
  simp only [Int.natCast_zero, Int.add_zero] at this
  rw [this, laws_heldInt64S.l0_eq]
  ((with_reducible repeat (first | refine go_pos (by first | assumption | omega | rfl | exact B_pos (by omega)) ?_ | refine go_neg (by first | assumption | omega | decide | exact B_not (by omega)) ?_ | refine go_bind (by first | assumption) ?_ | dsimp only)); first | done | (with_reducible rfl) | simp (disch := omega) only [w64] | (show False; done))
def tot : List (List Int) → Nat
  | [] => 0
  | r :: g => r.length + tot g
def MkSS (a : Int) : List (List Int) → List (List Int)
  | [] => []
  | r :: g => MkS a r.length :: MkSS (a + r.length) g
theorem tot_le (b : Nat) (g : List (List Int)) (h : ∀ r ∈ g, r.length ≤ b) : tot g ≤ g.length * b := by
  induction g with
  | nil => simp [tot]
  | cons r g ih =>
    have h1 := ih fun r hr => h r (List.mem_cons_of_mem _ hr)
    have h2 := h r (List.mem_cons_self ..)
    rw [List.length_cons, Nat.succ_mul, tot]
    omega
theorem tot_small {g : List (List Int)} (h1 : g.length ≤ 1048576) (h2 : ∀ r ∈ g, r.length ≤ 1048576) : tot g ≤ 1099511627776 :=
  Nat.le_trans (tot_le 1048576 g h2) (Nat.mul_le_mul_right 1048576 h1)
theorem markSS (g : List (List Int)) (a : Int) (h0 : 0 ≤ a) (h1 : a + tot g ≤ 4611686018427387904) (hl : g.length ≤ 4611686018427387904) : laws_markInt64SS.f g a = some (a + tot g, MkSS a g) := by
  rw [laws_markInt64SS.f_eq]
  suffices H : ∀ (g done : List (List Int)) (b : Int), 0 ≤ b → b + tot g ≤ 4611686018427387904 → done.length + g.length ≤ 4611686018427387904 → laws_markInt64SS.l0 b (done.length : Int) (done ++ g) = some (b + tot g, done ++ MkSS b g) from by
    simpa using H g [] a h0 h1 (by simpa using hl)
  intro g
  induction g with
  | nil =>
    intro done b b0 b1 hd
    rw [laws_markInt64SS.l0_eq, List.append_nil]
    have : b + ((tot [] : Nat) : Int) = b := by simp [tot]
    rw [this, MkSS, List.append_nil]
    ((with_reducible repeat (first | refine go_pos (by first | assumption | omega | rfl | exact B_pos (by omega)) ?_ | refine go_neg (by first | assumption | omega | decide | exact B_not (by omega)) ?_ | refine go_bind (by first | assumption) ?_ | dsimp only)); first | done | (with_reducible rfl) | simp (disch := omega) only [w64] | (show False; done))
  | cons r g ih =>
    intro done b b0 b1 hd
    simp only [tot, List.length_cons] at b1 hd
    have m1 : (done ++ r :: g).length = done.length + g.length + 1 := by rw [List.length_append, List.length_cons]; omega
    have hw : wrapI ((done.length : Int) + 1) = (((done ++ [MkS b r.length]).length : Nat) : Int) := by
      rw [w64 (by omega) (by omega), List.length_append, List.length_singleton]; omega
    have e : row (done ++ r :: g) (done.length : Int) = r := by simp [row, List.getD_eq_getElem?_getD]
    have e2 : (done ++ r :: g).set done.length (MkS b r.length) = (done ++ [MkS b r.length]) ++ g := by
      rw [List.set_append, if_neg (by omega), Nat.sub_self, List.set_cons_zero]; simp
    have hm := markS r b b0 (by omega)
    rw [laws_markInt64SS.l0_eq, hw, e, Int.toNat_natCast]
    (with_reducible repeat (first | refine go_pos (by first | assumption | omega | rfl | exact B_pos (by omega)) ?_ | refine go_neg (by first | assumption | omega | decide | exact B_not (by omega)) ?_ | refine go_bind (by first | assumption) ?_ | dsimp only))
    have := ih (done ++ [MkS b r.length]) (b + r.length) (by omega) (by omega) (by rw [List.length_append, List.length_singleton]; omega)
    rw [e2, this]
    simp only [MkSS, tot, List.append_assoc, List.singleton_append, Int.natCast_add, Int.add_assoc]
theorem markGroup (g : List (List Int)) (a : Int) (h0 : 0 ≤ a) (h1 : a + tot g ≤ 4611686018427387904) (hl : g.length ≤ 4611686018427387904) : laws_markGroup.f g a = some (a + tot g, MkSS a g) := by
  have := markSS g a h0 h1 hl
  rw [laws_markGroup.f_eq]; ((with_reducible repeat (first | refine go_pos (by first | assumption | omega | rfl | exact B_pos (by omega)) ?_ | refine go_neg (by first | assumption | omega | decide | exact B_not (by omega)) ?_ | refine go_bind (by first | assumption) ?_ | dsimp only)); first | done | (with_reducible rfl) | simp (disch := omega) only [w64] | (show False; done))
end Go.Proofs.Ytlkdhmijgpadaaa.V
set_option linter.unusedVariables false
namespace Go.Proofs.Ytlkdhmijgpadaaa.P
open Go Go.RowKit Go.Proofs.Ytlkdhmijgpadaaa.D
end Go.Proofs.Ytlkdhmijgpadaaa.P
set_option linter.unusedVariables false
namespace Go.Proofs.Ytlkdhmijgpadaaa.P
open Go Go.RowKit Go.Proofs.Ytlkdhmijgpadaaa.D
end Go.Proofs.Ytlkdhmijgpadaaa.P
set_option linter.unusedVariables false
set_option linter.unusedSimpArgs false
set_option maxHeartbeats 2000000
namespace Go.Proofs.Ytlkdhmijgpadaaa.V
open Go.RowKit Go.Proofs.Ytlkdhmijgpadaaa.D Go.Proofs.Ytlkdhmijgpadaaa.P
theorem eqCochain (m n : Int) (u v : List Int) (hl : u.length ≤ maxLen) : laws_eqCochain.f m u n v = some (B (m = n ∧ u = v)) := by
  have he := eqInt64S u v hl
  rw [laws_eqCochain.f_eq]
  by_cases h : m = n ∧ u = v
  · rw [B_pos h.2] at he; rw [B_pos h]; ((with_reducible repeat (first | refine go_pos (by first | assumption | omega | rfl | exact B_pos (by omega)) ?_ | refine go_neg (by first | assumption | omega | decide | exact B_not (by omega)) ?_ | refine go_bind (by first | assumption) ?_ | dsimp only)); first | done | (with_reducible rfl) | simp (disch := omega) only [w64] | (show False; done))
  · rw [B_neg h]
    by_cases h1 : m = n
    · rw [B_neg fun k => h ⟨h1, k⟩] at he; ((with_reducible repeat (first | refine go_pos (by first | assumption | omega | rfl | exact B_pos (by omega)) ?_ | refine go_neg (by first | assumption | omega | decide | exact B_not (by omega)) ?_ | refine go_bind (by first | assumption) ?_ | dsimp only)); first | done | (with_reducible rfl) | simp (disch := omega) only [w64] | (show False; done))
    · ((with_reducible repeat (first | refine go_pos (by first | assumption | omega | rfl | exact B_pos (by omega)) ?_ | refine go_neg (by first | assumption | omega | decide | exact B_not (by omega)) ?_ | refine go_bind (by first | assumption) ?_ | dsimp only)); first | done | (with_reducible rfl) | simp (disch := omega) only [w64] | (show False; done))
theorem same_Cochain (m : Int) (u : List Int) (hl : u.length ≤ maxLen) : laws_eqCochain.f m u m u = some true := by rw [eqCochain m m u u hl, B_pos ⟨rfl, rfl⟩]
theorem markCochain (m : Int) (xs : List Int) (a : Int) (h0 : 0 ≤ a) (h1 : a + xs.length ≤ 4611686018427387904) : laws_markCochain.f m xs a = some (a + xs.length, MkS a xs.length) := by
  have := markS xs a h0 h1
  rw [laws_markCochain.f_eq]; ((with_reducible repeat (first | refine go_pos (by first | assumption | omega | rfl | exact B_pos (by omega)) ?_ | refine go_neg (by first | assumption | omega | decide | exact B_not (by omega)) ?_ | refine go_bind (by first | assumption) ?_ | dsimp only)); first | done | (with_reducible rfl) | simp (disch := omega) only [w64] | (show False; done))
theorem heldCochain (m : Int) (a : Int) (n : Nat) (h0 : 0 ≤ a) (h1 : a + n ≤ 4611686018427387904) : laws_heldCochain.f m (MkS a n) a = some (a + n) := by
  have := heldS a n h0 h1
  rw [laws_heldCochain.f_eq]; ((with_reducible repeat (first | refine go_pos (by first | assumption | omega | rfl | exact B_pos (by omega)) ?_ | refine go_neg (by first | assumption | omega | decide | exact B_not (by omega)) ?_ | refine go_bind (by first | assumption) ?_ | dsimp only)); first | done | (with_reducible rfl) | simp (disch := omega) only [w64] | (show False; done))
end Go.Proofs.Ytlkdhmijgpadaaa.V
set_option linter.unusedVariables false
namespace Go.Proofs.Ytlkdhmijgpadaaa.P
open Go Go.RowKit Go.Proofs.Ytlkdhmijgpadaaa.D
end Go.Proofs.Ytlkdhmijgpadaaa.P
set_option linter.unusedVariables false
namespace Go.Proofs.Ytlkdhmijgpadaaa.P
open Go Go.RowKit Go.Proofs.Ytlkdhmijgpadaaa.D
end Go.Proofs.Ytlkdhmijgpadaaa.P
set_option linter.unusedVariables false
namespace Go.Proofs.Ytlkdhmijgpadaaa.P
open Go Go.RowKit Go.Proofs.Ytlkdhmijgpadaaa.D
end Go.Proofs.Ytlkdhmijgpadaaa.P
set_option linter.unusedVariables false
namespace Go.Proofs.Ytlkdhmijgpadaaa.P
open Go Go.RowKit Go.Proofs.Ytlkdhmijgpadaaa.D
end Go.Proofs.Ytlkdhmijgpadaaa.P
set_option linter.unusedVariables false
namespace Go.Proofs.Ytlkdhmijgpadaaa.P
open Go Go.RowKit Go.Proofs.Ytlkdhmijgpadaaa.D
end Go.Proofs.Ytlkdhmijgpadaaa.P
set_option linter.unusedVariables false
namespace Go.Proofs.Ytlkdhmijgpadaaa.P
open Go Go.RowKit Go.Proofs.Ytlkdhmijgpadaaa.D
end Go.Proofs.Ytlkdhmijgpadaaa.P
set_option linter.unusedVariables false
namespace Go.Proofs.Ytlkdhmijgpadaaa.P
open Go Go.RowKit Go.Proofs.Ytlkdhmijgpadaaa.D
end Go.Proofs.Ytlkdhmijgpadaaa.P
set_option linter.unusedVariables false
namespace Go.Proofs.Ytlkdhmijgpadaaa.P
open Go Go.RowKit Go.Proofs.Ytlkdhmijgpadaaa.D
end Go.Proofs.Ytlkdhmijgpadaaa.P
set_option linter.unusedVariables false
namespace Go.Proofs.Ytlkdhmijgpadaaa.P
open Go Go.RowKit Go.Proofs.Ytlkdhmijgpadaaa.D
end Go.Proofs.Ytlkdhmijgpadaaa.P
set_option linter.unusedVariables false
namespace Go.Proofs.Ytlkdhmijgpadaaa.P
open Go Go.RowKit Go.Proofs.Ytlkdhmijgpadaaa.D
end Go.Proofs.Ytlkdhmijgpadaaa.P
set_option linter.unusedVariables false
namespace Go.Proofs.Ytlkdhmijgpadaaa.P
open Go Go.RowKit Go.Proofs.Ytlkdhmijgpadaaa.D
end Go.Proofs.Ytlkdhmijgpadaaa.P
set_option linter.unusedVariables false
namespace Go.Proofs.Ytlkdhmijgpadaaa.P
open Go Go.RowKit Go.Proofs.Ytlkdhmijgpadaaa.D
noncomputable def spec_l03List.E : Env := { tt := TT, con := [(84, spec_l01N.con)], frz := [], rows := [], live := [(3, [2, 7, 8, 9])], n := 32, pin := 0, nils := [] }
noncomputable def spec_l03List.fn : D.Fn := { body := Try.f135.body.getD .skip, res := Try.f135.results.toList, ins := [.agg [.v (.sl 25 (.sl 2 (.int .i64)))], .one (.v (.int .i64)), .one (.v (.int .i64))], outs := [.one (.own 2 true (.int .i64))] }
def spec_l03List.enc (y : lsd (flats spec_l03List.fn.outs) × lsd (ios spec_l03List.fn.ins)) : (List Int) := y.1.1
noncomputable def spec_l03List.f (l0_0 : List (List Int)) (a1 : Int) (a2 : Int) : Option (List Int) := denF spec_l03List.E spec_l03List.fn spec_l03List.enc (l0_0, a1, a2, ())
noncomputable def spec_l03List.l0 (x2 : Int) (x8 : Int) (x9 : Int) (r0 : List Int) : Option (List Int) := denAt spec_l03List.E spec_l03List.fn spec_l03List.enc [1, 1, 0, 1, 0] { fr := [(2, .lf (.int .i64 x2)), (7, .lf (.own 0)), (8, .lf (.int .i64 x8)), (9, .lf (.int .i64 x9))], ob := [(0, .row 2 true (.int .i64) r0)], nx := 1 }
set_option maxRecDepth 100000 in
theorem spec_l03List.f_eq (l0_0 : List (List Int)) (a1 : Int) (a2 : Int) : spec_l03List.f l0_0 a1 a2 = if a1 = a1 then (if 0 ≤ a1 then (if (a1 : Int).toNat ≤ 17592186044416 then ((spec_l01N.f l0_0).bind fun t13 => spec_l03List.l0 a2 (wrapI (t13 - 1)) (wrapI (a1 - 1)) (List.replicate (a1 : Int).toNat (0 : Int))) else none) else none) else none := by kernel_rfl
set_option maxRecDepth 100000 in
theorem spec_l03List.l0_eq (x2 : Int) (x8 : Int) (x9 : Int) (r0 : List Int) : spec_l03List.l0 x2 x8 x9 r0 = if x9 ≥ 0 then (if x8 = 0 then none else (if 0 ≤ x9 then (if x9 < (r0.length : Int) then (if 0 ≤ x9 then (if x9 < (r0.length : Int) then (if x8 = 0 then none else (spec_l03List.l0 (wrapI ((x2 : Int).tdiv x8)) x8 (wrapI (x9 - 1)) (r0.set (x9 : Int).toNat (wrapI (((x2 : Int).tmod x8) + 1))))) else none) else none) else none) else none)) else (some r0) := (loop_unfold _ _ _ _).trans (by kernel_rfl)
end Go.Proofs.Ytlkdhmijgpadaaa.P
set_option linter.unusedVariables false
namespace Go.Proofs.Ytlkdhmijgpadaaa.P
open Go Go.RowKit Go.Proofs.Ytlkdhmijgpadaaa.D
end Go.Proofs.Ytlkdhmijgpadaaa.P
set_option linter.unusedVariables false
namespace Go.Proofs.Ytlkdhmijgpadaaa.P
open Go Go.RowKit Go.Proofs.Ytlkdhmijgpadaaa.D
end Go.Proofs.Ytlkdhmijgpadaaa.P
set_option linter.unusedVariables false
namespace Go.Proofs.Ytlkdhmijgpadaaa.P
open Go Go.RowKit Go.Proofs.Ytlkdhmijgpadaaa.D
end Go.Proofs.Ytlkdhmijgpadaaa.P
set_option linter.unusedVariables false
namespace Go.Proofs.Ytlkdhmijgpadaaa.P
open Go Go.RowKit Go.Proofs.Ytlkdhmijgpadaaa.D
end Go.Proofs.Ytlkdhmijgpadaaa.P
set_option linter.unusedVariables false
namespace Go.Proofs.Ytlkdhmijgpadaaa.P
open Go Go.RowKit Go.Proofs.Ytlkdhmijgpadaaa.D
end Go.Proofs.Ytlkdhmijgpadaaa.P
set_option linter.unusedVariables false
namespace Go.Proofs.Ytlkdhmijgpadaaa.P
open Go Go.RowKit Go.Proofs.Ytlkdhmijgpadaaa.D
end Go.Proofs.Ytlkdhmijgpadaaa.P
set_option linter.unusedVariables false
namespace Go.Proofs.Ytlkdhmijgpadaaa.P
open Go Go.RowKit Go.Proofs.Ytlkdhmijgpadaaa.D
end Go.Proofs.Ytlkdhmijgpadaaa.P
set_option linter.unusedVariables false
namespace Go.Proofs.Ytlkdhmijgpadaaa.P
open Go Go.RowKit Go.Proofs.Ytlkdhmijgpadaaa.D
end Go.Proofs.Ytlkdhmijgpadaaa.P
set_option linter.unusedVariables false
namespace Go.Proofs.Ytlkdhmijgpadaaa.P
open Go Go.RowKit Go.Proofs.Ytlkdhmijgpadaaa.D
end Go.Proofs.Ytlkdhmijgpadaaa.P
set_option linter.unusedVariables false
namespace Go.Proofs.Ytlkdhmijgpadaaa.P
open Go Go.RowKit Go.Proofs.Ytlkdhmijgpadaaa.D
end Go.Proofs.Ytlkdhmijgpadaaa.P
set_option linter.unusedVariables false
namespace Go.Proofs.Ytlkdhmijgpadaaa.P
open Go Go.RowKit Go.Proofs.Ytlkdhmijgpadaaa.D
end Go.Proofs.Ytlkdhmijgpadaaa.P
set_option linter.unusedVariables false
namespace Go.Proofs.Ytlkdhmijgpadaaa.P
open Go Go.RowKit Go.Proofs.Ytlkdhmijgpadaaa.D
end Go.Proofs.Ytlkdhmijgpadaaa.P
set_option linter.unusedVariables false
namespace Go.Proofs.Ytlkdhmijgpadaaa.P
open Go Go.RowKit Go.Proofs.Ytlkdhmijgpadaaa.D
end Go.Proofs.Ytlkdhmijgpadaaa.P
set_option linter.unusedVariables false
namespace Go.Proofs.Ytlkdhmijgpadaaa.P
open Go Go.RowKit Go.Proofs.Ytlkdhmijgpadaaa.D
end Go.Proofs.Ytlkdhmijgpadaaa.P
set_option linter.unusedVariables false
namespace Go.Proofs.Ytlkdhmijgpadaaa.P
open Go Go.RowKit Go.Proofs.Ytlkdhmijgpadaaa.D
end Go.Proofs.Ytlkdhmijgpadaaa.P
set_option linter.unusedVariables false
namespace Go.Proofs.Ytlkdhmijgpadaaa.P
open Go Go.RowKit Go.Proofs.Ytlkdhmijgpadaaa.D
end Go.Proofs.Ytlkdhmijgpadaaa.P
set_option linter.unusedVariables false
namespace Go.Proofs.Ytlkdhmijgpadaaa.P
open Go Go.RowKit Go.Proofs.Ytlkdhmijgpadaaa.D
end Go.Proofs.Ytlkdhmijgpadaaa.P
set_option linter.unusedVariables false
namespace Go.Proofs.Ytlkdhmijgpadaaa.P
open Go Go.RowKit Go.Proofs.Ytlkdhmijgpadaaa.D
end Go.Proofs.Ytlkdhmijgpadaaa.P
set_option linter.unusedVariables false
namespace Go.Proofs.Ytlkdhmijgpadaaa.P
open Go Go.RowKit Go.Proofs.Ytlkdhmijgpadaaa.D
end Go.Proofs.Ytlkdhmijgpadaaa.P
set_option linter.unusedVariables false
namespace Go.Proofs.Ytlkdhmijgpadaaa.P
open Go Go.RowKit Go.Proofs.Ytlkdhmijgpadaaa.D
end Go.Proofs.Ytlkdhmijgpadaaa.P
set_option linter.unusedVariables false
namespace Go.Proofs.Ytlkdhmijgpadaaa.P
open Go Go.RowKit Go.Proofs.Ytlkdhmijgpadaaa.D
end Go.Proofs.Ytlkdhmijgpadaaa.P
set_option linter.unusedVariables false
namespace Go.Proofs.Ytlkdhmijgpadaaa.P
open Go Go.RowKit Go.Proofs.Ytlkdhmijgpadaaa.D
end Go.Proofs.Ytlkdhmijgpadaaa.P
set_option linter.unusedVariables false
namespace Go.Proofs.Ytlkdhmijgpadaaa.P
open Go Go.RowKit Go.Proofs.Ytlkdhmijgpadaaa.D
end Go.Proofs.Ytlkdhmijgpadaaa.P
set_option linter.unusedVariables false
set_option linter.unusedSimpArgs false
set_option maxHeartbeats 2000000
set_option maxRecDepth 20000
namespace Go.Proofs.Ytlkdhmijgpadaaa.V
open Go.RowKit Go.Proofs.Ytlkdhmijgpadaaa.D Go.Proofs.Ytlkdhmijgpadaaa.P
theorem areIn (n : Int) (xs : List Int) (hl : xs.length ≤ maxLen) : impl_areIn.f n xs = some (B (AllIn n xs)) := by
  have hm := maxLen_le
  rw [impl_areIn.f_eq]
  refine scanT xs.length (fun i => impl_areIn.l0 n xs (xs.length : Int) i) (fun i => 0 ≤ rd xs i ∧ rd xs i < n) (fun i h0 h1 _ => ?_) (fun _ => ?_)
  · refine ⟨fun h => ?_, fun h => ?_⟩ <;> (rw [impl_areIn.l0_eq])
    · ((with_reducible repeat (first | refine go_pos (by first | assumption | omega | rfl | exact B_pos (by omega)) ?_ | refine go_neg (by first | assumption | omega | decide | exact B_not (by omega)) ?_ | refine go_bind (by first | assumption) ?_ | dsimp only)); first | done | (with_reducible rfl) | simp (disch := omega) only [w64] | (show False; done))
    · by_cases h2 : rd xs i < 0 <;> ((with_reducible repeat (first | refine go_pos (by first | assumption | omega | rfl | exact B_pos (by omega)) ?_ | refine go_neg (by first | assumption | omega | decide | exact B_not (by omega)) ?_ | refine go_bind (by first | assumption) ?_ | dsimp only)); first | done | (with_reducible rfl) | simp (disch := omega) only [w64] | (show False; done))
  · (rw [impl_areIn.l0_eq])
    ((with_reducible repeat (first | refine go_pos (by first | assumption | omega | rfl | exact B_pos (by omega)) ?_ | refine go_neg (by first | assumption | omega | decide | exact B_not (by omega)) ?_ | refine go_bind (by first | assumption) ?_ | dsimp only)); first | done | (with_reducible rfl) | simp (disch := omega) only [w64] | (show False; done))
theorem index_ (xs : List Int) (x : Int) (hl : xs.length ≤ maxLen) :
    ((∀ i : Int, 0 ≤ i → i < xs.length → rd xs i ≠ x) ∧ slices_Index_int64.f xs x = some (-1)) ∨
    ∃ i : Int, 0 ≤ i ∧ i < xs.length ∧ (∀ j : Int, 0 ≤ j → j < i → rd xs j ≠ x) ∧ rd xs i = x ∧ slices_Index_int64.f xs x = some i := by
  have hm := maxLen_le
  rw [slices_Index_int64.f_eq]
  suffices H : ∀ d m : Nat, m + d = xs.length → (∀ j : Int, 0 ≤ j → j < m → rd xs j ≠ x) →
      ((∀ i : Int, 0 ≤ i → i < xs.length → rd xs i ≠ x) ∧ slices_Index_int64.l0 xs x (xs.length : Int) m = some (-1)) ∨
      ∃ i : Int, 0 ≤ i ∧ i < xs.length ∧ (∀ j : Int, 0 ≤ j → j < i → rd xs j ≠ x) ∧ rd xs i = x ∧ slices_Index_int64.l0 xs x (xs.length : Int) m = some i from
    H xs.length 0 (by omega) (fun j h0 h1 => by omega)
  intro d
  induction d with
  | zero =>
    intro m hd hp
    obtain rfl : m = xs.length := by omega
    refine .inl ⟨hp, ?_⟩
    (rw [slices_Index_int64.l0_eq])
    ((with_reducible repeat (first | refine go_pos (by first | assumption | omega | rfl | exact B_pos (by omega)) ?_ | refine go_neg (by first | assumption | omega | decide | exact B_not (by omega)) ?_ | refine go_bind (by first | assumption) ?_ | dsimp only)); first | done | (with_reducible rfl) | simp (disch := omega) only [w64] | (show False; done))
  | succ d ih =>
    intro m hd hp
    by_cases h2 : x = rd xs m
    · refine .inr ⟨m, by omega, by omega, hp, h2.symm, ?_⟩
      (rw [slices_Index_int64.l0_eq])
      ((with_reducible repeat (first | refine go_pos (by first | assumption | omega | rfl | exact B_pos (by omega)) ?_ | refine go_neg (by first | assumption | omega | decide | exact B_not (by omega)) ?_ | refine go_bind (by first | assumption) ?_ | dsimp only)); first | done | (with_reducible rfl) | simp (disch := omega) only [w64] | (show False; done))
    · have st : slices_Index_int64.l0 xs x (xs.length : Int) m = slices_Index_int64.l0 xs x (xs.length : Int) ((m + 1 : Nat) : Int) := by
        rw [Int.natCast_add, Int.natCast_one]
        (rw [slices_Index_int64.l0_eq])
        ((with_reducible repeat (first | refine go_pos (by first | assumption | omega | rfl | exact B_pos (by omega)) ?_ | refine go_neg (by first | assumption | omega | decide | exact B_not (by omega)) ?_ | refine go_bind (by first | assumption) ?_ | dsimp only)); first | done | (with_reducible rfl) | simp (disch := omega) only [w64] | (show False; done))
      rw [st]
      refine ih (m + 1) (by omega) fun j k0 k1 => ?_
      by_cases e : j = m
      · rw [e]; exact fun h => h2 h.symm
      · exact hp j k0 (by omega)
theorem contains_ (xs : List Int) (x : Int) (hl : xs.length ≤ maxLen) : slices_Contains_int64.f xs x = some (B (∃ i : Int, 0 ≤ i ∧ i < xs.length ∧ rd xs i = x)) := by
  rw [slices_Contains_int64.f_eq]
  rcases index_ xs x hl with ⟨h, e⟩ | ⟨i, h0, h1, _, h2, e⟩
  · rw [e, B_neg fun ⟨i, h0, h1, h2⟩ => h i h0 h1 h2]; rfl
  · rw [e, B_pos ⟨i, h0, h1, h2⟩]; simp [h0]
structure Grp (g : List (List Int)) : Prop where
  n1 : 1 ≤ g.length
  n8 : g.length ≤ 8
  row : ∀ a : Int, 0 ≤ a → a < g.length → (row g a).length = g.length
  ent : ∀ a b : Int, 0 ≤ a → a < g.length → 0 ≤ b → b < g.length → 0 ≤ T g a b ∧ T g a b < g.length
  one : ∀ a : Int, 0 ≤ a → a < g.length → T g 0 a = a
  one' : ∀ a : Int, 0 ≤ a → a < g.length → T g a 0 = a
  assoc : ∀ a b c : Int, 0 ≤ a → a < g.length → 0 ≤ b → b < g.length → 0 ≤ c → c < g.length → T g (T g a b) c = T g a (T g b c)
  inv : ∀ a : Int, 0 ≤ a → a < g.length → ∃ b : Int, 0 ≤ b ∧ b < g.length ∧ T g a b = 0
theorem Grp.inv2 {g : List (List Int)} (h : Grp g) {a : Int} (h0 : 0 ≤ a) (h1 : a < g.length) : ∃ b : Int, 0 ≤ b ∧ b < g.length ∧ T g a b = 0 ∧ T g b a = 0 := by
  obtain ⟨b, b0, b1, hb⟩ := h.inv a h0 h1
  obtain ⟨c, c0, c1, hc⟩ := h.inv b b0 b1
  refine ⟨b, b0, b1, hb, ?_⟩
  have hac : c = a := by
    have e1 := h.assoc a b c h0 h1 b0 b1 c0 c1
    rw [hb, hc, h.one c c0 c1, h.one' a h0 h1] at e1
    exact e1
  rw [← hac]; exact hc
theorem rows_len {g : List (List Int)} (hr : ∀ r ∈ g, r.length ≤ maxLen) {a : Int} (h0 : 0 ≤ a) (h1 : a < g.length) : (row g a).length ≤ maxLen := hr _ (row_mem h0 h1)
def Tab (g : List (List Int)) : Prop := ∀ a : Int, 0 ≤ a → a < g.length → (row g a).length = g.length ∧ AllIn g.length (row g a)
def Law (g : List (List Int)) (a : Int) : Prop := T g 0 a = a ∧ T g a 0 = a ∧ (∃ b : Int, 0 ≤ b ∧ b < g.length ∧ T g a b = 0) ∧ ∀ b : Int, 0 ≤ b → b < g.length → ∀ c : Int, 0 ≤ c → c < g.length → T g (T g a b) c = T g a (T g b c)
theorem grp_iff (g : List (List Int)) : Grp g ↔ (1 ≤ g.length ∧ g.length ≤ 8) ∧ Tab g ∧ ∀ a : Int, 0 ≤ a → a < g.length → Law g a := by
  constructor
  · intro h
    refine ⟨⟨h.n1, h.n8⟩, fun a h0 h1 => ⟨h.row a h0 h1, fun i i0 i1 => ?_⟩, fun a h0 h1 => ⟨h.one a h0 h1, h.one' a h0 h1, h.inv a h0 h1, fun b b0 b1 c c0 c1 => h.assoc a b c h0 h1 b0 b1 c0 c1⟩⟩
    have := h.row a h0 h1
    exact h.ent a i h0 h1 i0 (by omega)
  · rintro ⟨⟨h1, h8⟩, ht, hl⟩
    refine ⟨h1, h8, fun a a0 a1 => (ht a a0 a1).1, fun a b a0 a1 b0 b1 => ?_, fun a a0 a1 => (hl a a0 a1).1, fun a a0 a1 => (hl a a0 a1).2.1, fun a b c a0 a1 b0 b1 c0 c1 => (hl a a0 a1).2.2.2 b b0 b1 c c0 c1, fun a a0 a1 => (hl a a0 a1).2.2.1⟩
    have := (ht a a0 a1).1
    exact (ht a a0 a1).2 b b0 (by omega)
theorem isGroup (g : List (List Int)) (hl : g.length ≤ maxLen) (hr : ∀ r ∈ g, r.length ≤ maxLen) : impl_IsGroup.f g = some (B (Grp g)) := by
  have hm := maxLen_le
  rw [B_congr (grp_iff g)]
  (rw [impl_IsGroup.f_eq])
  by_cases c1 : (g.length : Int) < 1 ∨ (g.length : Int) > 8
  · rw [B_neg fun h => by omega]
    by_cases c2 : (g.length : Int) < 1 <;> ((with_reducible repeat (first | refine go_pos (by first | assumption | omega | rfl | exact B_pos (by omega)) ?_ | refine go_neg (by first | assumption | omega | decide | exact B_not (by omega)) ?_ | refine go_bind (by first | assumption | exact impl_order.f_eq _) ?_ | dsimp only)); first | done | (with_reducible rfl) | simp (disch := omega) only [w64] | (show False; done))
  rw [B_congr (show ((1 ≤ g.length ∧ g.length ≤ 8) ∧ Tab g ∧ ∀ a : Int, 0 ≤ a → a < g.length → Law g a) ↔ (Tab g ∧ ∀ a : Int, 0 ≤ a → a < g.length → Law g a) from ⟨fun h => h.2, fun h => ⟨by omega, h⟩⟩)]
  (with_reducible repeat (first | refine go_pos (by first | assumption | omega | rfl | exact B_pos (by omega)) ?_ | refine go_neg (by first | assumption | omega | decide | exact B_not (by omega)) ?_ | refine go_bind (by first | assumption | exact impl_order.f_eq _) ?_ | dsimp only))
  refine scanB g.length (fun i => impl_IsGroup.l0 (g.length : Int) g (g.length : Int) i g) (fun a => (row g a).length = g.length ∧ AllIn g.length (row g a)) _ (fun i h0 h1 _ => ?_) (fun ht => ?_)
  · have ha := areIn g.length (row g i) (rows_len hr h0 h1)
    refine ⟨fun h => ?_, fun h => ?_⟩ <;> (rw [impl_IsGroup.l0_eq])
    · have h1 := h.1
      rw [B_pos h.2] at ha
      ((with_reducible repeat (first | refine go_pos (by first | assumption | omega | rfl | exact B_pos (by omega)) ?_ | refine go_neg (by first | assumption | omega | decide | exact B_not (by omega)) ?_ | refine go_bind (by first | assumption) ?_ | dsimp only)); first | done | (with_reducible rfl) | simp (disch := omega) only [w64] | (show False; done))
    · by_cases h2 : ((row g i).length : Int) = g.length
      · rw [B_neg fun h3 => h ⟨by omega, h3⟩] at ha
        ((with_reducible repeat (first | refine go_pos (by first | assumption | omega | rfl | exact B_pos (by omega)) ?_ | refine go_neg (by first | assumption | omega | decide | exact B_not (by omega)) ?_ | refine go_bind (by first | assumption) ?_ | dsimp only)); first | done | (with_reducible rfl) | simp (disch := omega) only [w64] | (show False; done))
      · ((with_reducible repeat (first | refine go_pos (by first | assumption | omega | rfl | exact B_pos (by omega)) ?_ | refine go_neg (by first | assumption | omega | decide | exact B_not (by omega)) ?_ | refine go_bind (by first | assumption) ?_ | dsimp only)); first | done | (with_reducible rfl) | simp (disch := omega) only [w64] | (show False; done))
  (rw [impl_IsGroup.l0_eq])
  (with_reducible repeat (first | refine go_pos (by first | assumption | omega | rfl | exact B_pos (by omega)) ?_ | refine go_neg (by first | assumption | omega | decide | exact B_not (by omega)) ?_ | refine go_bind (by first | assumption) ?_ | dsimp only))
  refine scanT g.length (fun i => impl_IsGroup.l1 (g.length : Int) (g.length : Int) i g) (Law g) (fun a a0 a1 _ => ?_) (fun _ => ?_)
  rotate_left
  · (rw [impl_IsGroup.l1_eq])
    ((with_reducible repeat (first | refine go_pos (by first | assumption | omega | rfl | exact B_pos (by omega)) ?_ | refine go_neg (by first | assumption | omega | decide | exact B_not (by omega)) ?_ | refine go_bind (by first | assumption) ?_ | dsimp only)); first | done | (with_reducible rfl) | simp (disch := omega) only [w64] | (show False; done))
  have hlen : ∀ x : Int, 0 ≤ x → x < g.length → ((row g x).length : Int) = g.length := fun x x0 x1 => by rw [(ht x x0 x1).1]
  have hent : ∀ x y : Int, 0 ≤ x → x < g.length → 0 ≤ y → y < g.length → 0 ≤ T g x y ∧ T g x y < g.length := fun x y x0 x1 y0 y1 => (ht x x0 x1).2 y y0 (by rw [hlen x x0 x1]; exact y1)
  have l0 := hlen 0 (by omega) (by omega)
  have la := hlen a a0 a1
  have hc := contains_ (row g a) 0 (rows_len hr a0 a1)
  rw [B_congr (show (∃ i : Int, 0 ≤ i ∧ i < (row g a).length ∧ rd (row g a) i = 0) ↔ ∃ b : Int, 0 ≤ b ∧ b < g.length ∧ T g a b = 0 by rw [la]; exact Iff.rfl)] at hc
  by_cases h2 : T g 0 a = a
  rotate_left
  · refine ⟨fun h => absurd h.1 h2, fun _ => ?_⟩
    (rw [impl_IsGroup.l1_eq])
    ((with_reducible repeat (first | refine go_pos (by first | assumption | omega | rfl | exact B_pos (by omega)) ?_ | refine go_neg (by first | assumption | omega | decide | exact B_not (by omega)) ?_ | refine go_bind (by first | assumption) ?_ | dsimp only)); first | done | (with_reducible rfl) | simp (disch := omega) only [w64] | (show False; done))
  by_cases h3 : T g a 0 = a
  rotate_left
  · refine ⟨fun h => absurd h.2.1 h3, fun _ => ?_⟩
    (rw [impl_IsGroup.l1_eq])
    ((with_reducible repeat (first | refine go_pos (by first | assumption | omega | rfl | exact B_pos (by omega)) ?_ | refine go_neg (by first | assumption | omega | decide | exact B_not (by omega)) ?_ | refine go_bind (by first | assumption) ?_ | dsimp only)); first | done | (with_reducible rfl) | simp (disch := omega) only [w64] | (show False; done))
  by_cases h4 : ∃ b : Int, 0 ≤ b ∧ b < g.length ∧ T g a b = 0
  rotate_left
  · refine ⟨fun h => absurd h.2.2.1 h4, fun _ => ?_⟩
    rw [B_neg h4] at hc
    (rw [impl_IsGroup.l1_eq])
    ((with_reducible repeat (first | refine go_pos (by first | assumption | omega | rfl | exact B_pos (by omega)) ?_ | refine go_neg (by first | assumption | omega | decide | exact B_not (by omega)) ?_ | refine go_bind (by first | assumption) ?_ | dsimp only)); first | done | (with_reducible rfl) | simp (disch := omega) only [w64] | (show False; done))
  rw [B_pos h4] at hc
  have inner := scanI g.length (fun b => impl_IsGroup.l2 (g.length : Int) a (g.length : Int) a (g.length : Int) b g) (fun b => ∀ c : Int, 0 ≤ c → c < g.length → T g (T g a b) c = T g a (T g b c)) (some false) (impl_IsGroup.l1 (g.length : Int) (g.length : Int) (a + 1) g)
    (fun b b0 b1 _ => by
      obtain ⟨e0, e1⟩ := hent a b a0 a1 b0 b1
      have le := hlen _ e0 e1
      have lb := hlen b b0 b1
      have := scanI g.length (fun c => impl_IsGroup.l3 (g.length : Int) a b (g.length : Int) a (g.length : Int) b (g.length : Int) c g) (fun c => T g (T g a b) c = T g a (T g b c)) (some false) (impl_IsGroup.l2 (g.length : Int) a (g.length : Int) a (g.length : Int) (b + 1) g)
        (fun c c0 c1 _ => by
          obtain ⟨f0, f1⟩ := hent b c b0 b1 c0 c1
          refine ⟨fun h => ?_, fun h => ?_⟩ <;> (rw [impl_IsGroup.l3_eq]) <;> ((with_reducible repeat (first | refine go_pos (by first | assumption | omega | rfl | exact B_pos (by omega)) ?_ | refine go_neg (by first | assumption | omega | decide | exact B_not (by omega)) ?_ | refine go_bind (by first | assumption) ?_ | dsimp only)); first | done | (with_reducible rfl) | simp (disch := omega) only [w64] | (show False; done))) (fun _ => by (rw [impl_IsGroup.l3_eq]); ((with_reducible repeat (first | refine go_pos (by first | assumption | omega | rfl | exact B_pos (by omega)) ?_ | refine go_neg (by first | assumption | omega | decide | exact B_not (by omega)) ?_ | refine go_bind (by first | assumption) ?_ | dsimp only)); first | done | (with_reducible rfl) | simp (disch := omega) only [w64] | (show False; done)))
      refine ⟨fun h => ?_, fun h => ?_⟩ <;> (rw [impl_IsGroup.l2_eq])
      · (with_reducible repeat (first | refine go_pos (by first | assumption | omega | rfl | exact B_pos (by omega)) ?_ | refine go_neg (by first | assumption | omega | decide | exact B_not (by omega)) ?_ | refine go_bind (by first | assumption) ?_ | dsimp only))
        exact this.1 h
      · (with_reducible repeat (first | refine go_pos (by first | assumption | omega | rfl | exact B_pos (by omega)) ?_ | refine go_neg (by first | assumption | omega | decide | exact B_not (by omega)) ?_ | refine go_bind (by first | assumption) ?_ | dsimp only))
        exact this.2 h) (fun _ => by (rw [impl_IsGroup.l2_eq]); ((with_reducible repeat (first | refine go_pos (by first | assumption | omega | rfl | exact B_pos (by omega)) ?_ | refine go_neg (by first | assumption | omega | decide | exact B_not (by omega)) ?_ | refine go_bind (by first | assumption) ?_ | dsimp only)); first | done | (with_reducible rfl) | simp (disch := omega) only [w64] | (show False; done)))
  refine ⟨fun h => ?_, fun h => ?_⟩ <;> (rw [impl_IsGroup.l1_eq]) <;> (with_reducible repeat (first | refine go_pos (by first | assumption | omega | rfl | exact B_pos (by omega)) ?_ | refine go_neg (by first | assumption | omega | decide | exact B_not (by omega)) ?_ | refine go_bind (by first | assumption) ?_ | dsimp only))
  · exact inner.1 h.2.2.2
  · exact inner.2 fun k => h ⟨h2, h3, h4, k⟩
end Go.Proofs.Ytlkdhmijgpadaaa.V
set_option linter.unusedVariables false
set_option linter.unusedSimpArgs false
set_option maxHeartbeats 2000000
set_option maxRecDepth 20000
namespace Go.Proofs.Ytlkdhmijgpadaaa.V
open Go.RowKit Go.Proofs.Ytlkdhmijgpadaaa.D Go.Proofs.Ytlkdhmijgpadaaa.P
theorem In_ (x lo hi : Int) : spec_l01In.f x lo hi = some (B (lo ≤ x ∧ x ≤ hi)) := by
  rw [spec_l01In.f_eq]
  by_cases h : x ≥ lo
  · rw [if_pos h, B_decide, B_congr (show x ≤ hi ↔ (lo ≤ x ∧ x ≤ hi) from ⟨fun h' => ⟨h, h'⟩, fun h' => h'.2⟩)]
  · rw [if_neg h, B_neg (fun h' => h h'.1)]
def LawS (g : List (List Int)) (a : Int) : Prop := T g 0 a = a ∧ T g a 0 = a ∧ (∀ b : Int, 0 ≤ b → b < g.length → ∀ c : Int, 0 ≤ c → c < g.length → T g (T g a b) c = T g a (T g b c)) ∧ ∃ b : Int, 0 ≤ b ∧ b < g.length ∧ T g a b = 0 ∧ T g b a = 0
theorem grp_iffS (g : List (List Int)) : Grp g ↔ (1 ≤ g.length ∧ g.length ≤ 8) ∧ Tab g ∧ ∀ a : Int, 0 ≤ a → a < g.length → LawS g a := by
  rw [grp_iff]
  constructor
  · intro h
    have hg := (grp_iff g).2 h
    refine ⟨h.1, h.2.1, fun a a0 a1 => ?_⟩
    obtain ⟨h1, h2, _, h4⟩ := h.2.2 a a0 a1
    exact ⟨h1, h2, h4, hg.inv2 a0 a1⟩
  · rintro ⟨h1, h2, h3⟩
    refine ⟨h1, h2, fun a a0 a1 => ?_⟩
    obtain ⟨k1, k2, k3, b, b0, b1, hb, _⟩ := h3 a a0 a1
    exact ⟨k1, k2, ⟨b, b0, b1, hb⟩, k3⟩
theorem Is_ (g : List (List Int)) : spec_l01Is.f g = some (B (Grp g)) := by
  rw [B_congr (grp_iffS g)]
  (rw [spec_l01Is.f_eq])
  by_cases c1 : 1 ≤ (g.length : Int) ∧ (g.length : Int) ≤ 8
  rotate_left
  · rw [B_neg fun h => c1 (by omega)]
    ((with_reducible repeat (first | refine go_pos (by first | assumption | omega | rfl | exact B_pos (by omega)) ?_ | refine go_neg (by first | assumption | omega | decide | exact B_not (by omega)) ?_ | refine go_bind (by first | assumption | exact In_ _ _ _) ?_ | dsimp only)); first | done | (with_reducible rfl) | simp (disch := omega) only [w64] | (show False; done))
  rw [B_congr (show ((1 ≤ g.length ∧ g.length ≤ 8) ∧ Tab g ∧ ∀ a : Int, 0 ≤ a → a < g.length → LawS g a) ↔ (Tab g ∧ ∀ a : Int, 0 ≤ a → a < g.length → LawS g a) from ⟨fun h => h.2, fun h => ⟨by omega, h⟩⟩)]
  (with_reducible repeat (first | refine go_pos (by first | assumption | omega | rfl | exact B_pos (by omega)) ?_ | refine go_neg (by first | assumption | omega | decide | exact B_not (by omega)) ?_ | refine go_bind (by first | assumption | exact In_ _ _ _) ?_ | dsimp only))
  have hw1 : wrapI ((g.length : Int) - 1) = g.length - 1 := w64 (by omega) (by omega)
  refine scanB g.length (fun i => spec_l01Is.l0 (g.length : Int) i g) (fun a => (row g a).length = g.length ∧ AllIn g.length (row g a)) (∀ a : Int, 0 ≤ a → a < g.length → LawS g a) (fun a a0 a1 _ => ?_) (fun ht => ?_)
  · by_cases h2 : ((row g a).length : Int) = g.length
    rotate_left
    · refine ⟨fun h => absurd h.1 (by omega), fun _ => ?_⟩
      (rw [spec_l01Is.l0_eq])
      ((with_reducible repeat (first | refine go_pos (by first | assumption | omega | rfl | exact B_pos (by omega)) ?_ | refine go_neg (by first | assumption | omega | decide | exact B_not (by omega)) ?_ | refine go_bind (by first | assumption) ?_ | dsimp only)); first | done | (with_reducible rfl) | simp (disch := omega) only [w64] | (show False; done))
    have inner := scanI g.length (fun b => spec_l01Is.l1 (g.length : Int) a b g) (fun b => 0 ≤ T g a b ∧ T g a b < g.length) (some false) (spec_l01Is.l0 (g.length : Int) (a + 1) g)
      (fun b b0 b1 _ => by refine ⟨fun h => ?_, fun h => ?_⟩ <;> (rw [spec_l01Is.l1_eq, hw1]) <;> ((with_reducible repeat (first | refine go_pos (by first | assumption | omega | rfl | exact B_pos (by omega)) ?_ | refine go_neg (by first | assumption | omega | decide | exact B_not (by omega)) ?_ | refine go_bind (by first | assumption | exact In_ _ _ _) ?_ | dsimp only)); first | done | (with_reducible rfl) | simp (disch := omega) only [w64] | (show False; done))) (fun _ => by (rw [spec_l01Is.l1_eq]); ((with_reducible repeat (first | refine go_pos (by first | assumption | omega | rfl | exact B_pos (by omega)) ?_ | refine go_neg (by first | assumption | omega | decide | exact B_not (by omega)) ?_ | refine go_bind (by first | assumption) ?_ | dsimp only)); first | done | (with_reducible rfl) | simp (disch := omega) only [w64] | (show False; done)))
    refine ⟨fun h => ?_, fun h => ?_⟩ <;> (rw [spec_l01Is.l0_eq]) <;> (with_reducible repeat (first | refine go_pos (by first | assumption | omega | rfl | exact B_pos (by omega)) ?_ | refine go_neg (by first | assumption | omega | decide | exact B_not (by omega)) ?_ | refine go_bind (by first | assumption) ?_ | dsimp only))
    · exact inner.1 fun j j0 j1 => h.2 j j0 (by omega)
    · exact inner.2 fun k => h ⟨by omega, fun j j0 j1 => k j j0 (by omega)⟩
  (rw [spec_l01Is.l0_eq])
  (with_reducible repeat (first | refine go_pos (by first | assumption | omega | rfl | exact B_pos (by omega)) ?_ | refine go_neg (by first | assumption | omega | decide | exact B_not (by omega)) ?_ | refine go_bind (by first | assumption) ?_ | dsimp only))
  refine scanT g.length (fun i => spec_l01Is.l2 (g.length : Int) i g) (LawS g) (fun a a0 a1 _ => ?_) (fun _ => by (rw [spec_l01Is.l2_eq]); ((with_reducible repeat (first | refine go_pos (by first | assumption | omega | rfl | exact B_pos (by omega)) ?_ | refine go_neg (by first | assumption | omega | decide | exact B_not (by omega)) ?_ | refine go_bind (by first | assumption) ?_ | dsimp only)); first | done | (with_reducible rfl) | simp (disch := omega) only [w64] | (show False; done)))
  have hlen : ∀ x : Int, 0 ≤ x → x < g.length → ((row g x).length : Int) = g.length := fun x x0 x1 => by rw [(ht x x0 x1).1]
  have hent : ∀ x y : Int, 0 ≤ x → x < g.length → 0 ≤ y → y < g.length → 0 ≤ T g x y ∧ T g x y < g.length := fun x y x0 x1 y0 y1 => (ht x x0 x1).2 y y0 (by rw [hlen x x0 x1]; exact y1)
  have l0 := hlen 0 (by omega) (by omega)
  have la := hlen a a0 a1
  by_cases h2 : T g 0 a = a
  rotate_left
  · refine ⟨fun h => absurd h.1 h2, fun _ => ?_⟩
    (rw [spec_l01Is.l2_eq])
    ((with_reducible repeat (first | refine go_pos (by first | assumption | omega | rfl | exact B_pos (by omega)) ?_ | refine go_neg (by first | assumption | omega | decide | exact B_not (by omega)) ?_ | refine go_bind (by first | assumption) ?_ | dsimp only)); first | done | (with_reducible rfl) | simp (disch := omega) only [w64] | (show False; done))
  by_cases h3 : T g a 0 = a
  rotate_left
  · refine ⟨fun h => absurd h.2.1 h3, fun _ => ?_⟩
    (rw [spec_l01Is.l2_eq])
    ((with_reducible repeat (first | refine go_pos (by first | assumption | omega | rfl | exact B_pos (by omega)) ?_ | refine go_neg (by first | assumption | omega | decide | exact B_not (by omega)) ?_ | refine go_bind (by first | assumption) ?_ | dsimp only)); first | done | (with_reducible rfl) | simp (disch := omega) only [w64] | (show False; done))
  let Fd : Int → Prop := fun b => ∃ j : Int, 0 ≤ j ∧ j < b ∧ T g a j = 0 ∧ T g j a = 0
  have fd0 : B (Fd 0) = false := B_neg fun ⟨j, j0, j1, _⟩ => by omega
  have inner := scan g.length (fun b => spec_l01Is.l3 (g.length : Int) a (B (Fd b)) b g) (fun b => ∀ c : Int, 0 ≤ c → c < g.length → T g (T g a b) c = T g a (T g b c)) (some false) (fun b b0 b1 _ => by
    obtain ⟨e0, e1⟩ := hent a b a0 a1 b0 b1
    have le := hlen _ e0 e1
    have lb := hlen b b0 b1
    have toj : spec_l01Is.l3 (g.length : Int) a (B (Fd b)) b g = spec_l01Is.l4 (g.length : Int) a (B (Fd (b + 1))) b 0 g := by
      by_cases k1 : Fd b
      · rw [B_pos k1, B_pos (show Fd (b + 1) from by obtain ⟨j, j0, j1, h⟩ := k1; exact ⟨j, j0, by omega, h⟩)]
        (rw [spec_l01Is.l3_eq])
        ((with_reducible repeat (first | refine go_pos (by first | assumption | omega | rfl | exact B_pos (by omega)) ?_ | refine go_neg (by first | assumption | omega | decide | exact B_not (by omega)) ?_ | refine go_bind (by first | assumption) ?_ | dsimp only)); first | done | (with_reducible rfl) | simp (disch := omega) only [w64] | (show False; done))
      · rw [B_neg k1]
        by_cases k2 : T g a b = 0
        · have e : B (Fd (b + 1)) = decide (T g b a = 0) := by
            by_cases k3 : T g b a = 0
            · rw [B_pos ⟨b, b0, by omega, k2, k3⟩]; simp [k3]
            · rw [B_neg]
              · simp [k3]
              · rintro ⟨j, j0, j1, ja, jb⟩
                by_cases ej : j = b
                · subst ej; exact k3 jb
                · exact k1 ⟨j, j0, by omega, ja, jb⟩
          rw [e]
          (rw [spec_l01Is.l3_eq])
          ((with_reducible repeat (first | refine go_pos (by first | assumption | omega | rfl | exact B_pos (by omega)) ?_ | refine go_neg (by first | assumption | omega | decide | exact B_not (by omega)) ?_ | refine go_bind (by first | assumption) ?_ | dsimp only)); first | done | (with_reducible rfl) | simp (disch := omega) only [w64] | (show False; done))
        · rw [B_neg (show ¬ Fd (b + 1) from by
            rintro ⟨j, j0, j1, ja, jb⟩
            by_cases ej : j = b
            · subst ej; exact k2 ja
            · exact k1 ⟨j, j0, by omega, ja, jb⟩)]
          (rw [spec_l01Is.l3_eq])
          ((with_reducible repeat (first | refine go_pos (by first | assumption | omega | rfl | exact B_pos (by omega)) ?_ | refine go_neg (by first | assumption | omega | decide | exact B_not (by omega)) ?_ | refine go_bind (by first | assumption) ?_ | dsimp only)); first | done | (with_reducible rfl) | simp (disch := omega) only [w64] | (show False; done))
    have inner4 := scanI g.length (fun c => spec_l01Is.l4 (g.length : Int) a (B (Fd (b + 1))) b c g) (fun c => T g (T g a b) c = T g a (T g b c)) (some false) (spec_l01Is.l3 (g.length : Int) a (B (Fd (b + 1))) (b + 1) g) (fun c c0 c1 _ => by
      obtain ⟨f0, f1⟩ := hent b c b0 b1 c0 c1
      refine ⟨fun h => ?_, fun h => ?_⟩ <;> (rw [spec_l01Is.l4_eq]) <;> ((with_reducible repeat (first | refine go_pos (by first | assumption | omega | rfl | exact B_pos (by omega)) ?_ | refine go_neg (by first | assumption | omega | decide | exact B_not (by omega)) ?_ | refine go_bind (by first | assumption) ?_ | dsimp only)); first | done | (with_reducible rfl) | simp (disch := omega) only [w64] | (show False; done))) (fun _ => by (rw [spec_l01Is.l4_eq]); ((with_reducible repeat (first | refine go_pos (by first | assumption | omega | rfl | exact B_pos (by omega)) ?_ | refine go_neg (by first | assumption | omega | decide | exact B_not (by omega)) ?_ | refine go_bind (by first | assumption) ?_ | dsimp only)); first | done | (with_reducible rfl) | simp (disch := omega) only [w64] | (show False; done)))
    exact ⟨fun h => toj.trans (inner4.1 h), fun h => toj.trans (inner4.2 h)⟩)
  have st : spec_l01Is.l2 (g.length : Int) a g = spec_l01Is.l3 (g.length : Int) a (B (Fd 0)) 0 g := by
    rw [fd0]
    (rw [spec_l01Is.l2_eq])
    ((with_reducible repeat (first | refine go_pos (by first | assumption | omega | rfl | exact B_pos (by omega)) ?_ | refine go_neg (by first | assumption | omega | decide | exact B_not (by omega)) ?_ | refine go_bind (by first | assumption) ?_ | dsimp only)); first | done | (with_reducible rfl) | simp (disch := omega) only [w64] | (show False; done))
  rw [st]
  rcases inner with ⟨h5, h6⟩ | ⟨b, b0, b1, _, h5, _, h6⟩
  · simp only [h6]
    by_cases h7 : Fd g.length
    · refine ⟨fun _ => ?_, fun h => absurd ⟨h2, h3, h5, h7⟩ h⟩
      rw [B_pos h7]
      (rw [spec_l01Is.l3_eq])
      ((with_reducible repeat (first | refine go_pos (by first | assumption | omega | rfl | exact B_pos (by omega)) ?_ | refine go_neg (by first | assumption | omega | decide | exact B_not (by omega)) ?_ | refine go_bind (by first | assumption) ?_ | dsimp only)); first | done | (with_reducible rfl) | simp (disch := omega) only [w64] | (show False; done))
    · refine ⟨fun h => absurd h.2.2.2 h7, fun h => ?_⟩
      rw [B_neg h7]
      (rw [spec_l01Is.l3_eq])
      ((with_reducible repeat (first | refine go_pos (by first | assumption | omega | rfl | exact B_pos (by omega)) ?_ | refine go_neg (by first | assumption | omega | decide | exact B_not (by omega)) ?_ | refine go_bind (by first | assumption) ?_ | dsimp only)); first | done | (with_reducible rfl) | simp (disch := omega) only [w64] | (show False; done))
  · exact ⟨fun h => absurd (h.2.2.1 b b0 b1) h5, fun _ => h6⟩
theorem Grp.foldl_in {g : List (List Int)} (hg : Grp g) : ∀ (xs : List Int) (x : Int), AllIn g.length xs → 0 ≤ x → x < g.length → 0 ≤ xs.foldl (T g) x ∧ xs.foldl (T g) x < g.length := by
  intro xs
  induction xs with
  | nil => exact fun x _ a b => ⟨a, b⟩
  | cons y ys ih =>
    intro x hx x0 x1
    obtain ⟨y0, y1⟩ := hx.mem (List.mem_cons_self ..)
    obtain ⟨z0, z1⟩ := hg.ent x y x0 x1 y0 y1
    exact ih _ (allIn_of fun z hz => hx.mem (List.mem_cons_of_mem _ hz)) z0 z1
theorem take_rd {xs : List Int} {m : Nat} (h : m < xs.length) : xs.take (m + 1) = xs.take m ++ [rd xs m] := by
  rw [List.take_succ_eq_append_getElem h, rd_get h]
theorem times {g : List (List Int)} (hg : Grp g) (xs : List Int) (hx : AllIn g.length xs) (hl : xs.length ≤ maxLen) : impl_Group_times.f g xs = some (xs.foldl (T g) 0) := by
  have hm := maxLen_le
  have n1 := hg.n1
  rw [impl_Group_times.f_eq]
  have := up xs.length (fun i => impl_Group_times.l0 ((xs.take i).foldl (T g) 0) xs (xs.length : Int) (i : Int) g) (fun i hi => by
    obtain ⟨z0, z1⟩ := hg.foldl_in (xs.take i) 0 (hx.take i) (by omega) (by omega)
    obtain ⟨y0, y1⟩ := hx i (by omega) (by omega)
    have hr : ((row g ((xs.take i).foldl (T g) 0)).length : Int) = g.length := by rw [hg.row _ z0 z1]
    have hw : wrapI ((i : Int) + 1) = ((i + 1 : Nat) : Int) := by rw [w64 (by omega) (by omega)]; omega
    rw [take_rd hi, List.foldl_append, List.foldl_cons, List.foldl_nil]
    (rw [impl_Group_times.l0_eq, hw])
    ((with_reducible repeat (first | refine go_pos (by first | assumption | omega | rfl | exact B_pos (by omega)) ?_ | refine go_neg (by first | assumption | omega | decide | exact B_not (by omega)) ?_ | refine go_bind (by first | assumption) ?_ | dsimp only)); first | done | (with_reducible rfl) | simp (disch := omega) only [w64] | (show False; done)))
  simp only [List.take_zero, List.foldl_nil, List.take_length, Int.natCast_zero] at this
  rw [this]
  (rw [impl_Group_times.l0_eq])
  ((with_reducible repeat (first | refine go_pos (by first | assumption | omega | rfl | exact B_pos (by omega)) ?_ | refine go_neg (by first | assumption | omega | decide | exact B_not (by omega)) ?_ | refine go_bind (by first | assumption) ?_ | dsimp only)); first | done | (with_reducible rfl) | simp (disch := omega) only [w64] | (show False; done))
theorem times2 {g : List (List Int)} (hg : Grp g) {x y : Int} (x0 : 0 ≤ x) (x1 : x < g.length) (y0 : 0 ≤ y) (y1 : y < g.length) : impl_Group_times.f g [x, y] = some (T g x y) := by
  have := times hg [x, y] (allIn_two x0 x1 y0 y1) (by unfold maxLen; simp)
  simpa [hg.one x x0 x1] using this
end Go.Proofs.Ytlkdhmijgpadaaa.V
set_option linter.unusedVariables false
set_option linter.unusedSimpArgs false
set_option maxHeartbeats 2000000
set_option maxRecDepth 20000
namespace Go.Proofs.Ytlkdhmijgpadaaa.V
open Go.RowKit Go.Proofs.Ytlkdhmijgpadaaa.D Go.Proofs.Ytlkdhmijgpadaaa.P
structure Mdl (g : List (List Int)) (m : Int) (u : List Int) : Prop where
  m2 : 2 ≤ m
  m12 : m ≤ 12
  len : u.length = g.length
  unit : ∀ i : Int, 0 ≤ i → i < u.length → 1 ≤ rd u i ∧ rd u i < m ∧ Int.gcd (rd u i) m = 1
  hom : ∀ i : Int, 0 ≤ i → i < u.length → ∀ j : Int, 0 ≤ j → j < u.length → rd u (T g i j) = rd u i * rd u j % m
theorem unit_one : ∀ m : Nat, m ≤ 12 → ∀ u : Nat, u < m → Nat.gcd u m = 1 → u = u * u % m → 1 ≤ u → u = 1 := by decide
theorem Mdl.one {g : List (List Int)} {m : Int} {u : List Int} (hg : Grp g) (h : Mdl g m u) : rd u 0 = 1 := by
  have n1 := hg.n1
  have hl := h.len
  obtain ⟨a1, a2, a3⟩ := h.unit 0 (by omega) (by omega)
  have e := h.hom 0 (by omega) (by omega) 0 (by omega) (by omega)
  rw [hg.one 0 (by omega) (by omega)] at e
  have m2 := h.m2; have m12 := h.m12
  obtain ⟨M, rfl⟩ := Int.eq_ofNat_of_zero_le (show 0 ≤ m by omega)
  obtain ⟨U, hU⟩ := Int.eq_ofNat_of_zero_le (show 0 ≤ rd u 0 by omega)
  rw [hU] at a1 a2 a3 e ⊢
  have := unit_one M (by omega) U (by omega) (by simpa [Int.gcd] using a3) (by exact_mod_cast e) (by omega)
  omega
theorem Mdl.at {g : List (List Int)} {m : Int} {u : List Int} (h : Mdl g m u) {x : Int} (x0 : 0 ≤ x) (x1 : x < g.length) : 1 ≤ rd u x ∧ rd u x < m := by
  have hl := h.len
  obtain ⟨a, b, _⟩ := h.unit x x0 (by omega)
  exact ⟨a, b⟩
end Go.Proofs.Ytlkdhmijgpadaaa.V
