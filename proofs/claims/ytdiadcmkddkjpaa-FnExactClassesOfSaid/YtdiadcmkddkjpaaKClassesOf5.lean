/- What the proof of the law ClassesOf stands on, part 5: words, each Go function's Lean function, and that the Go code comes to its answers; no condition. (Packed by wip/myprint/pack.py out of what the kit's printer wrote, its words among it, partly by our patches of it, and out of texts of this session.) -/
import Derived.ChangeSlices
import Derived.ChangeSame
import Derived.Deep.Matrix
import Derived.Lib.SmallJoins
import Derived.Test.YtdiadcmkddkjpaaKClassesOf3
import Derived.Test.YtdiadcmkddkjpaaKClassesOf4
set_option linter.unusedVariables false
namespace Go.Proofs.Ytdiadcmkddkjpaa.D
open Go Go.RowKit
theorem valid_view {P : Program} {g : FuncId} {c : Con} (hv : Valid P g c) {x : lsd (flats c.ins)} {r : c.R} (hx : c.f x = some r) {w : World} {vs : List Value} (ha : ASRs P (fun _ => False) (fun k => k < w.heap.size) w c.ins x vs (fun _ => False)) :
    Calls P g vs.toArray w fun e w' => ∃ u, e = .returned u ∧ Below w.heap.size w w' ∧ ∃ Z' Fo us, u = outV us ∧ ASRs P (fun _ => False) Z' w' c.outs (c.dec r).1 us Fo := by
  refine (hv.2 x r hx (fun k => k < w.heap.size) (fun _ => False) (fun _ => False) w vs ha (fun _ h => h.elim) (fun _ h => h) (fun _ h => h.elim)).mono ?_
  rintro e w' ⟨u, rfl, Z', Fi, Fo, hp⟩
  obtain ⟨us, hu, ho⟩ := hp.out
  exact ⟨u, rfl, ⟨hp.os, hp.tape, hp.output, hp.size, fun k hk => hp.old k hk fun h => h⟩, Z', Fo, us, hu, ho⟩
theorem cell_lt {w : World} {a : Addr} {v : Value} (h : w.cell? a = some v) : a.block < w.heap.size := by
  unfold World.cell? at h
  cases hb : w.heap[a.block]? with
  | none => rw [hb] at h; cases h
  | some o => exact (Array.getElem?_eq_some_iff.1 hb).1
theorem view_raw {α : Type} {w : World} {sz : Nat} {R : α → List Value → Prop} {A : Option Addr} {c : Nat} {xs : List α} (hz : 0 < sz) (hc : xs.length ≤ c) (hm : xs.length ≤ 9223372036854775807)
    (h : 0 < xs.length → ∃ ad, A = some ad ∧ ∀ (j : Nat) (p : α), xs[j]? = some p → ∃ cs, cs.length = sz ∧ R p cs ∧ ∀ (i : Nat) (u : Value), cs[i]? = some u → w.cell? (ad.add (j * sz + i)) = some u) : ViewRep (fun k => k < w.heap.size) w sz R A c xs := by
  refine ⟨hc, hm, fun hl => ?_⟩
  obtain ⟨ad, rfl, hcell⟩ := h hl
  refine ⟨ad, rfl, ?_, hcell⟩
  obtain ⟨cs, h1, h2, h3⟩ := hcell 0 xs[0] (List.getElem?_eq_getElem hl)
  have := cell_lt (h3 0 cs[0] (List.getElem?_eq_getElem (by omega)))
  rwa [add_block] at this
theorem law_true {P : Program} {g : FuncId} {c : Con} (hv : Valid P g c) {x : lsd (flats c.ins)} {r : c.R} (hx : c.f x = some r) {w : World} {vs : List Value} (ha : ASRs P (fun _ => False) (fun k => k < w.heap.size) w c.ins x vs (fun _ => False)) (ho : c.outs = [.one (.v .bool)]) (hr : ∀ y : lsd (flats [.one (.v .bool)]), HEq y (c.dec r).1 → y.1 = true) :
    Calls P g vs.toArray w fun e w' => e = .returned (.bool true) ∧ Below w.heap.size w w' := by
  refine (valid_view hv hx ha).mono ?_
  rintro e w' ⟨u, rfl, hb, Z', Fo, us, rfl, hh⟩
  refine ⟨?_, hb⟩
  obtain ⟨ins, outs, R, f, dec⟩ := c
  have ho : outs = [.one (.v .bool)] := ho
  subst ho
  obtain ⟨v, vs', F0, F1, rfl, h1, h2, _⟩ := hh
  cases h2
  have h1 : [v] = [.bool (dec r).1.1] := h1
  have hb1 : (dec r).1.1 = true := hr _ HEq.rfl
  cases h1
  rw [hb1]
  rfl
end Go.Proofs.Ytdiadcmkddkjpaa.D
set_option linter.unusedVariables false
namespace Go.Proofs.Ytdiadcmkddkjpaa.D
open Go Go.RowKit Go.ChangeShapes Go.WideShapes Go.Joins Go.Deep
section
variable {H : Type} {enc : TypeId × Value → H} {P : Program} {w : World} {base : Nat} {held : Bool}
abbrev Zw (w : World) : Nat → Prop := fun k => k < w.heap.size
abbrev No : Nat → Prop := fun _ => False
theorem rep_ints {q : TypeId} {k : IntKind} {a : Addr} {len cap : Nat} {zs : List Int} (hl : len ≤ cap) (hm : cap ≤ maxLen) (hz : zs.length = cap) (hc : ∀ i, i < zs.length → w.cell? (a.add i) = some (.int k (zs.getD i 0))) (hw : ∀ n ∈ zs, (Lit.int k n).wf = true) :
    ∃ l : List Int, len = l.length ∧ l.length ≤ maxLen ∧ (∀ x ∈ l, (Lit.int k x).wf = true) ∧ Rep (Zw w) w false (.sl q (.int k)) l [.slice (some a) len cap] No := by
  have hlen : (zs.take len).length = len := by rw [List.length_take]; omega
  refine ⟨zs.take len, hlen.symm, by omega, fun x hx => hw x (List.mem_of_mem_take hx), some a, cap, by rw [hlen], ?_⟩
  refine view_raw Nat.one_pos (by show (zs.take len).length ≤ _; omega) (by show (zs.take len).length ≤ _; simp only [maxLen] at hm; omega) fun _ => ⟨a, rfl, fun j p hj => ?_⟩
  have hj : (zs.take len)[j]? = some p := hj
  have hjl : j < len := by
    have := (List.getElem?_eq_some_iff.1 hj).1
    omega
  refine ⟨[.int k p], rfl, rfl, fun i u hu => ?_⟩
  cases i with
  | zero =>
    simp only [List.getElem?_cons_zero, Option.some.injEq] at hu
    subst hu
    have h := hc j (by omega)
    have hp : zs.getD j 0 = p := by
      rw [List.getElem?_take] at hj
      simp only [hjl, if_true] at hj
      simp [List.getD, hj]
    rw [hp] at h
    simpa [Ty.size] using h
  | succ i => simp at hu
theorem rep_none {q : TypeId} {t : Ty} : Rep (Zw w) w false (.sl q t) ([] : List t.den) [.slice none 0 0] No :=
  ⟨none, 0, rfl, Nat.le_refl _, Nat.zero_le _, fun h => absurd h (by simp)⟩
theorem come_rows {t e q : TypeId} {k : IntKind} {fuel : Nat} {v : Value} {x : DataW H × List MemPlace} (ht : P.underlying t = some (.slice e)) (he : P.underlying e = some (.slice q)) (hq : P.underlying q = some (.int k))
    (ce : P.cellsOf e = 1) (cq : P.cellsOf q = 1) (h : DataW.trod enc P w base (fun _ => true) held fuel t [v] = some x) :
    ∃ l : List (List Int), l.length ≤ maxLen ∧ (∀ r ∈ l, r.length ≤ maxLen ∧ ∀ x ∈ r, (Lit.int k x).wf = true) ∧ Rep (Zw w) w false (.sl e (.sl q (.int k))) l [v] No := by
  rcases open_int_rows ht he hq ce cq h with ⟨hcs, _⟩ | ⟨a, len, cap, A, L, C, Z, hcs, _, hl, hm, _, hr⟩
  · refine ⟨[], by simp, by simp, ?_⟩
    rw [hcs]
    exact rep_none
  · have each : ∀ r, r < cap → ∃ y : List Int, y.length ≤ maxLen ∧ (∀ x ∈ y, (Lit.int k x).wf = true) ∧ Rep (Zw w) w false (.sl q (.int k)) y [.slice (A r) (L r) (C r)] No := by
      intro r hrc
      obtain ⟨_, h1, h2, h3, h4, h5, h6⟩ := hr r hrc
      cases hA : A r with
      | none =>
        have hC := h5 hA
        refine ⟨[], by simp, by simp, ?_⟩
        have hL : L r = 0 := by omega
        rw [hL, hC]
        exact rep_none
      | some a' =>
        obtain ⟨l, _, h7, h8, h9⟩ := rep_ints (q := q) h1 h2 h3 (fun i hi => (h6 a' hA).2 i (by omega)) h4
        exact ⟨l, h7, h8, h9⟩
    obtain ⟨Y, hY⟩ := choose_lt each
    have hlen : ((List.range len).map Y).length = len := by simp
    refine ⟨(List.range len).map Y, by omega, fun r hr' => ?_, ?_⟩
    · obtain ⟨j, hj, rfl⟩ := List.mem_map.1 hr'
      obtain ⟨h1, h2, _⟩ := hY j (by have := List.mem_range.1 hj; omega)
      exact ⟨h1, h2⟩
    · rw [hcs]
      refine ⟨some a, cap, by rw [hlen], ?_⟩
      refine view_raw Nat.one_pos (by show ((List.range len).map Y).length ≤ _; omega) (by show ((List.range len).map Y).length ≤ _; simp only [maxLen] at hm; omega) fun _ => ⟨a, rfl, fun j p hj => ?_⟩
      have hj : ((List.range len).map Y)[j]? = some p := hj
      have hjl : j < len := by
        have := (List.getElem?_eq_some_iff.1 hj).1
        omega
      have hp : p = Y j := by simpa [hjl] using hj.symm
      subst hp
      obtain ⟨h1, h2, h3⟩ := hY j (by omega)
      refine ⟨[.slice (A j) (L j) (C j)], rfl, h3, fun i u hu => ?_⟩
      cases i with
      | zero =>
        simp only [List.getElem?_cons_zero, Option.some.injEq] at hu
        subst hu
        have := (hr j (by omega)).1
        simpa [Ty.size] using this
      | succ i => simp at hu
theorem open_agg1 {r : Reach} {b0 : Nat} {t : TypeId} {f0 : Field} {v : Value} {d : DataW H} {p : List MemPlace} {spare : Nat → Bool} (hs : P.underlying t = some (.struct #[f0])) (hone : oneCellFields P #[f0] = true) (hC : P.cellsOf t = 1)
    (hv : Value.okWide P w r b0 t v) (h : DataW.Trod enc P w base spare held t v d p) :
    ∃ (v0 : Value) (y0 : DataW H × List MemPlace) (n : Nat), v = .agg #[v0] ∧ DataW.trod enc P w base spare held n f0.type [v0] = some y0 := by
  obtain ⟨cs, rfl, hsz⟩ := okWide_struct hs hv
  have hsz1 : cs.size = 1 := hsz.trans hC
  obtain ⟨c0, rfl⟩ : ∃ c0, cs = #[c0] := by
    obtain ⟨l⟩ := cs
    match l, hsz1 with
    | [c0], _ => exact ⟨c0, rfl⟩
  obtain ⟨fuel, hf⟩ := h
  obtain ⟨y0, n, hx, _, h0⟩ := trod_struct1 hs hf
  obtain ⟨o0, k0⟩ := hone_of hone 0 f0 rfl
  exact ⟨c0, y0, n, rfl, by simpa [Value.cells, o0, k0] using h0⟩
theorem args_nil : ASRs P No (Zw w) w [] () [] No := rfl
theorem args_agg1 {t : Ty} {x : t.den} {v : Value} {ins : List ASh} {y : lsd (flats ins)} {vs : List Value} (h : Rep (Zw w) w false t x [v] No) (hr : ASRs P No (Zw w) w ins y vs No) : ASRs P No (Zw w) w (.agg [.v t] :: ins) (x, y) (.agg #[v] :: vs) No :=
  ⟨.agg #[v], vs, No, No, rfl, ⟨[v], rfl, v, [], No, No, rfl, h, rfl, fun _ h => h, fun _ h => h, fun _ h => h.elim⟩, hr, fun _ h => h, fun _ h => h, fun _ h => h.elim⟩
end
end Go.Proofs.Ytdiadcmkddkjpaa.D
set_option linter.unusedVariables false
namespace Go.Proofs.Ytdiadcmkddkjpaa.D
open Go Go.RowKit
theorem valid_int1 {P : Program} {g : FuncId} {k k' : IntKind} {F : Int → Option Int} (hc : Callable P g) (h : ∀ (x y : Int) (w : World), F x = some y → Calls P g #[.int k x] w fun e w' => e = .returned (.int k' y) ∧ w' = w) :
    Valid P g ⟨[.one (.v (.int k))], [.one (.v (.int k'))], Int, fun x => F x.1, fun r => ((r, ()), ())⟩ := by
  refine ⟨hc, fun x r hx Z B S w vs ha hS hZ hB => ?_⟩
  obtain ⟨v, vs', F0, F1, rfl, h1, h2, _⟩ := ha
  cases h2
  have h1 : [v] = [.int k x.1] := h1
  cases h1
  refine (h x.1 r w hx).mono ?_
  rintro e w' ⟨rfl, rfl⟩
  refine ⟨_, rfl, Z, fun _ => False, fun _ => False, ⟨⟨_, [], fun _ => False, fun _ => False, rfl, trivial, trivial, fun _ h => h, fun _ h => h, fun _ h => h.elim⟩, ⟨[.int k' r], rfl, _, [], fun _ => False, fun _ => False, rfl, rfl, rfl, fun _ h => h, fun _ h => h, fun _ h => h.elim⟩, fun _ h => h.elim, fun _ h => (h.elim id id : False).elim, fun _ h => h, fun k hk => ⟨.inl hk, hZ k hk⟩, rfl, rfl, rfl, Nat.le_refl _, fun _ _ _ => rfl⟩⟩
end Go.Proofs.Ytdiadcmkddkjpaa.D
set_option linter.unusedVariables false
namespace Go.Proofs.Ytdiadcmkddkjpaa.P
open Go Go.RowKit Go.Proofs.Ytdiadcmkddkjpaa.D
noncomputable def bits_Len.f (a0 : Int) : Option Int := if 0 ≤ a0 ∧ a0 ≤ 18446744073709551615 then some (Lib.bitLen a0.toNat : Int) else none
noncomputable def bits_Len.con : Con := ⟨[.one (.v (.int .u64))], [.one (.v (.int .i64))], Int, fun x => bits_Len.f x.1, fun r => ((r, ()), (()))⟩
theorem bits_Len.valid : Valid Try.prog 139 bits_Len.con := valid_int1 ⟨_, Try.func139, by kernel_rfl, by kernel_rfl⟩ fun x y w h => by
  unfold bits_Len.f at h
  split at h
  · cases h
    exact Try.bits_Len x w (by omega) (by omega)
  · cases h
end Go.Proofs.Ytdiadcmkddkjpaa.P
set_option linter.unusedVariables false
namespace Go.Proofs.Ytdiadcmkddkjpaa.P
open Go Go.RowKit Go.Proofs.Ytdiadcmkddkjpaa.D
noncomputable def slices_Sort_int64.E : Env := { tt := TT, con := [(139, bits_Len.con), (138, slices_pdqsortOrdered_int64.con)], frz := [], rows := [], live := [], n := 11, pin := 1, nils := [] }
noncomputable def slices_Sort_int64.fn : D.Fn := { body := Try.f105.body.getD .skip, res := Try.f105.results.toList, ins := [.one (.own 2 true (.int .i64))], outs := [] }
def slices_Sort_int64.enc (y : lsd (flats slices_Sort_int64.fn.outs) × lsd (ios slices_Sort_int64.fn.ins)) : (List Int) := y.2.1
noncomputable def slices_Sort_int64.f (l0 : List Int) : Option (List Int) := denF slices_Sort_int64.E slices_Sort_int64.fn slices_Sort_int64.enc (l0, ())
set_option maxRecDepth 100000 in
theorem slices_Sort_int64.f_eq (l0 : List Int) : slices_Sort_int64.f l0 = (bits_Len.f (wr .u64 (l0.length : Int))).bind fun t9 => (slices_pdqsortOrdered_int64.f l0 0 (l0.length : Int) t9).bind fun t10 => some t10 := by kernel_rfl
noncomputable def slices_Sort_int64.con : Con := ⟨slices_Sort_int64.fn.ins, slices_Sort_int64.fn.outs, (List Int), fun x => slices_Sort_int64.f x.1, fun r => ((()), (r, ()))⟩
theorem slices_Sort_int64.valid : Valid Try.prog 105 slices_Sort_int64.con := fn_valid (f := slices_Sort_int64.fn) (E := slices_Sort_int64.E) (enc := slices_Sort_int64.enc) ⟨ttOk, (conCons bits_Len.valid (conCons slices_pdqsortOrdered_int64.valid conNil))⟩ (Checked.mixed Try.checked) ⟨Try.func105, by kernel_rfl, by kernel_rfl, by kernel_rfl, by kernel_rfl, by decide, by kernel_rfl, by kernel_rfl⟩ (fun _ => rfl)
end Go.Proofs.Ytdiadcmkddkjpaa.P
set_option linter.unusedVariables false
namespace Go.Proofs.Ytdiadcmkddkjpaa.P
open Go Go.RowKit Go.Proofs.Ytdiadcmkddkjpaa.D
noncomputable def impl_Group_classes.E : Env := { tt := TT, con := [(68, impl_order.con), (75, impl_Group_conjugate.con), (105, slices_Sort_int64.con)], frz := [], rows := [], live := [(3, [1, 3, 4, 14, 15]), (8, [1, 3, 4, 5, 6, 14, 15, 24, 25])], n := 53, pin := 0, nils := [] }
noncomputable def impl_Group_classes.fn : D.Fn := { body := Try.f95.body.getD .skip, res := Try.f95.results.toList, ins := [.agg [.v (.sl 25 (.sl 2 (.int .i64)))]], outs := [.one (.own 25 true (.sl 2 (.int .i64)))] }
def impl_Group_classes.enc (y : lsd (flats impl_Group_classes.fn.outs) × lsd (ios impl_Group_classes.fn.ins)) : (List (List Int)) := y.1.1
noncomputable def impl_Group_classes.f (l0_0 : List (List Int)) : Option (List (List Int)) := denF impl_Group_classes.E impl_Group_classes.fn impl_Group_classes.enc (l0_0, ())
noncomputable def impl_Group_classes.l0 (x14 : Int) (x15 : Int) (b0_0 : List (List Int)) (r1 : List (List Int)) (r2 : List Bool) : Option (List (List Int)) := denAt impl_Group_classes.E impl_Group_classes.fn impl_Group_classes.enc [1, 1, 0, 1, 0] { fr := [(1, .lf (.box 0 0)), (3, .lf (.own 1)), (4, .lf (.own 2)), (14, .lf (.int .i64 x14)), (15, .lf (.int .i64 x15))], ob := [(0, .box 32 false [.sl (.sl 2 (.int .i64)) b0_0]), (1, .row 25 true (.sl 2 (.int .i64)) r1), (2, .row 4 true .bool r2)], nx := 3 }
noncomputable def impl_Group_classes.l1 (x5 : Int) (x14 : Int) (x15 : Int) (x24 : Int) (x25 : Int) (b0_0 : List (List Int)) (r1 : List (List Int)) (r2 : List Bool) (r3 : List Int) : Option (List (List Int)) := denAt impl_Group_classes.E impl_Group_classes.fn impl_Group_classes.enc [1, 1, 0, 1, 0, 0, 1, 1, 0, 0, 1, 1, 1, 0, 1, 0] { fr := [(1, .lf (.box 0 0)), (3, .lf (.own 1)), (4, .lf (.own 2)), (5, .lf (.int .i64 x5)), (6, .lf (.own 3)), (14, .lf (.int .i64 x14)), (15, .lf (.int .i64 x15)), (24, .lf (.int .i64 x24)), (25, .lf (.int .i64 x25))], ob := [(0, .box 32 false [.sl (.sl 2 (.int .i64)) b0_0]), (1, .row 25 true (.sl 2 (.int .i64)) r1), (2, .row 4 true .bool r2), (3, .row 2 true (.int .i64) r3)], nx := 4 }
set_option maxRecDepth 100000 in
theorem impl_Group_classes.f_eq (l0_0 : List (List Int)) : impl_Group_classes.f l0_0 = (impl_order.f l0_0).bind fun t11 => if t11 = t11 then (if 0 ≤ t11 then (if (t11 : Int).toNat ≤ 140737488355328 then ((impl_order.f l0_0).bind fun t14 => impl_Group_classes.l0 t14 0 l0_0 ([] : List (List Int)) (List.replicate (t11 : Int).toNat false)) else none) else none) else none := by kernel_rfl
set_option maxRecDepth 100000 in
theorem impl_Group_classes.l0_eq (x14 : Int) (x15 : Int) (b0_0 : List (List Int)) (r1 : List (List Int)) (r2 : List Bool) : impl_Group_classes.l0 x14 x15 b0_0 r1 r2 = if x15 < x14 then (if 0 ≤ x15 then (if x15 < (r2.length : Int) then (if 0 ≤ x15 then (if x15 < (r2.length : Int) then (if (Ty.rd .bool r2 x15) = true then (impl_Group_classes.l0 x14 (wrapI (x15 + 1)) b0_0 r1 r2) else ((impl_order.f b0_0).bind fun t24 => impl_Group_classes.l1 x15 x14 x15 t24 0 b0_0 r1 r2 ([] : List Int))) else none) else none) else none) else none) else (some r1) := (loop_unfold _ _ _ _).trans (by kernel_rfl)
set_option maxRecDepth 100000 in
theorem impl_Group_classes.l1_eq (x5 : Int) (x14 : Int) (x15 : Int) (x24 : Int) (x25 : Int) (b0_0 : List (List Int)) (r1 : List (List Int)) (r2 : List Bool) (r3 : List Int) : impl_Group_classes.l1 x5 x14 x15 x24 x25 b0_0 r1 r2 r3 = if x25 < x24 then ((impl_Group_conjugate.f b0_0 x25 x5).bind fun t31 => if 0 ≤ t31 then (if t31 < (r2.length : Int) then (if 0 ≤ t31 then (if t31 < (r2.length : Int) then (if (Ty.rd .bool r2 t31) = true then (impl_Group_classes.l1 x5 x14 x15 x24 (wrapI (x25 + 1)) b0_0 r1 r2 r3) else (if 0 ≤ t31 then (if t31 < (r2.length : Int) then (if 0 ≤ t31 then (if t31 < (r2.length : Int) then (if r3.length + ([t31] : List Int).length ≤ 17592186044416 then (impl_Group_classes.l1 x5 x14 x15 x24 (wrapI (x25 + 1)) b0_0 r1 (r2.set (t31 : Int).toNat true) (r3 ++ ([t31] : List Int))) else none) else none) else none) else none) else none)) else none) else none) else none) else none) else ((slices_Sort_int64.f r3).bind fun t46 => if r1.length + ([t46] : List (List Int)).length ≤ 5864062014805 then (impl_Group_classes.l0 x14 (wrapI (x15 + 1)) b0_0 (r1 ++ ([t46] : List (List Int))) r2) else none) := (loop_unfold _ _ _ _).trans (by kernel_rfl)
noncomputable def impl_Group_classes.con : Con := ⟨impl_Group_classes.fn.ins, impl_Group_classes.fn.outs, (List (List Int)), fun x => impl_Group_classes.f x.1, fun r => ((r, ()), (()))⟩
theorem impl_Group_classes.valid : Valid Try.prog 95 impl_Group_classes.con := fn_valid (f := impl_Group_classes.fn) (E := impl_Group_classes.E) (enc := impl_Group_classes.enc) ⟨ttOk, (conCons impl_order.valid (conCons impl_Group_conjugate.valid (conCons slices_Sort_int64.valid conNil)))⟩ (Checked.mixed Try.checked) ⟨Try.func95, by kernel_rfl, by kernel_rfl, by kernel_rfl, by kernel_rfl, by decide, by kernel_rfl, by kernel_rfl⟩ (fun _ => rfl)
end Go.Proofs.Ytdiadcmkddkjpaa.P
set_option linter.unusedVariables false
namespace Go.Proofs.Ytdiadcmkddkjpaa.P
open Go Go.RowKit Go.Proofs.Ytdiadcmkddkjpaa.D
noncomputable def impl_ClassesOf.E : Env := { tt := TT, con := [(94, impl_IsGroup.con), (95, impl_Group_classes.con)], frz := [], rows := [], live := [], n := 9, pin := 0, nils := [] }
noncomputable def impl_ClassesOf.fn : D.Fn := { body := Try.f52.body.getD .skip, res := Try.f52.results.toList, ins := [.agg [.v (.sl 25 (.sl 2 (.int .i64)))]], outs := [.one (.own 25 true (.sl 2 (.int .i64))), .one (.v (.int .i64))] }
def impl_ClassesOf.enc (y : lsd (flats impl_ClassesOf.fn.outs) × lsd (ios impl_ClassesOf.fn.ins)) : (List (List Int)) × Int := (y.1.1, y.1.2.1)
noncomputable def impl_ClassesOf.f (l0_0 : List (List Int)) : Option ((List (List Int)) × Int) := denF impl_ClassesOf.E impl_ClassesOf.fn impl_ClassesOf.enc (l0_0, ())
set_option maxRecDepth 100000 in
theorem impl_ClassesOf.f_eq (l0_0 : List (List Int)) : impl_ClassesOf.f l0_0 = (impl_IsGroup.f l0_0).bind fun t5 => if t5 = true then ((impl_Group_classes.f l0_0).bind fun t8 => some (t8, 0)) else (some (([] : List (List Int)), 1)) := by kernel_rfl
noncomputable def impl_ClassesOf.con : Con := ⟨impl_ClassesOf.fn.ins, impl_ClassesOf.fn.outs, (List (List Int)) × Int, fun x => impl_ClassesOf.f x.1, fun r => ((r.1, r.2, ()), (()))⟩
theorem impl_ClassesOf.valid : Valid Try.prog 52 impl_ClassesOf.con := fn_valid (f := impl_ClassesOf.fn) (E := impl_ClassesOf.E) (enc := impl_ClassesOf.enc) ⟨ttOk, (conCons impl_IsGroup.valid (conCons impl_Group_classes.valid conNil))⟩ (Checked.mixed Try.checked) ⟨Try.func52, by kernel_rfl, by kernel_rfl, by kernel_rfl, by kernel_rfl, by decide, by kernel_rfl, by kernel_rfl⟩ (fun _ => rfl)
end Go.Proofs.Ytdiadcmkddkjpaa.P
set_option linter.unusedVariables false
namespace Go.Proofs.Ytdiadcmkddkjpaa.P
open Go Go.RowKit Go.Proofs.Ytdiadcmkddkjpaa.D
noncomputable def laws_FnExactClassesOf.E : Env := { tt := TT, con := [(13, laws_szGroup.con), (16, laws_toGroup.con), (51, spec_ClassesOf.con), (52, impl_ClassesOf.con), (41, laws_eqInt64SS.con), (21, laws_eqGroup.con), (23, laws_markGroup.con), (42, laws_markInt64SS.con), (43, laws_heldInt64SS.con)], frz := [], rows := [], live := [], n := 96, pin := 0, nils := [] }
noncomputable def laws_FnExactClassesOf.fn : D.Fn := { body := Try.f11.body.getD .skip, res := Try.f11.results.toList, ins := [.agg [.v (.sl 25 (.sl 2 (.int .i64)))]], outs := [.one (.v .bool)] }
def laws_FnExactClassesOf.enc (y : lsd (flats laws_FnExactClassesOf.fn.outs) × lsd (ios laws_FnExactClassesOf.fn.ins)) : Bool := y.1.1
noncomputable def laws_FnExactClassesOf.f (l0_0 : List (List Int)) : Option Bool := denF laws_FnExactClassesOf.E laws_FnExactClassesOf.fn laws_FnExactClassesOf.enc (l0_0, ())
set_option maxRecDepth 100000 in
theorem laws_FnExactClassesOf.f_eq (l0_0 : List (List Int)) : laws_FnExactClassesOf.f l0_0 = (laws_szGroup.f l0_0 1048576).bind fun t16 => if t16 < 0 then (some true) else ((laws_toGroup.f l0_0).bind fun t21 => (spec_ClassesOf.f t21).bind fun t22 => (laws_toGroup.f l0_0).bind fun t26 => (impl_ClassesOf.f t26).bind fun t29 => (laws_eqInt64SS.f t29.1 t22.1).bind fun t34 => if t34 = true then (if t29.2 = t22.2 then ((laws_toGroup.f l0_0).bind fun t43 => (laws_eqGroup.f t26 t43).bind fun t44 => if t44 = true then ((laws_markGroup.f t26 1).bind fun t48 => if t48.1 < 0 then (some false) else ((laws_eqInt64SS.f t29.1 t22.1).bind fun t54 => if t54 = true then (if t29.2 = t22.2 then ((laws_markInt64SS.f t29.1 1).bind fun t64 => (laws_heldInt64SS.f t64.2 1).bind fun t67 => if t67 < 0 then (some false) else (if t67 = t64.1 then ((laws_toGroup.f l0_0).bind fun t75 => (impl_ClassesOf.f t75).bind fun t76 => (laws_eqInt64SS.f t76.1 t22.1).bind fun t81 => if t81 = true then (if t76.2 = t22.2 then ((laws_heldInt64SS.f t64.2 1).bind fun t90 => if t90 < 0 then (some false) else (if t90 = t64.1 then (some true) else (some false))) else (some false)) else (some false)) else (some false))) else (some false)) else (some false))) else (some false)) else (some false)) else (some false)) := by kernel_rfl
noncomputable def laws_FnExactClassesOf.con : Con := ⟨laws_FnExactClassesOf.fn.ins, laws_FnExactClassesOf.fn.outs, Bool, fun x => laws_FnExactClassesOf.f x.1, fun r => ((r, ()), (()))⟩
theorem laws_FnExactClassesOf.valid : Valid Try.prog 11 laws_FnExactClassesOf.con := fn_valid (f := laws_FnExactClassesOf.fn) (E := laws_FnExactClassesOf.E) (enc := laws_FnExactClassesOf.enc) ⟨ttOk, (conCons laws_szGroup.valid (conCons laws_toGroup.valid (conCons spec_ClassesOf.valid (conCons impl_ClassesOf.valid (conCons laws_eqInt64SS.valid (conCons laws_eqGroup.valid (conCons laws_markGroup.valid (conCons laws_markInt64SS.valid (conCons laws_heldInt64SS.valid conNil)))))))))⟩ (Checked.mixed Try.checked) ⟨Try.func11, by kernel_rfl, by kernel_rfl, by kernel_rfl, by kernel_rfl, by decide, by kernel_rfl, by kernel_rfl⟩ (fun _ => rfl)
end Go.Proofs.Ytdiadcmkddkjpaa.P
set_option linter.unusedVariables false
namespace Go.Proofs.Ytdiadcmkddkjpaa.P
open Go Go.RowKit Go.Proofs.Ytdiadcmkddkjpaa.D
end Go.Proofs.Ytdiadcmkddkjpaa.P
set_option linter.unusedVariables false
namespace Go.Proofs.Ytdiadcmkddkjpaa.P
open Go Go.RowKit Go.Proofs.Ytdiadcmkddkjpaa.D
end Go.Proofs.Ytdiadcmkddkjpaa.P
set_option linter.unusedVariables false
namespace Go.Proofs.Ytdiadcmkddkjpaa.P
open Go Go.RowKit Go.Proofs.Ytdiadcmkddkjpaa.D
end Go.Proofs.Ytdiadcmkddkjpaa.P
set_option linter.unusedVariables false
namespace Go.Proofs.Ytdiadcmkddkjpaa.P
open Go Go.RowKit Go.Proofs.Ytdiadcmkddkjpaa.D
end Go.Proofs.Ytdiadcmkddkjpaa.P
set_option linter.unusedVariables false
namespace Go.Proofs.Ytdiadcmkddkjpaa.P
open Go Go.RowKit Go.Proofs.Ytdiadcmkddkjpaa.D
end Go.Proofs.Ytdiadcmkddkjpaa.P
set_option linter.unusedVariables false
namespace Go.Proofs.Ytdiadcmkddkjpaa.P
open Go Go.RowKit Go.Proofs.Ytdiadcmkddkjpaa.D
end Go.Proofs.Ytdiadcmkddkjpaa.P
set_option linter.unusedVariables false
namespace Go.Proofs.Ytdiadcmkddkjpaa.V
open Go Go.RowKit Go.Proofs.Ytdiadcmkddkjpaa.D
theorem w64 {x : Int} (h0 : -9223372036854775808 ≤ x) (h1 : x ≤ 9223372036854775807) : wrapI x = x := by unfold wrapI; rw [hid_eq]; unfold wrap64; omega
theorem wn {j : Nat} (h : j < 4611686018427387904) : wrapI ((j : Int) + 1) = ((j + 1 : Nat) : Int) := by rw [w64 (by omega) (by omega)]; omega
theorem go_pos {α : Type} {p : Prop} {inst : Decidable p} {a b r : α} (h : p) (k : a = r) : (if p then a else b) = r := by rw [if_pos h]; exact k
theorem go_neg {α : Type} {p : Prop} {inst : Decidable p} {a b r : α} (h : ¬ p) (k : b = r) : (if p then a else b) = r := by rw [if_neg h]; exact k
theorem go_bind {α β : Type} {c : Option α} {f : α → Option β} {a : α} {r : Option β} (h : c = some a) (k : f a = r) : c.bind f = r := by rw [h]; exact k
theorem maxLen_le : maxLen ≤ 9223372036854775807 := by unfold maxLen; omega
theorem le_maxLen {n : Nat} (h : n ≤ 9223372036854775807) : n ≤ maxLen := by unfold maxLen; omega
noncomputable def ite_ {α : Type} (p : Prop) (a b : α) : α := @ite α p (Classical.propDecidable p) a b
noncomputable def B (p : Prop) : Bool := @decide p (Classical.propDecidable p)
theorem B_pos {p : Prop} (h : p) : B p = true := by unfold B; simp [h]
theorem B_neg {p : Prop} (h : ¬ p) : B p = false := by unfold B; simp [h]
theorem B_not {p : Prop} (h : ¬ p) : ¬ (B p = true) := by rw [B_neg h]; decide
theorem B_congr {p q : Prop} (h : p ↔ q) : B p = B q := by rw [show p = q from propext h]
theorem B_decide (p : Prop) {inst : Decidable p} : decide p = B p := by by_cases h : p <;> simp [h, B]
theorem B_true : B True = true := B_pos trivial
theorem scan {R : Type} (n : Nat) (L : Int → R) (P : Int → Prop) (bad : R)
    (hs : ∀ i : Int, 0 ≤ i → i < n → (∀ j : Int, 0 ≤ j → j < i → P j) → (P i → L i = L (i + 1)) ∧ (¬ P i → L i = bad)) :
    ((∀ j : Int, 0 ≤ j → j < n → P j) ∧ L 0 = L n) ∨ (∃ m : Int, 0 ≤ m ∧ m < n ∧ (∀ j : Int, 0 ≤ j → j < m → P j) ∧ ¬ P m ∧ L 0 = L m ∧ L 0 = bad) := by
  suffices H : ∀ d m : Nat, m + d = n → (∀ j : Int, 0 ≤ j → j < m → P j) →
      ((∀ j : Int, 0 ≤ j → j < n → P j) ∧ L m = L n) ∨ (∃ i : Int, 0 ≤ i ∧ i < n ∧ (∀ j : Int, 0 ≤ j → j < i → P j) ∧ ¬ P i ∧ L m = L i ∧ L m = bad) by
    simpa using H n 0 (by omega) (fun j h0 h1 => by omega)
  intro d
  induction d with
  | zero =>
    intro m hm hp
    have : (m : Int) = n := by omega
    rw [this] at hp ⊢
    exact .inl ⟨hp, rfl⟩
  | succ d ih =>
    intro m hm hp
    obtain ⟨h1, h2⟩ := hs m (by omega) (by omega) hp
    by_cases h : P m
    · have hp' : ∀ j : Int, 0 ≤ j → j < ((m + 1 : Nat) : Int) → P j := fun j h0 hj => by
        by_cases e : j = m
        · rw [e]; exact h
        · exact hp j h0 (by omega)
      have := ih (m + 1) (by omega) hp'
      rwa [Int.natCast_add, Int.natCast_one, ← h1 h] at this
    · exact .inr ⟨m, by omega, by omega, hp, h, rfl, h2 h⟩
theorem scanB (n : Nat) (L : Int → Option Bool) (P : Int → Prop) (Q : Prop)
    (hs : ∀ i : Int, 0 ≤ i → i < n → (∀ j : Int, 0 ≤ j → j < i → P j) → (P i → L i = L (i + 1)) ∧ (¬ P i → L i = some false))
    (he : (∀ j : Int, 0 ≤ j → j < n → P j) → L n = some (B Q)) : L 0 = some (B ((∀ j : Int, 0 ≤ j → j < n → P j) ∧ Q)) := by
  rcases scan n L P (some false) hs with ⟨h1, h2⟩ | ⟨j, h0, h1, _, h2, _, h3⟩
  · rw [B_congr (show ((∀ j : Int, 0 ≤ j → j < n → P j) ∧ Q) ↔ Q from ⟨fun h => h.2, fun h => ⟨h1, h⟩⟩), h2]
    exact he h1
  · rw [B_neg fun h => h2 (h.1 j h0 h1)]
    exact h3
theorem scanT (n : Nat) (L : Int → Option Bool) (P : Int → Prop)
    (hs : ∀ i : Int, 0 ≤ i → i < n → (∀ j : Int, 0 ≤ j → j < i → P j) → (P i → L i = L (i + 1)) ∧ (¬ P i → L i = some false))
    (he : (∀ j : Int, 0 ≤ j → j < n → P j) → L n = some true) : L 0 = some (B (∀ j : Int, 0 ≤ j → j < n → P j)) := by
  have := scanB n L P True hs (fun h => by rw [B_true]; exact he h)
  rwa [B_congr (show ((∀ j : Int, 0 ≤ j → j < n → P j) ∧ True) ↔ _ from ⟨fun h => h.1, fun h => ⟨h, trivial⟩⟩)] at this
theorem scanI {R : Type} (n : Nat) (L : Int → R) (P : Int → Prop) (bad go : R)
    (hs : ∀ i : Int, 0 ≤ i → i < n → (∀ j : Int, 0 ≤ j → j < i → P j) → (P i → L i = L (i + 1)) ∧ (¬ P i → L i = bad)) (he : (∀ j : Int, 0 ≤ j → j < n → P j) → L n = go) :
    ((∀ j : Int, 0 ≤ j → j < n → P j) → L 0 = go) ∧ (¬ (∀ j : Int, 0 ≤ j → j < n → P j) → L 0 = bad) := by
  rcases scan n L P bad hs with ⟨h1, h2⟩ | ⟨j, h0, h1, _, h2, _, h3⟩
  · exact ⟨fun _ => h2.trans (he h1), fun h => absurd h1 h⟩
  · exact ⟨fun h => absurd (h j h0 h1) h2, fun _ => h3⟩
theorem up {R : Type} (n : Nat) (L : Nat → R) (h : ∀ i, i < n → L i = L (i + 1)) : L 0 = L n := by
  suffices H : ∀ m, m ≤ n → L 0 = L m from H n (Nat.le_refl _)
  intro m
  induction m with
  | zero => exact fun _ => rfl
  | succ m ih => exact fun hm => (ih (by omega)).trans (h m (by omega))
theorem rd_get {xs : List Int} {j : Nat} (h : j < xs.length) : rd xs (j : Int) = xs[j] := by simp [rd, List.getD_eq_getElem?_getD, List.getElem?_eq_getElem h]
theorem rd_at {xs : List Int} {i : Int} (h0 : 0 ≤ i) (h1 : i < xs.length) : xs[i.toNat]? = some (rd xs i) := by
  have h : i.toNat < xs.length := by omega
  simp [rd, List.getD_eq_getElem?_getD, List.getElem?_eq_getElem h]
theorem rd_mem {xs : List Int} {i : Int} (h0 : 0 ≤ i) (h1 : i < xs.length) : rd xs i ∈ xs := List.mem_of_getElem? (rd_at h0 h1)
theorem ext_rd {xs ys : List Int} (hl : xs.length = ys.length) (h : ∀ i : Int, 0 ≤ i → i < xs.length → rd xs i = rd ys i) : xs = ys := by
  apply List.ext_getElem hl
  intro i h1 h2
  have := h i (by omega) (by omega)
  simpa [rd, List.getD_eq_getElem?_getD, List.getElem?_eq_getElem h1, List.getElem?_eq_getElem h2] using this
theorem row_get {g : List (List Int)} {j : Nat} (h : j < g.length) : row g (j : Int) = g[j] := by simp [row, List.getD_eq_getElem?_getD, List.getElem?_eq_getElem h]
theorem row_mem {g : List (List Int)} {a : Int} (h0 : 0 ≤ a) (h1 : a < g.length) : row g a ∈ g := by
  have h : a.toNat < g.length := by omega
  unfold row
  rw [List.getD_eq_getElem?_getD, List.getElem?_eq_getElem h]
  exact List.getElem_mem h
theorem mem_row {g : List (List Int)} {r : List Int} (h : r ∈ g) : ∃ i : Int, 0 ≤ i ∧ i < g.length ∧ row g i = r := by
  obtain ⟨i, hi, rfl⟩ := List.mem_iff_getElem.1 h
  exact ⟨i, by omega, by omega, row_get hi⟩
theorem ext_row {xs ys : List (List Int)} (hl : xs.length = ys.length) (h : ∀ i : Int, 0 ≤ i → i < xs.length → row xs i = row ys i) : xs = ys := by
  apply List.ext_getElem hl
  intro i h1 h2
  have := h i (by omega) (by omega)
  rwa [row_get h1, row_get h2] at this
def AllIn (n : Int) (xs : List Int) : Prop := ∀ i : Int, 0 ≤ i → i < xs.length → 0 ≤ rd xs i ∧ rd xs i < n
theorem allIn_three {n x y z : Int} (h0 : 0 ≤ x) (h1 : x < n) (h2 : 0 ≤ y) (h3 : y < n) (h4 : 0 ≤ z) (h5 : z < n) : AllIn n [x, y, z] := by
  intro i i0 i1
  have : i = 0 ∨ i = 1 ∨ i = 2 := by simp at i1; omega
  rcases this with rfl | rfl | rfl <;> simp [rd, *]
theorem AllIn.mem {n : Int} {xs : List Int} (h : AllIn n xs) {x : Int} (hx : x ∈ xs) : 0 ≤ x ∧ x < n := by
  obtain ⟨i, hi, rfl⟩ := List.mem_iff_getElem.1 hx
  have := h i (by omega) (by omega)
  rwa [rd_get hi] at this
theorem allIn_of {n : Int} {xs : List Int} (h : ∀ x ∈ xs, 0 ≤ x ∧ x < n) : AllIn n xs := fun i i0 i1 => h _ (rd_mem i0 i1)
theorem AllIn.drop {n : Int} {xs : List Int} (h : AllIn n xs) (j : Nat) : AllIn n (xs.drop j) := allIn_of fun x hx => h.mem (List.mem_of_mem_drop hx)
theorem AllIn.take {n : Int} {xs : List Int} (h : AllIn n xs) (j : Nat) : AllIn n (xs.take j) := allIn_of fun x hx => h.mem (List.mem_of_mem_take hx)
theorem AllIn.append {n : Int} {xs ys : List Int} (h : AllIn n xs) (k : AllIn n ys) : AllIn n (xs ++ ys) := allIn_of fun x hx => by
  rcases List.mem_append.1 hx with h' | h'
  · exact h.mem h'
  · exact k.mem h'
end Go.Proofs.Ytdiadcmkddkjpaa.V
set_option linter.unusedVariables false
set_option linter.unusedSimpArgs false
set_option maxHeartbeats 2000000
set_option maxRecDepth 20000
namespace Go.Proofs.Ytdiadcmkddkjpaa.V
open Go.RowKit Go.Proofs.Ytdiadcmkddkjpaa.D Go.Proofs.Ytdiadcmkddkjpaa.P
theorem copy_step {α : Type} (xs : List α) (d : α) (m : Nat) (hm : m < xs.length) :
    (xs.take m ++ List.replicate (xs.length - m) d).set m xs[m] = xs.take (m + 1) ++ List.replicate (xs.length - (m + 1)) d := by
  have h1 : (xs.take m).length = m := by rw [List.length_take]; omega
  rw [List.set_append, if_neg (by omega), h1, Nat.sub_self]
  rw [show xs.length - m = (xs.length - (m + 1)) + 1 by omega, List.replicate_succ, List.set_cons_zero]
  rw [List.take_succ_eq_append_getElem hm, List.append_assoc]; rfl
theorem copy_len {α : Type} (xs : List α) (d : α) (m : Nat) (hm : m ≤ xs.length) : (xs.take m ++ List.replicate (xs.length - m) d).length = xs.length := by
  rw [List.length_append, List.length_take, List.length_replicate]; omega
theorem toInt64S (xs : List Int) (hl : xs.length ≤ 1048576) : laws_toInt64S.f xs = some xs := by
  rw [laws_toInt64S.f_eq, Int.toNat_natCast]
  (with_reducible repeat (first | refine go_pos (by first | assumption | omega | rfl | exact B_pos (by omega)) ?_ | refine go_neg (by first | assumption | omega | decide | exact B_not (by omega)) ?_ | refine go_bind (by first | assumption) ?_ | dsimp only))
  have := up xs.length (fun m => laws_toInt64S.l0 xs (m : Int) (xs.take m ++ List.replicate (xs.length - m) 0)) (fun m hm => by
    have hw : wrapI ((m : Int) + 1) = ((m + 1 : Nat) : Int) := by rw [w64 (by omega) (by omega)]; omega
    have l1 := copy_len xs (0 : Int) m (by omega)
    rw [← copy_step xs 0 m hm, laws_toInt64S.l0_eq, hw, Int.toNat_natCast, rd_get hm]
    ((with_reducible repeat (first | refine go_pos (by first | assumption | omega | rfl | exact B_pos (by omega)) ?_ | refine go_neg (by first | assumption | omega | decide | exact B_not (by omega)) ?_ | refine go_bind (by first | assumption) ?_ | dsimp only)); first | done | (with_reducible rfl) | simp (disch := omega) only [w64] | (show False; done)))
  simp only [List.take_zero, List.nil_append, Nat.sub_zero, List.take_length, Nat.sub_self, List.replicate_zero, List.append_nil, Int.natCast_zero] at this
  rw [this, laws_toInt64S.l0_eq]
  ((with_reducible repeat (first | refine go_pos (by first | assumption | omega | rfl | exact B_pos (by omega)) ?_ | refine go_neg (by first | assumption | omega | decide | exact B_not (by omega)) ?_ | refine go_bind (by first | assumption) ?_ | dsimp only)); first | done | (with_reducible rfl) | simp (disch := omega) only [w64] | (show False; done))
theorem toInt64SS (g : List (List Int)) (hl : g.length ≤ 1048576) (hr : ∀ r ∈ g, r.length ≤ 1048576) : laws_toInt64SS.f g = some g := by
  rw [laws_toInt64SS.f_eq, Int.toNat_natCast]
  (with_reducible repeat (first | refine go_pos (by first | assumption | omega | rfl | exact B_pos (by omega)) ?_ | refine go_neg (by first | assumption | omega | decide | exact B_not (by omega)) ?_ | refine go_bind (by first | assumption) ?_ | dsimp only))
  have := up g.length (fun m => laws_toInt64SS.l0 g (m : Int) (g.take m ++ List.replicate (g.length - m) [])) (fun m hm => by
    have hw : wrapI ((m : Int) + 1) = ((m + 1 : Nat) : Int) := by rw [w64 (by omega) (by omega)]; omega
    have l1 := copy_len g ([] : List Int) m (by omega)
    have ht := toInt64S g[m] (hr _ (List.getElem_mem hm))
    rw [← copy_step g [] m hm, laws_toInt64SS.l0_eq, hw, Int.toNat_natCast, row_get hm]
    ((with_reducible repeat (first | refine go_pos (by first | assumption | omega | rfl | exact B_pos (by omega)) ?_ | refine go_neg (by first | assumption | omega | decide | exact B_not (by omega)) ?_ | refine go_bind (by first | assumption) ?_ | dsimp only)); first | done | (with_reducible rfl) | simp (disch := omega) only [w64] | (show False; done)))
  simp only [List.take_zero, List.nil_append, Nat.sub_zero, List.take_length, Nat.sub_self, List.replicate_zero, List.append_nil, Int.natCast_zero] at this
  rw [this, laws_toInt64SS.l0_eq]
  ((with_reducible repeat (first | refine go_pos (by first | assumption | omega | rfl | exact B_pos (by omega)) ?_ | refine go_neg (by first | assumption | omega | decide | exact B_not (by omega)) ?_ | refine go_bind (by first | assumption) ?_ | dsimp only)); first | done | (with_reducible rfl) | simp (disch := omega) only [w64] | (show False; done))
theorem toGroup (g : List (List Int)) (hl : g.length ≤ 1048576) (hr : ∀ r ∈ g, r.length ≤ 1048576) : laws_toGroup.f g = some g := by
  rw [laws_toGroup.f_eq]; ((with_reducible repeat (first | refine go_pos (by first | assumption | omega | rfl | exact B_pos (by omega)) ?_ | refine go_neg (by first | assumption | omega | decide | exact B_not (by omega)) ?_ | refine go_bind (by first | assumption | exact toInt64SS _ hl hr) ?_ | dsimp only)); first | done | (with_reducible rfl) | simp (disch := omega) only [w64] | (show False; done))
theorem eqInt64S (xs ys : List Int) (hl : xs.length ≤ maxLen) : laws_eqInt64S.f xs ys = some (B (xs = ys)) := by
  have hm := maxLen_le
  rw [laws_eqInt64S.f_eq]
  by_cases h : (xs.length : Int) = ys.length
  rotate_left
  · rw [B_neg fun e => h (by rw [e])]
    ((with_reducible repeat (first | refine go_pos (by first | assumption | omega | rfl | exact B_pos (by omega)) ?_ | refine go_neg (by first | assumption | omega | decide | exact B_not (by omega)) ?_ | refine go_bind (by first | assumption) ?_ | dsimp only)); first | done | (with_reducible rfl) | simp (disch := omega) only [w64] | (show False; done))
  (with_reducible repeat (first | refine go_pos (by first | assumption | omega | rfl | exact B_pos (by omega)) ?_ | refine go_neg (by first | assumption | omega | decide | exact B_not (by omega)) ?_ | refine go_bind (by first | assumption) ?_ | dsimp only))
  rw [B_congr (show xs = ys ↔ ∀ i : Int, 0 ≤ i → i < xs.length → rd xs i = rd ys i from ⟨fun e i _ _ => by rw [e], fun e => ext_rd (by omega) e⟩)]
  refine scanT xs.length (fun i => laws_eqInt64S.l0 xs ys i) (fun i => rd xs i = rd ys i) (fun i i0 i1 _ => ?_) (fun _ => by (rw [laws_eqInt64S.l0_eq]); ((with_reducible repeat (first | refine go_pos (by first | assumption | omega | rfl | exact B_pos (by omega)) ?_ | refine go_neg (by first | assumption | omega | decide | exact B_not (by omega)) ?_ | refine go_bind (by first | assumption) ?_ | dsimp only)); first | done | (with_reducible rfl) | simp (disch := omega) only [w64] | (show False; done)))
  refine ⟨fun h => ?_, fun h => ?_⟩ <;> (rw [laws_eqInt64S.l0_eq]) <;> ((with_reducible repeat (first | refine go_pos (by first | assumption | omega | rfl | exact B_pos (by omega)) ?_ | refine go_neg (by first | assumption | omega | decide | exact B_not (by omega)) ?_ | refine go_bind (by first | assumption) ?_ | dsimp only)); first | done | (with_reducible rfl) | simp (disch := omega) only [w64] | (show False; done))
theorem eqInt64SS (xs ys : List (List Int)) (hl : xs.length ≤ maxLen) (hr : ∀ r ∈ xs, r.length ≤ maxLen) : laws_eqInt64SS.f xs ys = some (B (xs = ys)) := by
  have hm := maxLen_le
  rw [laws_eqInt64SS.f_eq]
  by_cases h : (xs.length : Int) = ys.length
  rotate_left
  · rw [B_neg fun e => h (by rw [e])]
    ((with_reducible repeat (first | refine go_pos (by first | assumption | omega | rfl | exact B_pos (by omega)) ?_ | refine go_neg (by first | assumption | omega | decide | exact B_not (by omega)) ?_ | refine go_bind (by first | assumption) ?_ | dsimp only)); first | done | (with_reducible rfl) | simp (disch := omega) only [w64] | (show False; done))
  (with_reducible repeat (first | refine go_pos (by first | assumption | omega | rfl | exact B_pos (by omega)) ?_ | refine go_neg (by first | assumption | omega | decide | exact B_not (by omega)) ?_ | refine go_bind (by first | assumption) ?_ | dsimp only))
  rw [B_congr (show xs = ys ↔ ∀ i : Int, 0 ≤ i → i < xs.length → row xs i = row ys i from ⟨fun e i _ _ => by rw [e], fun e => ext_row (by omega) e⟩)]
  refine scanT xs.length (fun i => laws_eqInt64SS.l0 xs ys i) (fun i => row xs i = row ys i) (fun i i0 i1 _ => ?_) (fun _ => by (rw [laws_eqInt64SS.l0_eq]); ((with_reducible repeat (first | refine go_pos (by first | assumption | omega | rfl | exact B_pos (by omega)) ?_ | refine go_neg (by first | assumption | omega | decide | exact B_not (by omega)) ?_ | refine go_bind (by first | assumption) ?_ | dsimp only)); first | done | (with_reducible rfl) | simp (disch := omega) only [w64] | (show False; done)))
  have he := eqInt64S (row xs i) (row ys i) (hr _ (row_mem i0 i1))
  refine ⟨fun h => ?_, fun h => ?_⟩
  · rw [B_pos h] at he
    (rw [laws_eqInt64SS.l0_eq])
    ((with_reducible repeat (first | refine go_pos (by first | assumption | omega | rfl | exact B_pos (by omega)) ?_ | refine go_neg (by first | assumption | omega | decide | exact B_not (by omega)) ?_ | refine go_bind (by first | assumption) ?_ | dsimp only)); first | done | (with_reducible rfl) | simp (disch := omega) only [w64] | (show False; done))
  · rw [B_neg h] at he
    (rw [laws_eqInt64SS.l0_eq])
    ((with_reducible repeat (first | refine go_pos (by first | assumption | omega | rfl | exact B_pos (by omega)) ?_ | refine go_neg (by first | assumption | omega | decide | exact B_not (by omega)) ?_ | refine go_bind (by first | assumption) ?_ | dsimp only)); first | done | (with_reducible rfl) | simp (disch := omega) only [w64] | (show False; done))
theorem eqGroup (xs ys : List (List Int)) (hl : xs.length ≤ maxLen) (hr : ∀ r ∈ xs, r.length ≤ maxLen) : laws_eqGroup.f xs ys = some (B (xs = ys)) := by
  have he := eqInt64SS xs ys hl hr
  rw [laws_eqGroup.f_eq, he]
  by_cases h : xs = ys
  · rw [B_pos h]; rfl
  · rw [B_neg h]; rfl
theorem same_Rows (xs : List (List Int)) (hl : xs.length ≤ maxLen) (hr : ∀ r ∈ xs, r.length ≤ maxLen) : laws_eqInt64SS.f xs xs = some true := by rw [eqInt64SS xs xs hl hr, B_pos rfl]
theorem same_Group (xs : List (List Int)) (hl : xs.length ≤ maxLen) (hr : ∀ r ∈ xs, r.length ≤ maxLen) : laws_eqGroup.f xs xs = some true := by rw [eqGroup xs xs hl hr, B_pos rfl]
theorem szInt64S (xs : List Int) (left : Int) (hl : xs.length ≤ maxLen) (l0 : 0 ≤ left) (l1 : left ≤ 1048576) :
    ∃ t, laws_szInt64S.f xs left = some t ∧ (t < 0 ∨ (0 ≤ t ∧ t ≤ 1048576 ∧ xs.length ≤ 1048576)) := by
  have hm := maxLen_le
  rw [laws_szInt64S.f_eq, w64 (by omega) (by omega)]
  by_cases h : left - (xs.length : Int) < 0
  · exact ⟨_, if_pos h, .inl (by omega)⟩
  · exact ⟨_, if_neg h, .inr (by omega)⟩
theorem szInt64SS (g : List (List Int)) (left : Int) (hl : g.length ≤ maxLen) (hr : ∀ r ∈ g, r.length ≤ maxLen) (l0 : 0 ≤ left) (l1 : left ≤ 1048576) :
    ∃ t, laws_szInt64SS.f g left = some t ∧ (t < 0 ∨ (0 ≤ t ∧ t ≤ 1048576 ∧ g.length ≤ 1048576 ∧ ∀ r ∈ g, r.length ≤ 1048576)) := by
  have hm := maxLen_le
  rw [laws_szInt64SS.f_eq, w64 (by omega) (by omega)]
  by_cases h : left - (g.length : Int) < 0
  · exact ⟨_, if_pos h, .inl (by omega)⟩
  rw [if_neg h]
  have H : ∀ d m : Nat, m + d = g.length → ∀ s : Int, 0 ≤ s → s ≤ 1048576 → (∀ j, j < m → (row g j).length ≤ 1048576) → ∃ t, laws_szInt64SS.l0 g s (m : Int) = some t ∧ (t < 0 ∨ (0 ≤ t ∧ t ≤ 1048576 ∧ g.length ≤ 1048576 ∧ ∀ r ∈ g, r.length ≤ 1048576)) := by
    intro d
    induction d with
    | zero =>
      intro m hd s s0 s1 hs
      obtain rfl : m = g.length := by omega
      refine ⟨s, by (rw [laws_szInt64SS.l0_eq]); ((with_reducible repeat (first | refine go_pos (by first | assumption | omega | rfl | exact B_pos (by omega)) ?_ | refine go_neg (by first | assumption | omega | decide | exact B_not (by omega)) ?_ | refine go_bind (by first | assumption) ?_ | dsimp only)); first | done | (with_reducible rfl) | simp (disch := omega) only [w64] | (show False; done)), .inr ⟨s0, s1, by omega, fun r hr' => ?_⟩⟩
      obtain ⟨i, i0, i1, rfl⟩ := mem_row hr'
      have := hs i.toNat (by omega)
      rwa [show ((i.toNat : Nat) : Int) = i by omega] at this
    | succ d ih =>
      intro m hd s s0 s1 hs
      obtain ⟨t, ht, h⟩ := szInt64S (row g m) s (hr _ (row_mem (by omega) (by omega))) s0 s1
      have hw : wrapI ((m : Int) + 1) = ((m + 1 : Nat) : Int) := by rw [w64 (by omega) (by omega)]; omega
      rcases h with h | ⟨h0, h1, h2⟩
      · refine ⟨-1, ?_, .inl (by omega)⟩
        (rw [laws_szInt64SS.l0_eq])
        ((with_reducible repeat (first | refine go_pos (by first | assumption | omega | rfl | exact B_pos (by omega)) ?_ | refine go_neg (by first | assumption | omega | decide | exact B_not (by omega)) ?_ | refine go_bind (by first | assumption) ?_ | dsimp only)); first | done | (with_reducible rfl) | simp (disch := omega) only [w64] | (show False; done))
      · obtain ⟨t', ht', h'⟩ := ih (m + 1) (by omega) t h0 h1 (fun j hj => by
          by_cases e : j = m
          · rw [e]; exact h2
          · exact hs j (by omega))
        refine ⟨t', ?_, h'⟩
        (rw [laws_szInt64SS.l0_eq, hw])
        (with_reducible repeat (first | refine go_pos (by first | assumption | omega | rfl | exact B_pos (by omega)) ?_ | refine go_neg (by first | assumption | omega | decide | exact B_not (by omega)) ?_ | refine go_bind (by first | assumption) ?_ | dsimp only))
        exact ht'
  have := H g.length 0 (by omega) (left - g.length) (by omega) (by omega) (fun j hj => by omega)
  exact this
theorem szGroup (g : List (List Int)) (left : Int) (hl : g.length ≤ maxLen) (hr : ∀ r ∈ g, r.length ≤ maxLen) (l0 : 0 ≤ left) (l1 : left ≤ 1048576) :
    ∃ t, laws_szGroup.f g left = some t ∧ (t < 0 ∨ (0 ≤ t ∧ t ≤ 1048576 ∧ g.length ≤ 1048576 ∧ ∀ r ∈ g, r.length ≤ 1048576)) := by
  obtain ⟨t, ht, h⟩ := szInt64SS g left hl hr l0 l1
  rw [laws_szGroup.f_eq]
  rcases h with h | h
  · exact ⟨-1, by ((with_reducible repeat (first | refine go_pos (by first | assumption | omega | rfl | exact B_pos (by omega)) ?_ | refine go_neg (by first | assumption | omega | decide | exact B_not (by omega)) ?_ | refine go_bind (by first | assumption) ?_ | dsimp only)); first | done | (with_reducible rfl) | simp (disch := omega) only [w64] | (show False; done)), .inl (by omega)⟩
  · have := h.1
    exact ⟨t, by ((with_reducible repeat (first | refine go_pos (by first | assumption | omega | rfl | exact B_pos (by omega)) ?_ | refine go_neg (by first | assumption | omega | decide | exact B_not (by omega)) ?_ | refine go_bind (by first | assumption) ?_ | dsimp only)); first | done | (with_reducible rfl) | simp (disch := omega) only [w64] | (show False; done)), .inr h⟩
def MkS (a : Int) (n : Nat) : List Int := (List.range n).map fun (i : Nat) => a + (i : Int)
theorem MkS_length (a : Int) (n : Nat) : (MkS a n).length = n := by simp [MkS]
theorem MkS_rd {a : Int} {n : Nat} {i : Int} (h0 : 0 ≤ i) (h1 : i < n) : rd (MkS a n) i = a + i := by
  have h : i.toNat < n := by omega
  simp [rd, MkS, List.getD_eq_getElem?_getD, h]
  omega
theorem MkS_step (a : Int) (xs : List Int) (m : Nat) (hm : m < xs.length) : (MkS a m ++ xs.drop m).set m (a + m) = MkS a (m + 1) ++ xs.drop (m + 1) := by
  rw [List.set_append, if_neg (by rw [MkS_length]; omega), MkS_length, Nat.sub_self, List.drop_eq_getElem_cons hm, List.set_cons_zero]
  simp [MkS, List.range_succ]
theorem markS (xs : List Int) (a : Int) (h0 : 0 ≤ a) (h1 : a + xs.length ≤ 4611686018427387904) : laws_markInt64S.f xs a = some (a + xs.length, MkS a xs.length) := by
  rw [laws_markInt64S.f_eq]
  have := up xs.length (fun m => laws_markInt64S.l0 (a + (m : Int)) (m : Int) (MkS a m ++ xs.drop m)) (fun m hm => by
    have hw : wrapI ((m : Int) + 1) = ((m + 1 : Nat) : Int) := by rw [w64 (by omega) (by omega)]; omega
    have hw2 : wrapI (a + (m : Int) + 1) = a + ((m + 1 : Nat) : Int) := by rw [w64 (by omega) (by omega)]; omega
    have l1 : (MkS a m ++ xs.drop m).length = xs.length := by rw [List.length_append, MkS_length, List.length_drop]; omega
    rw [← MkS_step a xs m hm, laws_markInt64S.l0_eq, hw, hw2, Int.toNat_natCast]
    ((with_reducible repeat (first | refine go_pos (by first | assumption | omega | rfl | exact B_pos (by omega)) ?_ | refine go_neg (by first | assumption | omega | decide | exact B_not (by omega)) ?_ | refine go_bind (by first | assumption) ?_ | dsimp only)); first | done | (with_reducible rfl) | simp (disch := omega) only [w64] | (show False; done)))
  simp only [Int.natCast_zero, Int.add_zero, List.drop_zero, List.drop_length, List.append_nil, show MkS a 0 = [] from rfl, List.nil_append] at this
  have hl := MkS_length a xs.length
  rw [this, laws_markInt64S.l0_eq]
  ((with_reducible repeat (first | refine go_pos (by first | assumption | omega | rfl | exact B_pos (by omega)) ?_ | refine go_neg (by first | assumption | omega | decide | exact B_not (by omega)) ?_ | refine go_bind (by first | assumption) ?_ | dsimp only)); first | done | (with_reducible rfl) | simp (disch := omega) only [w64] | (show False; done))
theorem heldS (a : Int) (n : Nat) (h0 : 0 ≤ a) (h1 : a + n ≤ 4611686018427387904) : laws_heldInt64S.f (MkS a n) a = some (a + n) := by
  rw [laws_heldInt64S.f_eq]
  have hl := MkS_length a n
  have := up n (fun m => laws_heldInt64S.l0 (MkS a n) (a + (m : Int)) (m : Int)) (fun m hm => by
    have hw : wrapI ((m : Int) + 1) = ((m + 1 : Nat) : Int) := by rw [w64 (by omega) (by omega)]; omega
    have hw2 : wrapI (a + (m : Int) + 1) = a + ((m + 1 : Nat) : Int) := by rw [w64 (by omega) (by omega)]; omega
    have e := MkS_rd (a := a) (n := n) (i := m) (by omega) (by omega)
    rw [laws_heldInt64S.l0_eq, hw, hw2]
    ((with_reducible repeat (first | refine go_pos (by first | assumption | omega | rfl | exact B_pos (by omega)) ?_ | refine go_neg (by first | assumption | omega | decide | exact B_not (by omega)) ?_ | refine go_bind (by first | assumption) ?_ | dsimp only)); first | done | (with_reducible rfl) | simp (disch := omega) only [w64] | (show False; done)))
  simp only [Int.natCast_zero, Int.add_zero] at this
  rw [this, laws_heldInt64S.l0_eq]
  ((with_reducible repeat (first | refine go_pos (by first | assumption | omega | rfl | exact B_pos (by omega)) ?_ | refine go_neg (by first | assumption | omega | decide | exact B_not (by omega)) ?_ | refine go_bind (by first | assumption) ?_ | dsimp only)); first | done | (with_reducible rfl) | simp (disch := omega) only [w64] | (show False; done))
def tot : List (List Int) → Nat
  | [] => 0
  | r :: g => r.length + tot g
def MkSS (a : Int) : List (List Int) → List (List Int)
  | [] => []
  | r :: g => MkS a r.length :: MkSS (a + r.length) g
theorem MkSS_length (g : List (List Int)) : ∀ a, (MkSS a g).length = g.length := by
  induction g with
  | nil => intro a; rfl
  | cons r g ih => intro a; simp [MkSS, ih]
theorem tot_le (b : Nat) (g : List (List Int)) (h : ∀ r ∈ g, r.length ≤ b) : tot g ≤ g.length * b := by
  induction g with
  | nil => simp [tot]
  | cons r g ih =>
    have h1 := ih fun r hr => h r (List.mem_cons_of_mem _ hr)
    have h2 := h r (List.mem_cons_self ..)
    rw [List.length_cons, Nat.succ_mul, tot]
    omega
theorem tot_small {g : List (List Int)} (h1 : g.length ≤ 1048576) (h2 : ∀ r ∈ g, r.length ≤ 1048576) : tot g ≤ 1099511627776 :=
  Nat.le_trans (tot_le 1048576 g h2) (Nat.mul_le_mul_right 1048576 h1)
theorem markSS (g : List (List Int)) (a : Int) (h0 : 0 ≤ a) (h1 : a + tot g ≤ 4611686018427387904) (hl : g.length ≤ 4611686018427387904) : laws_markInt64SS.f g a = some (a + tot g, MkSS a g) := by
  rw [laws_markInt64SS.f_eq]
  suffices H : ∀ (g done : List (List Int)) (b : Int), 0 ≤ b → b + tot g ≤ 4611686018427387904 → done.length + g.length ≤ 4611686018427387904 → laws_markInt64SS.l0 b (done.length : Int) (done ++ g) = some (b + tot g, done ++ MkSS b g) from by
    simpa using H g [] a h0 h1 (by simpa using hl)
  intro g
  induction g with
  | nil =>
    intro done b b0 b1 hd
    rw [laws_markInt64SS.l0_eq, List.append_nil]
    have : b + ((tot [] : Nat) : Int) = b := by simp [tot]
    rw [this, MkSS, List.append_nil]
    ((with_reducible repeat (first | refine go_pos (by first | assumption | omega | rfl | exact B_pos (by omega)) ?_ | refine go_neg (by first | assumption | omega | decide | exact B_not (by omega)) ?_ | refine go_bind (by first | assumption) ?_ | dsimp only)); first | done | (with_reducible rfl) | simp (disch := omega) only [w64] | (show False; done))
  | cons r g ih =>
    intro done b b0 b1 hd
    simp only [tot, List.length_cons] at b1 hd
    have m1 : (done ++ r :: g).length = done.length + g.length + 1 := by rw [List.length_append, List.length_cons]; omega
    have hw : wrapI ((done.length : Int) + 1) = (((done ++ [MkS b r.length]).length : Nat) : Int) := by
      rw [w64 (by omega) (by omega), List.length_append, List.length_singleton]; omega
    have e : row (done ++ r :: g) (done.length : Int) = r := by simp [row, List.getD_eq_getElem?_getD]
    have e2 : (done ++ r :: g).set done.length (MkS b r.length) = (done ++ [MkS b r.length]) ++ g := by
      rw [List.set_append, if_neg (by omega), Nat.sub_self, List.set_cons_zero]; simp
    have hm := markS r b b0 (by omega)
    rw [laws_markInt64SS.l0_eq, hw, e, Int.toNat_natCast]
    (with_reducible repeat (first | refine go_pos (by first | assumption | omega | rfl | exact B_pos (by omega)) ?_ | refine go_neg (by first | assumption | omega | decide | exact B_not (by omega)) ?_ | refine go_bind (by first | assumption) ?_ | dsimp only))
    have := ih (done ++ [MkS b r.length]) (b + r.length) (by omega) (by omega) (by rw [List.length_append, List.length_singleton]; omega)
    rw [e2, this]
    simp only [MkSS, tot, List.append_assoc, List.singleton_append, Int.natCast_add, Int.add_assoc]
theorem markGroup (g : List (List Int)) (a : Int) (h0 : 0 ≤ a) (h1 : a + tot g ≤ 4611686018427387904) (hl : g.length ≤ 4611686018427387904) : laws_markGroup.f g a = some (a + tot g, MkSS a g) := by
  have := markSS g a h0 h1 hl
  rw [laws_markGroup.f_eq]; ((with_reducible repeat (first | refine go_pos (by first | assumption | omega | rfl | exact B_pos (by omega)) ?_ | refine go_neg (by first | assumption | omega | decide | exact B_not (by omega)) ?_ | refine go_bind (by first | assumption) ?_ | dsimp only)); first | done | (with_reducible rfl) | simp (disch := omega) only [w64] | (show False; done))
theorem heldSS (g : List (List Int)) (a : Int) (h0 : 0 ≤ a) (h1 : a + tot g ≤ 4611686018427387904) (hl : g.length ≤ 4611686018427387904) : laws_heldInt64SS.f (MkSS a g) a = some (a + tot g) := by
  rw [laws_heldInt64SS.f_eq]
  suffices H : ∀ (g done : List (List Int)) (b : Int), 0 ≤ b → b + tot g ≤ 4611686018427387904 → done.length + g.length ≤ 4611686018427387904 → laws_heldInt64SS.l0 (done ++ MkSS b g) b (done.length : Int) = some (b + tot g) from by
    simpa using H g [] a h0 h1 (by simpa using hl)
  intro g
  induction g with
  | nil =>
    intro done b b0 b1 hd
    rw [laws_heldInt64SS.l0_eq, MkSS, List.append_nil]
    have : b + ((tot [] : Nat) : Int) = b := by simp [tot]
    rw [this]
    ((with_reducible repeat (first | refine go_pos (by first | assumption | omega | rfl | exact B_pos (by omega)) ?_ | refine go_neg (by first | assumption | omega | decide | exact B_not (by omega)) ?_ | refine go_bind (by first | assumption) ?_ | dsimp only)); first | done | (with_reducible rfl) | simp (disch := omega) only [w64] | (show False; done))
  | cons r g ih =>
    intro done b b0 b1 hd
    simp only [tot, List.length_cons] at b1 hd
    have m1 : (done ++ MkSS b (r :: g)).length = done.length + g.length + 1 := by rw [List.length_append, MkSS_length, List.length_cons]; omega
    have e : row (done ++ MkSS b (r :: g)) (done.length : Int) = MkS b r.length := by simp [row, MkSS, List.getD_eq_getElem?_getD]
    have hm := heldS b r.length b0 (by omega)
    have := ih (done ++ [MkS b r.length]) (b + r.length) (by omega) (by omega) (by rw [List.length_append, List.length_singleton]; omega)
    rw [List.length_append, List.length_singleton] at this
    rw [laws_heldInt64SS.l0_eq, wn (j := done.length) (by omega), e]
    (with_reducible repeat (first | refine go_pos (by first | assumption | omega | rfl | exact B_pos (by omega)) ?_ | refine go_neg (by first | assumption | omega | decide | exact B_not (by omega)) ?_ | refine go_bind (by first | assumption) ?_ | dsimp only))
    have e2 : done ++ MkSS b (r :: g) = (done ++ [MkS b r.length]) ++ MkSS (b + r.length) g := by simp [MkSS]
    rw [e2, this]
    simp only [tot, Int.natCast_add, Int.add_assoc]
end Go.Proofs.Ytdiadcmkddkjpaa.V
set_option linter.unusedVariables false
namespace Go.Proofs.Ytdiadcmkddkjpaa.P
open Go Go.RowKit Go.Proofs.Ytdiadcmkddkjpaa.D
end Go.Proofs.Ytdiadcmkddkjpaa.P
set_option linter.unusedVariables false
namespace Go.Proofs.Ytdiadcmkddkjpaa.P
open Go Go.RowKit Go.Proofs.Ytdiadcmkddkjpaa.D
end Go.Proofs.Ytdiadcmkddkjpaa.P
set_option linter.unusedVariables false
namespace Go.Proofs.Ytdiadcmkddkjpaa.P
open Go Go.RowKit Go.Proofs.Ytdiadcmkddkjpaa.D
end Go.Proofs.Ytdiadcmkddkjpaa.P
set_option linter.unusedVariables false
namespace Go.Proofs.Ytdiadcmkddkjpaa.P
open Go Go.RowKit Go.Proofs.Ytdiadcmkddkjpaa.D
end Go.Proofs.Ytdiadcmkddkjpaa.P
set_option linter.unusedVariables false
namespace Go.Proofs.Ytdiadcmkddkjpaa.P
open Go Go.RowKit Go.Proofs.Ytdiadcmkddkjpaa.D
end Go.Proofs.Ytdiadcmkddkjpaa.P
set_option linter.unusedVariables false
namespace Go.Proofs.Ytdiadcmkddkjpaa.P
open Go Go.RowKit Go.Proofs.Ytdiadcmkddkjpaa.D
end Go.Proofs.Ytdiadcmkddkjpaa.P
set_option linter.unusedVariables false
namespace Go.Proofs.Ytdiadcmkddkjpaa.P
open Go Go.RowKit Go.Proofs.Ytdiadcmkddkjpaa.D
end Go.Proofs.Ytdiadcmkddkjpaa.P
set_option linter.unusedVariables false
namespace Go.Proofs.Ytdiadcmkddkjpaa.P
open Go Go.RowKit Go.Proofs.Ytdiadcmkddkjpaa.D
end Go.Proofs.Ytdiadcmkddkjpaa.P
set_option linter.unusedVariables false
namespace Go.Proofs.Ytdiadcmkddkjpaa.P
open Go Go.RowKit Go.Proofs.Ytdiadcmkddkjpaa.D
end Go.Proofs.Ytdiadcmkddkjpaa.P
set_option linter.unusedVariables false
namespace Go.Proofs.Ytdiadcmkddkjpaa.P
open Go Go.RowKit Go.Proofs.Ytdiadcmkddkjpaa.D
end Go.Proofs.Ytdiadcmkddkjpaa.P
set_option linter.unusedVariables false
namespace Go.Proofs.Ytdiadcmkddkjpaa.P
open Go Go.RowKit Go.Proofs.Ytdiadcmkddkjpaa.D
end Go.Proofs.Ytdiadcmkddkjpaa.P
set_option linter.unusedVariables false
namespace Go.Proofs.Ytdiadcmkddkjpaa.P
open Go Go.RowKit Go.Proofs.Ytdiadcmkddkjpaa.D
end Go.Proofs.Ytdiadcmkddkjpaa.P
set_option linter.unusedVariables false
namespace Go.Proofs.Ytdiadcmkddkjpaa.P
open Go Go.RowKit Go.Proofs.Ytdiadcmkddkjpaa.D
end Go.Proofs.Ytdiadcmkddkjpaa.P
set_option linter.unusedVariables false
namespace Go.Proofs.Ytdiadcmkddkjpaa.P
open Go Go.RowKit Go.Proofs.Ytdiadcmkddkjpaa.D
end Go.Proofs.Ytdiadcmkddkjpaa.P
set_option linter.unusedVariables false
namespace Go.Proofs.Ytdiadcmkddkjpaa.P
open Go Go.RowKit Go.Proofs.Ytdiadcmkddkjpaa.D
end Go.Proofs.Ytdiadcmkddkjpaa.P
set_option linter.unusedVariables false
namespace Go.Proofs.Ytdiadcmkddkjpaa.P
open Go Go.RowKit Go.Proofs.Ytdiadcmkddkjpaa.D
end Go.Proofs.Ytdiadcmkddkjpaa.P
set_option linter.unusedVariables false
namespace Go.Proofs.Ytdiadcmkddkjpaa.P
open Go Go.RowKit Go.Proofs.Ytdiadcmkddkjpaa.D
end Go.Proofs.Ytdiadcmkddkjpaa.P
set_option linter.unusedVariables false
namespace Go.Proofs.Ytdiadcmkddkjpaa.P
open Go Go.RowKit Go.Proofs.Ytdiadcmkddkjpaa.D
end Go.Proofs.Ytdiadcmkddkjpaa.P
set_option linter.unusedVariables false
namespace Go.Proofs.Ytdiadcmkddkjpaa.P
open Go Go.RowKit Go.Proofs.Ytdiadcmkddkjpaa.D
end Go.Proofs.Ytdiadcmkddkjpaa.P
set_option linter.unusedVariables false
namespace Go.Proofs.Ytdiadcmkddkjpaa.P
open Go Go.RowKit Go.Proofs.Ytdiadcmkddkjpaa.D
end Go.Proofs.Ytdiadcmkddkjpaa.P
set_option linter.unusedVariables false
namespace Go.Proofs.Ytdiadcmkddkjpaa.P
open Go Go.RowKit Go.Proofs.Ytdiadcmkddkjpaa.D
end Go.Proofs.Ytdiadcmkddkjpaa.P
set_option linter.unusedVariables false
namespace Go.Proofs.Ytdiadcmkddkjpaa.P
open Go Go.RowKit Go.Proofs.Ytdiadcmkddkjpaa.D
end Go.Proofs.Ytdiadcmkddkjpaa.P
set_option linter.unusedVariables false
namespace Go.Proofs.Ytdiadcmkddkjpaa.P
open Go Go.RowKit Go.Proofs.Ytdiadcmkddkjpaa.D
end Go.Proofs.Ytdiadcmkddkjpaa.P
set_option linter.unusedVariables false
namespace Go.Proofs.Ytdiadcmkddkjpaa.P
open Go Go.RowKit Go.Proofs.Ytdiadcmkddkjpaa.D
end Go.Proofs.Ytdiadcmkddkjpaa.P
set_option linter.unusedVariables false
namespace Go.Proofs.Ytdiadcmkddkjpaa.P
open Go Go.RowKit Go.Proofs.Ytdiadcmkddkjpaa.D
end Go.Proofs.Ytdiadcmkddkjpaa.P
set_option linter.unusedVariables false
namespace Go.Proofs.Ytdiadcmkddkjpaa.P
open Go Go.RowKit Go.Proofs.Ytdiadcmkddkjpaa.D
end Go.Proofs.Ytdiadcmkddkjpaa.P
set_option linter.unusedVariables false
set_option linter.unusedSimpArgs false
set_option maxHeartbeats 2000000
set_option maxRecDepth 20000
namespace Go.Proofs.Ytdiadcmkddkjpaa.V
open Go.RowKit Go.Proofs.Ytdiadcmkddkjpaa.D Go.Proofs.Ytdiadcmkddkjpaa.P
theorem areIn (n : Int) (xs : List Int) (hl : xs.length ≤ maxLen) : impl_areIn.f n xs = some (B (AllIn n xs)) := by
  have hm := maxLen_le
  rw [impl_areIn.f_eq]
  refine scanT xs.length (fun i => impl_areIn.l0 n xs (xs.length : Int) i) (fun i => 0 ≤ rd xs i ∧ rd xs i < n) (fun i h0 h1 _ => ?_) (fun _ => ?_)
  · refine ⟨fun h => ?_, fun h => ?_⟩ <;> (rw [impl_areIn.l0_eq])
    · ((with_reducible repeat (first | refine go_pos (by first | assumption | omega | rfl | exact B_pos (by omega)) ?_ | refine go_neg (by first | assumption | omega | decide | exact B_not (by omega)) ?_ | refine go_bind (by first | assumption) ?_ | dsimp only)); first | done | (with_reducible rfl) | simp (disch := omega) only [w64] | (show False; done))
    · by_cases h2 : rd xs i < 0 <;> ((with_reducible repeat (first | refine go_pos (by first | assumption | omega | rfl | exact B_pos (by omega)) ?_ | refine go_neg (by first | assumption | omega | decide | exact B_not (by omega)) ?_ | refine go_bind (by first | assumption) ?_ | dsimp only)); first | done | (with_reducible rfl) | simp (disch := omega) only [w64] | (show False; done))
  · (rw [impl_areIn.l0_eq])
    ((with_reducible repeat (first | refine go_pos (by first | assumption | omega | rfl | exact B_pos (by omega)) ?_ | refine go_neg (by first | assumption | omega | decide | exact B_not (by omega)) ?_ | refine go_bind (by first | assumption) ?_ | dsimp only)); first | done | (with_reducible rfl) | simp (disch := omega) only [w64] | (show False; done))
theorem index_ (xs : List Int) (x : Int) (hl : xs.length ≤ maxLen) :
    ((∀ i : Int, 0 ≤ i → i < xs.length → rd xs i ≠ x) ∧ slices_Index_int64.f xs x = some (-1)) ∨
    ∃ i : Int, 0 ≤ i ∧ i < xs.length ∧ (∀ j : Int, 0 ≤ j → j < i → rd xs j ≠ x) ∧ rd xs i = x ∧ slices_Index_int64.f xs x = some i := by
  have hm := maxLen_le
  rw [slices_Index_int64.f_eq]
  suffices H : ∀ d m : Nat, m + d = xs.length → (∀ j : Int, 0 ≤ j → j < m → rd xs j ≠ x) →
      ((∀ i : Int, 0 ≤ i → i < xs.length → rd xs i ≠ x) ∧ slices_Index_int64.l0 xs x (xs.length : Int) m = some (-1)) ∨
      ∃ i : Int, 0 ≤ i ∧ i < xs.length ∧ (∀ j : Int, 0 ≤ j → j < i → rd xs j ≠ x) ∧ rd xs i = x ∧ slices_Index_int64.l0 xs x (xs.length : Int) m = some i from
    H xs.length 0 (by omega) (fun j h0 h1 => by omega)
  intro d
  induction d with
  | zero =>
    intro m hd hp
    obtain rfl : m = xs.length := by omega
    refine .inl ⟨hp, ?_⟩
    (rw [slices_Index_int64.l0_eq])
    ((with_reducible repeat (first | refine go_pos (by first | assumption | omega | rfl | exact B_pos (by omega)) ?_ | refine go_neg (by first | assumption | omega | decide | exact B_not (by omega)) ?_ | refine go_bind (by first | assumption) ?_ | dsimp only)); first | done | (with_reducible rfl) | simp (disch := omega) only [w64] | (show False; done))
  | succ d ih =>
    intro m hd hp
    by_cases h2 : x = rd xs m
    · refine .inr ⟨m, by omega, by omega, hp, h2.symm, ?_⟩
      (rw [slices_Index_int64.l0_eq])
      ((with_reducible repeat (first | refine go_pos (by first | assumption | omega | rfl | exact B_pos (by omega)) ?_ | refine go_neg (by first | assumption | omega | decide | exact B_not (by omega)) ?_ | refine go_bind (by first | assumption) ?_ | dsimp only)); first | done | (with_reducible rfl) | simp (disch := omega) only [w64] | (show False; done))
    · have st : slices_Index_int64.l0 xs x (xs.length : Int) m = slices_Index_int64.l0 xs x (xs.length : Int) ((m + 1 : Nat) : Int) := by
        rw [Int.natCast_add, Int.natCast_one]
        (rw [slices_Index_int64.l0_eq])
        ((with_reducible repeat (first | refine go_pos (by first | assumption | omega | rfl | exact B_pos (by omega)) ?_ | refine go_neg (by first | assumption | omega | decide | exact B_not (by omega)) ?_ | refine go_bind (by first | assumption) ?_ | dsimp only)); first | done | (with_reducible rfl) | simp (disch := omega) only [w64] | (show False; done))
      rw [st]
      refine ih (m + 1) (by omega) fun j k0 k1 => ?_
      by_cases e : j = m
      · rw [e]; exact fun h => h2 h.symm
      · exact hp j k0 (by omega)
theorem contains_ (xs : List Int) (x : Int) (hl : xs.length ≤ maxLen) : slices_Contains_int64.f xs x = some (B (∃ i : Int, 0 ≤ i ∧ i < xs.length ∧ rd xs i = x)) := by
  rw [slices_Contains_int64.f_eq]
  rcases index_ xs x hl with ⟨h, e⟩ | ⟨i, h0, h1, _, h2, e⟩
  · rw [e, B_neg fun ⟨i, h0, h1, h2⟩ => h i h0 h1 h2]; rfl
  · rw [e, B_pos ⟨i, h0, h1, h2⟩]; simp [h0]
structure Grp (g : List (List Int)) : Prop where
  n1 : 1 ≤ g.length
  n8 : g.length ≤ 8
  row : ∀ a : Int, 0 ≤ a → a < g.length → (row g a).length = g.length
  ent : ∀ a b : Int, 0 ≤ a → a < g.length → 0 ≤ b → b < g.length → 0 ≤ T g a b ∧ T g a b < g.length
  one : ∀ a : Int, 0 ≤ a → a < g.length → T g 0 a = a
  one' : ∀ a : Int, 0 ≤ a → a < g.length → T g a 0 = a
  assoc : ∀ a b c : Int, 0 ≤ a → a < g.length → 0 ≤ b → b < g.length → 0 ≤ c → c < g.length → T g (T g a b) c = T g a (T g b c)
  inv : ∀ a : Int, 0 ≤ a → a < g.length → ∃ b : Int, 0 ≤ b ∧ b < g.length ∧ T g a b = 0
theorem Grp.inv2 {g : List (List Int)} (h : Grp g) {a : Int} (h0 : 0 ≤ a) (h1 : a < g.length) : ∃ b : Int, 0 ≤ b ∧ b < g.length ∧ T g a b = 0 ∧ T g b a = 0 := by
  obtain ⟨b, b0, b1, hb⟩ := h.inv a h0 h1
  obtain ⟨c, c0, c1, hc⟩ := h.inv b b0 b1
  refine ⟨b, b0, b1, hb, ?_⟩
  have hac : c = a := by
    have e1 := h.assoc a b c h0 h1 b0 b1 c0 c1
    rw [hb, hc, h.one c c0 c1, h.one' a h0 h1] at e1
    exact e1
  rw [← hac]; exact hc
theorem rows_len {g : List (List Int)} (hr : ∀ r ∈ g, r.length ≤ maxLen) {a : Int} (h0 : 0 ≤ a) (h1 : a < g.length) : (row g a).length ≤ maxLen := hr _ (row_mem h0 h1)
def Tab (g : List (List Int)) : Prop := ∀ a : Int, 0 ≤ a → a < g.length → (row g a).length = g.length ∧ AllIn g.length (row g a)
def Law (g : List (List Int)) (a : Int) : Prop := T g 0 a = a ∧ T g a 0 = a ∧ (∃ b : Int, 0 ≤ b ∧ b < g.length ∧ T g a b = 0) ∧ ∀ b : Int, 0 ≤ b → b < g.length → ∀ c : Int, 0 ≤ c → c < g.length → T g (T g a b) c = T g a (T g b c)
theorem grp_iff (g : List (List Int)) : Grp g ↔ (1 ≤ g.length ∧ g.length ≤ 8) ∧ Tab g ∧ ∀ a : Int, 0 ≤ a → a < g.length → Law g a := by
  constructor
  · intro h
    refine ⟨⟨h.n1, h.n8⟩, fun a h0 h1 => ⟨h.row a h0 h1, fun i i0 i1 => ?_⟩, fun a h0 h1 => ⟨h.one a h0 h1, h.one' a h0 h1, h.inv a h0 h1, fun b b0 b1 c c0 c1 => h.assoc a b c h0 h1 b0 b1 c0 c1⟩⟩
    have := h.row a h0 h1
    exact h.ent a i h0 h1 i0 (by omega)
  · rintro ⟨⟨h1, h8⟩, ht, hl⟩
    refine ⟨h1, h8, fun a a0 a1 => (ht a a0 a1).1, fun a b a0 a1 b0 b1 => ?_, fun a a0 a1 => (hl a a0 a1).1, fun a a0 a1 => (hl a a0 a1).2.1, fun a b c a0 a1 b0 b1 c0 c1 => (hl a a0 a1).2.2.2 b b0 b1 c c0 c1, fun a a0 a1 => (hl a a0 a1).2.2.1⟩
    have := (ht a a0 a1).1
    exact (ht a a0 a1).2 b b0 (by omega)
theorem isGroup (g : List (List Int)) (hl : g.length ≤ maxLen) (hr : ∀ r ∈ g, r.length ≤ maxLen) : impl_IsGroup.f g = some (B (Grp g)) := by
  have hm := maxLen_le
  rw [B_congr (grp_iff g)]
  (rw [impl_IsGroup.f_eq])
  by_cases c1 : (g.length : Int) < 1 ∨ (g.length : Int) > 8
  · rw [B_neg fun h => by omega]
    by_cases c2 : (g.length : Int) < 1 <;> ((with_reducible repeat (first | refine go_pos (by first | assumption | omega | rfl | exact B_pos (by omega)) ?_ | refine go_neg (by first | assumption | omega | decide | exact B_not (by omega)) ?_ | refine go_bind (by first | assumption | exact impl_order.f_eq _) ?_ | dsimp only)); first | done | (with_reducible rfl) | simp (disch := omega) only [w64] | (show False; done))
  rw [B_congr (show ((1 ≤ g.length ∧ g.length ≤ 8) ∧ Tab g ∧ ∀ a : Int, 0 ≤ a → a < g.length → Law g a) ↔ (Tab g ∧ ∀ a : Int, 0 ≤ a → a < g.length → Law g a) from ⟨fun h => h.2, fun h => ⟨by omega, h⟩⟩)]
  (with_reducible repeat (first | refine go_pos (by first | assumption | omega | rfl | exact B_pos (by omega)) ?_ | refine go_neg (by first | assumption | omega | decide | exact B_not (by omega)) ?_ | refine go_bind (by first | assumption | exact impl_order.f_eq _) ?_ | dsimp only))
  refine scanB g.length (fun i => impl_IsGroup.l0 (g.length : Int) g (g.length : Int) i g) (fun a => (row g a).length = g.length ∧ AllIn g.length (row g a)) _ (fun i h0 h1 _ => ?_) (fun ht => ?_)
  · have ha := areIn g.length (row g i) (rows_len hr h0 h1)
    refine ⟨fun h => ?_, fun h => ?_⟩ <;> (rw [impl_IsGroup.l0_eq])
    · have h1 := h.1
      rw [B_pos h.2] at ha
      ((with_reducible repeat (first | refine go_pos (by first | assumption | omega | rfl | exact B_pos (by omega)) ?_ | refine go_neg (by first | assumption | omega | decide | exact B_not (by omega)) ?_ | refine go_bind (by first | assumption) ?_ | dsimp only)); first | done | (with_reducible rfl) | simp (disch := omega) only [w64] | (show False; done))
    · by_cases h2 : ((row g i).length : Int) = g.length
      · rw [B_neg fun h3 => h ⟨by omega, h3⟩] at ha
        ((with_reducible repeat (first | refine go_pos (by first | assumption | omega | rfl | exact B_pos (by omega)) ?_ | refine go_neg (by first | assumption | omega | decide | exact B_not (by omega)) ?_ | refine go_bind (by first | assumption) ?_ | dsimp only)); first | done | (with_reducible rfl) | simp (disch := omega) only [w64] | (show False; done))
      · ((with_reducible repeat (first | refine go_pos (by first | assumption | omega | rfl | exact B_pos (by omega)) ?_ | refine go_neg (by first | assumption | omega | decide | exact B_not (by omega)) ?_ | refine go_bind (by first | assumption) ?_ | dsimp only)); first | done | (with_reducible rfl) | simp (disch := omega) only [w64] | (show False; done))
  (rw [impl_IsGroup.l0_eq])
  (with_reducible repeat (first | refine go_pos (by first | assumption | omega | rfl | exact B_pos (by omega)) ?_ | refine go_neg (by first | assumption | omega | decide | exact B_not (by omega)) ?_ | refine go_bind (by first | assumption) ?_ | dsimp only))
  refine scanT g.length (fun i => impl_IsGroup.l1 (g.length : Int) (g.length : Int) i g) (Law g) (fun a a0 a1 _ => ?_) (fun _ => ?_)
  rotate_left
  · (rw [impl_IsGroup.l1_eq])
    ((with_reducible repeat (first | refine go_pos (by first | assumption | omega | rfl | exact B_pos (by omega)) ?_ | refine go_neg (by first | assumption | omega | decide | exact B_not (by omega)) ?_ | refine go_bind (by first | assumption) ?_ | dsimp only)); first | done | (with_reducible rfl) | simp (disch := omega) only [w64] | (show False; done))
  have hlen : ∀ x : Int, 0 ≤ x → x < g.length → ((row g x).length : Int) = g.length := fun x x0 x1 => by rw [(ht x x0 x1).1]
  have hent : ∀ x y : Int, 0 ≤ x → x < g.length → 0 ≤ y → y < g.length → 0 ≤ T g x y ∧ T g x y < g.length := fun x y x0 x1 y0 y1 => (ht x x0 x1).2 y y0 (by rw [hlen x x0 x1]; exact y1)
  have l0 := hlen 0 (by omega) (by omega)
  have la := hlen a a0 a1
  have hc := contains_ (row g a) 0 (rows_len hr a0 a1)
  rw [B_congr (show (∃ i : Int, 0 ≤ i ∧ i < (row g a).length ∧ rd (row g a) i = 0) ↔ ∃ b : Int, 0 ≤ b ∧ b < g.length ∧ T g a b = 0 by rw [la]; exact Iff.rfl)] at hc
  by_cases h2 : T g 0 a = a
  rotate_left
  · refine ⟨fun h => absurd h.1 h2, fun _ => ?_⟩
    (rw [impl_IsGroup.l1_eq])
    ((with_reducible repeat (first | refine go_pos (by first | assumption | omega | rfl | exact B_pos (by omega)) ?_ | refine go_neg (by first | assumption | omega | decide | exact B_not (by omega)) ?_ | refine go_bind (by first | assumption) ?_ | dsimp only)); first | done | (with_reducible rfl) | simp (disch := omega) only [w64] | (show False; done))
  by_cases h3 : T g a 0 = a
  rotate_left
  · refine ⟨fun h => absurd h.2.1 h3, fun _ => ?_⟩
    (rw [impl_IsGroup.l1_eq])
    ((with_reducible repeat (first | refine go_pos (by first | assumption | omega | rfl | exact B_pos (by omega)) ?_ | refine go_neg (by first | assumption | omega | decide | exact B_not (by omega)) ?_ | refine go_bind (by first | assumption) ?_ | dsimp only)); first | done | (with_reducible rfl) | simp (disch := omega) only [w64] | (show False; done))
  by_cases h4 : ∃ b : Int, 0 ≤ b ∧ b < g.length ∧ T g a b = 0
  rotate_left
  · refine ⟨fun h => absurd h.2.2.1 h4, fun _ => ?_⟩
    rw [B_neg h4] at hc
    (rw [impl_IsGroup.l1_eq])
    ((with_reducible repeat (first | refine go_pos (by first | assumption | omega | rfl | exact B_pos (by omega)) ?_ | refine go_neg (by first | assumption | omega | decide | exact B_not (by omega)) ?_ | refine go_bind (by first | assumption) ?_ | dsimp only)); first | done | (with_reducible rfl) | simp (disch := omega) only [w64] | (show False; done))
  rw [B_pos h4] at hc
  have inner := scanI g.length (fun b => impl_IsGroup.l2 (g.length : Int) a (g.length : Int) a (g.length : Int) b g) (fun b => ∀ c : Int, 0 ≤ c → c < g.length → T g (T g a b) c = T g a (T g b c)) (some false) (impl_IsGroup.l1 (g.length : Int) (g.length : Int) (a + 1) g)
    (fun b b0 b1 _ => by
      obtain ⟨e0, e1⟩ := hent a b a0 a1 b0 b1
      have le := hlen _ e0 e1
      have lb := hlen b b0 b1
      have := scanI g.length (fun c => impl_IsGroup.l3 (g.length : Int) a b (g.length : Int) a (g.length : Int) b (g.length : Int) c g) (fun c => T g (T g a b) c = T g a (T g b c)) (some false) (impl_IsGroup.l2 (g.length : Int) a (g.length : Int) a (g.length : Int) (b + 1) g)
        (fun c c0 c1 _ => by
          obtain ⟨f0, f1⟩ := hent b c b0 b1 c0 c1
          refine ⟨fun h => ?_, fun h => ?_⟩ <;> (rw [impl_IsGroup.l3_eq]) <;> ((with_reducible repeat (first | refine go_pos (by first | assumption | omega | rfl | exact B_pos (by omega)) ?_ | refine go_neg (by first | assumption | omega | decide | exact B_not (by omega)) ?_ | refine go_bind (by first | assumption) ?_ | dsimp only)); first | done | (with_reducible rfl) | simp (disch := omega) only [w64] | (show False; done))) (fun _ => by (rw [impl_IsGroup.l3_eq]); ((with_reducible repeat (first | refine go_pos (by first | assumption | omega | rfl | exact B_pos (by omega)) ?_ | refine go_neg (by first | assumption | omega | decide | exact B_not (by omega)) ?_ | refine go_bind (by first | assumption) ?_ | dsimp only)); first | done | (with_reducible rfl) | simp (disch := omega) only [w64] | (show False; done)))
      refine ⟨fun h => ?_, fun h => ?_⟩ <;> (rw [impl_IsGroup.l2_eq])
      · (with_reducible repeat (first | refine go_pos (by first | assumption | omega | rfl | exact B_pos (by omega)) ?_ | refine go_neg (by first | assumption | omega | decide | exact B_not (by omega)) ?_ | refine go_bind (by first | assumption) ?_ | dsimp only))
        exact this.1 h
      · (with_reducible repeat (first | refine go_pos (by first | assumption | omega | rfl | exact B_pos (by omega)) ?_ | refine go_neg (by first | assumption | omega | decide | exact B_not (by omega)) ?_ | refine go_bind (by first | assumption) ?_ | dsimp only))
        exact this.2 h) (fun _ => by (rw [impl_IsGroup.l2_eq]); ((with_reducible repeat (first | refine go_pos (by first | assumption | omega | rfl | exact B_pos (by omega)) ?_ | refine go_neg (by first | assumption | omega | decide | exact B_not (by omega)) ?_ | refine go_bind (by first | assumption) ?_ | dsimp only)); first | done | (with_reducible rfl) | simp (disch := omega) only [w64] | (show False; done)))
  refine ⟨fun h => ?_, fun h => ?_⟩ <;> (rw [impl_IsGroup.l1_eq]) <;> (with_reducible repeat (first | refine go_pos (by first | assumption | omega | rfl | exact B_pos (by omega)) ?_ | refine go_neg (by first | assumption | omega | decide | exact B_not (by omega)) ?_ | refine go_bind (by first | assumption) ?_ | dsimp only))
  · exact inner.1 h.2.2.2
  · exact inner.2 fun k => h ⟨h2, h3, h4, k⟩
end Go.Proofs.Ytdiadcmkddkjpaa.V
set_option linter.unusedVariables false
set_option linter.unusedSimpArgs false
set_option maxHeartbeats 2000000
set_option maxRecDepth 20000
namespace Go.Proofs.Ytdiadcmkddkjpaa.V
open Go.RowKit Go.Proofs.Ytdiadcmkddkjpaa.D Go.Proofs.Ytdiadcmkddkjpaa.P
theorem In_ (x lo hi : Int) : spec_l01In.f x lo hi = some (B (lo ≤ x ∧ x ≤ hi)) := by
  rw [spec_l01In.f_eq]
  by_cases h : x ≥ lo
  · rw [if_pos h, B_decide, B_congr (show x ≤ hi ↔ (lo ≤ x ∧ x ≤ hi) from ⟨fun h' => ⟨h, h'⟩, fun h' => h'.2⟩)]
  · rw [if_neg h, B_neg (fun h' => h h'.1)]
def LawS (g : List (List Int)) (a : Int) : Prop := T g 0 a = a ∧ T g a 0 = a ∧ (∀ b : Int, 0 ≤ b → b < g.length → ∀ c : Int, 0 ≤ c → c < g.length → T g (T g a b) c = T g a (T g b c)) ∧ ∃ b : Int, 0 ≤ b ∧ b < g.length ∧ T g a b = 0 ∧ T g b a = 0
theorem grp_iffS (g : List (List Int)) : Grp g ↔ (1 ≤ g.length ∧ g.length ≤ 8) ∧ Tab g ∧ ∀ a : Int, 0 ≤ a → a < g.length → LawS g a := by
  rw [grp_iff]
  constructor
  · intro h
    have hg := (grp_iff g).2 h
    refine ⟨h.1, h.2.1, fun a a0 a1 => ?_⟩
    obtain ⟨h1, h2, _, h4⟩ := h.2.2 a a0 a1
    exact ⟨h1, h2, h4, hg.inv2 a0 a1⟩
  · rintro ⟨h1, h2, h3⟩
    refine ⟨h1, h2, fun a a0 a1 => ?_⟩
    obtain ⟨k1, k2, k3, b, b0, b1, hb, _⟩ := h3 a a0 a1
    exact ⟨k1, k2, ⟨b, b0, b1, hb⟩, k3⟩
theorem Is_ (g : List (List Int)) : spec_l01Is.f g = some (B (Grp g)) := by
  rw [B_congr (grp_iffS g)]
  (rw [spec_l01Is.f_eq])
  by_cases c1 : 1 ≤ (g.length : Int) ∧ (g.length : Int) ≤ 8
  rotate_left
  · rw [B_neg fun h => c1 (by omega)]
    ((with_reducible repeat (first | refine go_pos (by first | assumption | omega | rfl | exact B_pos (by omega)) ?_ | refine go_neg (by first | assumption | omega | decide | exact B_not (by omega)) ?_ | refine go_bind (by first | assumption | exact In_ _ _ _) ?_ | dsimp only)); first | done | (with_reducible rfl) | simp (disch := omega) only [w64] | (show False; done))
  rw [B_congr (show ((1 ≤ g.length ∧ g.length ≤ 8) ∧ Tab g ∧ ∀ a : Int, 0 ≤ a → a < g.length → LawS g a) ↔ (Tab g ∧ ∀ a : Int, 0 ≤ a → a < g.length → LawS g a) from ⟨fun h => h.2, fun h => ⟨by omega, h⟩⟩)]
  (with_reducible repeat (first | refine go_pos (by first | assumption | omega | rfl | exact B_pos (by omega)) ?_ | refine go_neg (by first | assumption | omega | decide | exact B_not (by omega)) ?_ | refine go_bind (by first | assumption | exact In_ _ _ _) ?_ | dsimp only))
  have hw1 : wrapI ((g.length : Int) - 1) = g.length - 1 := w64 (by omega) (by omega)
  refine scanB g.length (fun i => spec_l01Is.l0 (g.length : Int) i g) (fun a => (row g a).length = g.length ∧ AllIn g.length (row g a)) (∀ a : Int, 0 ≤ a → a < g.length → LawS g a) (fun a a0 a1 _ => ?_) (fun ht => ?_)
  · by_cases h2 : ((row g a).length : Int) = g.length
    rotate_left
    · refine ⟨fun h => absurd h.1 (by omega), fun _ => ?_⟩
      (rw [spec_l01Is.l0_eq])
      ((with_reducible repeat (first | refine go_pos (by first | assumption | omega | rfl | exact B_pos (by omega)) ?_ | refine go_neg (by first | assumption | omega | decide | exact B_not (by omega)) ?_ | refine go_bind (by first | assumption) ?_ | dsimp only)); first | done | (with_reducible rfl) | simp (disch := omega) only [w64] | (show False; done))
    have inner := scanI g.length (fun b => spec_l01Is.l1 (g.length : Int) a b g) (fun b => 0 ≤ T g a b ∧ T g a b < g.length) (some false) (spec_l01Is.l0 (g.length : Int) (a + 1) g)
      (fun b b0 b1 _ => by refine ⟨fun h => ?_, fun h => ?_⟩ <;> (rw [spec_l01Is.l1_eq, hw1]) <;> ((with_reducible repeat (first | refine go_pos (by first | assumption | omega | rfl | exact B_pos (by omega)) ?_ | refine go_neg (by first | assumption | omega | decide | exact B_not (by omega)) ?_ | refine go_bind (by first | assumption | exact In_ _ _ _) ?_ | dsimp only)); first | done | (with_reducible rfl) | simp (disch := omega) only [w64] | (show False; done))) (fun _ => by (rw [spec_l01Is.l1_eq]); ((with_reducible repeat (first | refine go_pos (by first | assumption | omega | rfl | exact B_pos (by omega)) ?_ | refine go_neg (by first | assumption | omega | decide | exact B_not (by omega)) ?_ | refine go_bind (by first | assumption) ?_ | dsimp only)); first | done | (with_reducible rfl) | simp (disch := omega) only [w64] | (show False; done)))
    refine ⟨fun h => ?_, fun h => ?_⟩ <;> (rw [spec_l01Is.l0_eq]) <;> (with_reducible repeat (first | refine go_pos (by first | assumption | omega | rfl | exact B_pos (by omega)) ?_ | refine go_neg (by first | assumption | omega | decide | exact B_not (by omega)) ?_ | refine go_bind (by first | assumption) ?_ | dsimp only))
    · exact inner.1 fun j j0 j1 => h.2 j j0 (by omega)
    · exact inner.2 fun k => h ⟨by omega, fun j j0 j1 => k j j0 (by omega)⟩
  (rw [spec_l01Is.l0_eq])
  (with_reducible repeat (first | refine go_pos (by first | assumption | omega | rfl | exact B_pos (by omega)) ?_ | refine go_neg (by first | assumption | omega | decide | exact B_not (by omega)) ?_ | refine go_bind (by first | assumption) ?_ | dsimp only))
  refine scanT g.length (fun i => spec_l01Is.l2 (g.length : Int) i g) (LawS g) (fun a a0 a1 _ => ?_) (fun _ => by (rw [spec_l01Is.l2_eq]); ((with_reducible repeat (first | refine go_pos (by first | assumption | omega | rfl | exact B_pos (by omega)) ?_ | refine go_neg (by first | assumption | omega | decide | exact B_not (by omega)) ?_ | refine go_bind (by first | assumption) ?_ | dsimp only)); first | done | (with_reducible rfl) | simp (disch := omega) only [w64] | (show False; done)))
  have hlen : ∀ x : Int, 0 ≤ x → x < g.length → ((row g x).length : Int) = g.length := fun x x0 x1 => by rw [(ht x x0 x1).1]
  have hent : ∀ x y : Int, 0 ≤ x → x < g.length → 0 ≤ y → y < g.length → 0 ≤ T g x y ∧ T g x y < g.length := fun x y x0 x1 y0 y1 => (ht x x0 x1).2 y y0 (by rw [hlen x x0 x1]; exact y1)
  have l0 := hlen 0 (by omega) (by omega)
  have la := hlen a a0 a1
  by_cases h2 : T g 0 a = a
  rotate_left
  · refine ⟨fun h => absurd h.1 h2, fun _ => ?_⟩
    (rw [spec_l01Is.l2_eq])
    ((with_reducible repeat (first | refine go_pos (by first | assumption | omega | rfl | exact B_pos (by omega)) ?_ | refine go_neg (by first | assumption | omega | decide | exact B_not (by omega)) ?_ | refine go_bind (by first | assumption) ?_ | dsimp only)); first | done | (with_reducible rfl) | simp (disch := omega) only [w64] | (show False; done))
  by_cases h3 : T g a 0 = a
  rotate_left
  · refine ⟨fun h => absurd h.2.1 h3, fun _ => ?_⟩
    (rw [spec_l01Is.l2_eq])
    ((with_reducible repeat (first | refine go_pos (by first | assumption | omega | rfl | exact B_pos (by omega)) ?_ | refine go_neg (by first | assumption | omega | decide | exact B_not (by omega)) ?_ | refine go_bind (by first | assumption) ?_ | dsimp only)); first | done | (with_reducible rfl) | simp (disch := omega) only [w64] | (show False; done))
  let Fd : Int → Prop := fun b => ∃ j : Int, 0 ≤ j ∧ j < b ∧ T g a j = 0 ∧ T g j a = 0
  have fd0 : B (Fd 0) = false := B_neg fun ⟨j, j0, j1, _⟩ => by omega
  have inner := scan g.length (fun b => spec_l01Is.l3 (g.length : Int) a (B (Fd b)) b g) (fun b => ∀ c : Int, 0 ≤ c → c < g.length → T g (T g a b) c = T g a (T g b c)) (some false) (fun b b0 b1 _ => by
    obtain ⟨e0, e1⟩ := hent a b a0 a1 b0 b1
    have le := hlen _ e0 e1
    have lb := hlen b b0 b1
    have toj : spec_l01Is.l3 (g.length : Int) a (B (Fd b)) b g = spec_l01Is.l4 (g.length : Int) a (B (Fd (b + 1))) b 0 g := by
      by_cases k1 : Fd b
      · rw [B_pos k1, B_pos (show Fd (b + 1) from by obtain ⟨j, j0, j1, h⟩ := k1; exact ⟨j, j0, by omega, h⟩)]
        (rw [spec_l01Is.l3_eq])
        ((with_reducible repeat (first | refine go_pos (by first | assumption | omega | rfl | exact B_pos (by omega)) ?_ | refine go_neg (by first | assumption | omega | decide | exact B_not (by omega)) ?_ | refine go_bind (by first | assumption) ?_ | dsimp only)); first | done | (with_reducible rfl) | simp (disch := omega) only [w64] | (show False; done))
      · rw [B_neg k1]
        by_cases k2 : T g a b = 0
        · have e : B (Fd (b + 1)) = decide (T g b a = 0) := by
            by_cases k3 : T g b a = 0
            · rw [B_pos ⟨b, b0, by omega, k2, k3⟩]; simp [k3]
            · rw [B_neg]
              · simp [k3]
              · rintro ⟨j, j0, j1, ja, jb⟩
                by_cases ej : j = b
                · subst ej; exact k3 jb
                · exact k1 ⟨j, j0, by omega, ja, jb⟩
          rw [e]
          (rw [spec_l01Is.l3_eq])
          ((with_reducible repeat (first | refine go_pos (by first | assumption | omega | rfl | exact B_pos (by omega)) ?_ | refine go_neg (by first | assumption | omega | decide | exact B_not (by omega)) ?_ | refine go_bind (by first | assumption) ?_ | dsimp only)); first | done | (with_reducible rfl) | simp (disch := omega) only [w64] | (show False; done))
        · rw [B_neg (show ¬ Fd (b + 1) from by
            rintro ⟨j, j0, j1, ja, jb⟩
            by_cases ej : j = b
            · subst ej; exact k2 ja
            · exact k1 ⟨j, j0, by omega, ja, jb⟩)]
          (rw [spec_l01Is.l3_eq])
          ((with_reducible repeat (first | refine go_pos (by first | assumption | omega | rfl | exact B_pos (by omega)) ?_ | refine go_neg (by first | assumption | omega | decide | exact B_not (by omega)) ?_ | refine go_bind (by first | assumption) ?_ | dsimp only)); first | done | (with_reducible rfl) | simp (disch := omega) only [w64] | (show False; done))
    have inner4 := scanI g.length (fun c => spec_l01Is.l4 (g.length : Int) a (B (Fd (b + 1))) b c g) (fun c => T g (T g a b) c = T g a (T g b c)) (some false) (spec_l01Is.l3 (g.length : Int) a (B (Fd (b + 1))) (b + 1) g) (fun c c0 c1 _ => by
      obtain ⟨f0, f1⟩ := hent b c b0 b1 c0 c1
      refine ⟨fun h => ?_, fun h => ?_⟩ <;> (rw [spec_l01Is.l4_eq]) <;> ((with_reducible repeat (first | refine go_pos (by first | assumption | omega | rfl | exact B_pos (by omega)) ?_ | refine go_neg (by first | assumption | omega | decide | exact B_not (by omega)) ?_ | refine go_bind (by first | assumption) ?_ | dsimp only)); first | done | (with_reducible rfl) | simp (disch := omega) only [w64] | (show False; done))) (fun _ => by (rw [spec_l01Is.l4_eq]); ((with_reducible repeat (first | refine go_pos (by first | assumption | omega | rfl | exact B_pos (by omega)) ?_ | refine go_neg (by first | assumption | omega | decide | exact B_not (by omega)) ?_ | refine go_bind (by first | assumption) ?_ | dsimp only)); first | done | (with_reducible rfl) | simp (disch := omega) only [w64] | (show False; done)))
    exact ⟨fun h => toj.trans (inner4.1 h), fun h => toj.trans (inner4.2 h)⟩)
  have st : spec_l01Is.l2 (g.length : Int) a g = spec_l01Is.l3 (g.length : Int) a (B (Fd 0)) 0 g := by
    rw [fd0]
    (rw [spec_l01Is.l2_eq])
    ((with_reducible repeat (first | refine go_pos (by first | assumption | omega | rfl | exact B_pos (by omega)) ?_ | refine go_neg (by first | assumption | omega | decide | exact B_not (by omega)) ?_ | refine go_bind (by first | assumption) ?_ | dsimp only)); first | done | (with_reducible rfl) | simp (disch := omega) only [w64] | (show False; done))
  rw [st]
  rcases inner with ⟨h5, h6⟩ | ⟨b, b0, b1, _, h5, _, h6⟩
  · simp only [h6]
    by_cases h7 : Fd g.length
    · refine ⟨fun _ => ?_, fun h => absurd ⟨h2, h3, h5, h7⟩ h⟩
      rw [B_pos h7]
      (rw [spec_l01Is.l3_eq])
      ((with_reducible repeat (first | refine go_pos (by first | assumption | omega | rfl | exact B_pos (by omega)) ?_ | refine go_neg (by first | assumption | omega | decide | exact B_not (by omega)) ?_ | refine go_bind (by first | assumption) ?_ | dsimp only)); first | done | (with_reducible rfl) | simp (disch := omega) only [w64] | (show False; done))
    · refine ⟨fun h => absurd h.2.2.2 h7, fun h => ?_⟩
      rw [B_neg h7]
      (rw [spec_l01Is.l3_eq])
      ((with_reducible repeat (first | refine go_pos (by first | assumption | omega | rfl | exact B_pos (by omega)) ?_ | refine go_neg (by first | assumption | omega | decide | exact B_not (by omega)) ?_ | refine go_bind (by first | assumption) ?_ | dsimp only)); first | done | (with_reducible rfl) | simp (disch := omega) only [w64] | (show False; done))
  · exact ⟨fun h => absurd (h.2.2.1 b b0 b1) h5, fun _ => h6⟩
theorem Grp.foldl_in {g : List (List Int)} (hg : Grp g) : ∀ (xs : List Int) (x : Int), AllIn g.length xs → 0 ≤ x → x < g.length → 0 ≤ xs.foldl (T g) x ∧ xs.foldl (T g) x < g.length := by
  intro xs
  induction xs with
  | nil => exact fun x _ a b => ⟨a, b⟩
  | cons y ys ih =>
    intro x hx x0 x1
    obtain ⟨y0, y1⟩ := hx.mem (List.mem_cons_self ..)
    obtain ⟨z0, z1⟩ := hg.ent x y x0 x1 y0 y1
    exact ih _ (allIn_of fun z hz => hx.mem (List.mem_cons_of_mem _ hz)) z0 z1
theorem take_rd {xs : List Int} {m : Nat} (h : m < xs.length) : xs.take (m + 1) = xs.take m ++ [rd xs m] := by
  rw [List.take_succ_eq_append_getElem h, rd_get h]
theorem times {g : List (List Int)} (hg : Grp g) (xs : List Int) (hx : AllIn g.length xs) (hl : xs.length ≤ maxLen) : impl_Group_times.f g xs = some (xs.foldl (T g) 0) := by
  have hm := maxLen_le
  have n1 := hg.n1
  rw [impl_Group_times.f_eq]
  have := up xs.length (fun i => impl_Group_times.l0 ((xs.take i).foldl (T g) 0) xs (xs.length : Int) (i : Int) g) (fun i hi => by
    obtain ⟨z0, z1⟩ := hg.foldl_in (xs.take i) 0 (hx.take i) (by omega) (by omega)
    obtain ⟨y0, y1⟩ := hx i (by omega) (by omega)
    have hr : ((row g ((xs.take i).foldl (T g) 0)).length : Int) = g.length := by rw [hg.row _ z0 z1]
    have hw : wrapI ((i : Int) + 1) = ((i + 1 : Nat) : Int) := by rw [w64 (by omega) (by omega)]; omega
    rw [take_rd hi, List.foldl_append, List.foldl_cons, List.foldl_nil]
    (rw [impl_Group_times.l0_eq, hw])
    ((with_reducible repeat (first | refine go_pos (by first | assumption | omega | rfl | exact B_pos (by omega)) ?_ | refine go_neg (by first | assumption | omega | decide | exact B_not (by omega)) ?_ | refine go_bind (by first | assumption) ?_ | dsimp only)); first | done | (with_reducible rfl) | simp (disch := omega) only [w64] | (show False; done)))
  simp only [List.take_zero, List.foldl_nil, List.take_length, Int.natCast_zero] at this
  rw [this]
  (rw [impl_Group_times.l0_eq])
  ((with_reducible repeat (first | refine go_pos (by first | assumption | omega | rfl | exact B_pos (by omega)) ?_ | refine go_neg (by first | assumption | omega | decide | exact B_not (by omega)) ?_ | refine go_bind (by first | assumption) ?_ | dsimp only)); first | done | (with_reducible rfl) | simp (disch := omega) only [w64] | (show False; done))
end Go.Proofs.Ytdiadcmkddkjpaa.V
set_option linter.unusedVariables false
set_option linter.unusedSimpArgs false
set_option maxHeartbeats 2000000
set_option maxRecDepth 20000
namespace Go.Proofs.Ytdiadcmkddkjpaa.V
open Go.RowKit Go.Proofs.Ytdiadcmkddkjpaa.D Go.Proofs.Ytdiadcmkddkjpaa.P
structure Mdl (g : List (List Int)) (m : Int) (u : List Int) : Prop where
  m2 : 2 ≤ m
  m12 : m ≤ 12
  len : u.length = g.length
  unit : ∀ i : Int, 0 ≤ i → i < u.length → 1 ≤ rd u i ∧ rd u i < m ∧ Int.gcd (rd u i) m = 1
  hom : ∀ i : Int, 0 ≤ i → i < u.length → ∀ j : Int, 0 ≤ j → j < u.length → rd u (T g i j) = rd u i * rd u j % m
theorem unit_one : ∀ m : Nat, m ≤ 12 → ∀ u : Nat, u < m → Nat.gcd u m = 1 → u = u * u % m → 1 ≤ u → u = 1 := by decide
theorem Mdl.one {g : List (List Int)} {m : Int} {u : List Int} (hg : Grp g) (h : Mdl g m u) : rd u 0 = 1 := by
  have n1 := hg.n1
  have hl := h.len
  obtain ⟨a1, a2, a3⟩ := h.unit 0 (by omega) (by omega)
  have e := h.hom 0 (by omega) (by omega) 0 (by omega) (by omega)
  rw [hg.one 0 (by omega) (by omega)] at e
  have m2 := h.m2; have m12 := h.m12
  obtain ⟨M, rfl⟩ := Int.eq_ofNat_of_zero_le (show 0 ≤ m by omega)
  obtain ⟨U, hU⟩ := Int.eq_ofNat_of_zero_le (show 0 ≤ rd u 0 by omega)
  rw [hU] at a1 a2 a3 e ⊢
  have := unit_one M (by omega) U (by omega) (by simpa [Int.gcd] using a3) (by exact_mod_cast e) (by omega)
  omega
theorem Mdl.at {g : List (List Int)} {m : Int} {u : List Int} (h : Mdl g m u) {x : Int} (x0 : 0 ≤ x) (x1 : x < g.length) : 1 ≤ rd u x ∧ rd u x < m := by
  have hl := h.len
  obtain ⟨a, b, _⟩ := h.unit x x0 (by omega)
  exact ⟨a, b⟩
end Go.Proofs.Ytdiadcmkddkjpaa.V
set_option linter.unusedVariables false
set_option linter.unusedSimpArgs false
set_option maxHeartbeats 2000000
set_option maxRecDepth 20000
namespace Go.Proofs.Ytdiadcmkddkjpaa.V
open Go.RowKit Go.Proofs.Ytdiadcmkddkjpaa.D Go.Proofs.Ytdiadcmkddkjpaa.P
def cells (g : List (List Int)) (d : Int) : Int := ((g.length : Int) - 1) ^ d.toNat
def idx (g : List (List Int)) (xs : List Int) : Int := xs.foldl (fun a x => a * ((g.length : Int) - 1) + x - 1) 0
def NoUnit (xs : List Int) : Prop := ∀ j : Int, 0 ≤ j → j < xs.length → ¬ rd xs j = 0
noncomputable def At (g : List (List Int)) (v xs : List Int) : Int := ite_ (NoUnit xs) (rd v (idx g xs)) 0
end Go.Proofs.Ytdiadcmkddkjpaa.V
set_option linter.unusedVariables false
set_option linter.unusedSimpArgs false
set_option maxHeartbeats 2000000
set_option maxRecDepth 20000
namespace Go.Proofs.Ytdiadcmkddkjpaa.V
open Go.RowKit Go.Proofs.Ytdiadcmkddkjpaa.D Go.Proofs.Ytdiadcmkddkjpaa.P
theorem inv_is {g : List (List Int)} (hg : Grp g) {a : Int} (a0 : 0 ≤ a) (a1 : a < g.length) :
    ∃ b : Int, 0 ≤ b ∧ b < g.length ∧ T g a b = 0 ∧ impl_Group_inverse.f g a = some b ∧ spec_l01Inverse.f g a = some b := by
  have hm := maxLen_le
  have n8 := hg.n8
  have lr := hg.row a a0 a1
  have hlr : (row g a).length ≤ maxLen := le_maxLen (by omega)
  rcases index_ (row g a) 0 hlr with ⟨h, _⟩ | ⟨b, b0, b1, hf, hb, e⟩
  · obtain ⟨b, b0, b1, hb⟩ := hg.inv a a0 a1
    exact absurd hb (h b b0 (by omega))
  refine ⟨b, b0, by omega, hb, ?_, ?_⟩
  · rw [impl_Group_inverse.f_eq]
    ((with_reducible repeat (first | refine go_pos (by first | assumption | omega | rfl | exact B_pos (by omega)) ?_ | refine go_neg (by first | assumption | omega | decide | exact B_not (by omega)) ?_ | refine go_bind (by first | assumption) ?_ | dsimp only)); first | done | (with_reducible rfl) | simp (disch := omega) only [w64] | (show False; done))
  · rw [spec_l01Inverse.f_eq]
    obtain ⟨n, rfl⟩ := Int.eq_ofNat_of_zero_le b0
    have := up n (fun i => spec_l01Inverse.l0 a (i : Int) g) (fun i hi => by
      have h2 : T g a i ≠ 0 := hf i (by omega) (by omega)
      have hw : wrapI ((i : Int) + 1) = ((i + 1 : Nat) : Int) := by rw [w64 (by omega) (by omega)]; omega
      (rw [spec_l01Inverse.l0_eq, spec_l01N.f_eq, Option.bind_some, hw])
      ((with_reducible repeat (first | refine go_pos (by first | assumption | omega | rfl | exact B_pos (by omega)) ?_ | refine go_neg (by first | assumption | omega | decide | exact B_not (by omega)) ?_ | refine go_bind (by first | assumption) ?_ | dsimp only)); first | done | (with_reducible rfl) | simp (disch := omega) only [w64] | (show False; done)))
    simp only [Int.natCast_zero] at this
    have hb : T g a n = 0 := hb
    rw [this, spec_l01Inverse.l0_eq, spec_l01N.f_eq, Option.bind_some]
    ((with_reducible repeat (first | refine go_pos (by first | assumption | omega | rfl | exact B_pos (by omega)) ?_ | refine go_neg (by first | assumption | omega | decide | exact B_not (by omega)) ?_ | refine go_bind (by first | assumption) ?_ | dsimp only)); first | done | (with_reducible rfl) | simp (disch := omega) only [w64] | (show False; done))
theorem conj_is {g : List (List Int)} (hg : Grp g) {x : Int} (x0 : 0 ≤ x) (x1 : x < g.length) :
    ∃ C : Int → Int, ∀ y : Int, 0 ≤ y → y < g.length → (0 ≤ C y ∧ C y < g.length) ∧ impl_Group_conjugate.f g x y = some (C y) ∧ spec_l01Conjugate.f g y x = some (C y) := by
  obtain ⟨b, b0, b1, hb, eI, eS⟩ := inv_is hg x0 x1
  refine ⟨fun y => T g (T g x y) b, fun y y0 y1 => ?_⟩
  obtain ⟨c0, c1⟩ := hg.ent x y x0 x1 y0 y1
  obtain ⟨d0, d1⟩ := hg.ent _ b c0 c1 b0 b1
  have lx := hg.row x x0 x1
  have lc := hg.row _ c0 c1
  refine ⟨⟨d0, d1⟩, ?_, ?_⟩
  · rw [impl_Group_conjugate.f_eq]
    have ht := times hg [x, y, b] (allIn_three x0 x1 y0 y1 b0 b1) (le_maxLen (by simp))
    have e : [x, y, b].foldl (T g) 0 = T g (T g x y) b := by
      show T g (T g (T g 0 x) y) b = _
      rw [hg.one x x0 x1]
    rw [e] at ht
    ((with_reducible repeat (first | refine go_pos (by first | assumption | omega | rfl | exact B_pos (by omega)) ?_ | refine go_neg (by first | assumption | omega | decide | exact B_not (by omega)) ?_ | refine go_bind (by first | assumption) ?_ | dsimp only)); first | done | (with_reducible rfl) | simp (disch := omega) only [w64] | (show False; done))
  · rw [spec_l01Conjugate.f_eq]
    ((with_reducible repeat (first | refine go_pos (by first | assumption | omega | rfl | exact B_pos (by omega)) ?_ | refine go_neg (by first | assumption | omega | decide | exact B_not (by omega)) ?_ | refine go_bind (by first | assumption) ?_ | dsimp only)); first | done | (with_reducible rfl) | simp (disch := omega) only [w64] | (show False; done))
end Go.Proofs.Ytdiadcmkddkjpaa.V
set_option linter.unusedVariables false
set_option linter.unusedSimpArgs false
set_option maxHeartbeats 2000000
set_option maxRecDepth 20000
namespace Go.Proofs.Ytdiadcmkddkjpaa.V
open Go.RowKit Go.Proofs.Ytdiadcmkddkjpaa.D Go.Proofs.Ytdiadcmkddkjpaa.P
end Go.Proofs.Ytdiadcmkddkjpaa.V
set_option linter.unusedVariables false
set_option linter.unusedSimpArgs false
set_option maxHeartbeats 2000000
set_option maxRecDepth 20000
namespace Go.Proofs.Ytdiadcmkddkjpaa.V
open Go.RowKit Go.Proofs.Ytdiadcmkddkjpaa.D Go.Proofs.Ytdiadcmkddkjpaa.P
theorem less_ (a b : Int) : cmp_Less_int64.f a b = some (decide (a < b)) := by
  rw [cmp_Less_int64.f_eq, cmp_isNaN_int64.f_eq, cmp_isNaN_int64.f_eq]
  simp
def insQ : List Int → Int → List Int → List Int
  | [], v, Q => v :: Q
  | w :: R, v, Q => if v < w then insQ R v (w :: Q) else R.reverse ++ w :: v :: Q
theorem rd_mid {A B : List Int} {v : Int} {j : Nat} (h : A.length = j) : rd (A ++ v :: B) (j : Int) = v := by subst h; simp [rd, List.getD_eq_getElem?_getD]
theorem set_mid {A B : List Int} {v w : Int} {j : Nat} (h : A.length = j) : (A ++ v :: B).set j w = A ++ w :: B := by subst h; simp
theorem inner_ (x2 : Int) (i : Nat) (hi : i < 4611686018427387904) : ∀ (R : List Int) (v : Int) (Q : List Int), R.length ≤ i → slices_insertionSortOrdered_int64.l1 0 x2 i (R.length : Int) (R.reverse ++ v :: Q) = slices_insertionSortOrdered_int64.l0 0 x2 ((i + 1 : Nat) : Int) (insQ R v Q) := by
  intro R
  induction R with
  | nil =>
    intro v Q _
    rw [slices_insertionSortOrdered_int64.l1_eq, wn (j := i) hi]
    (with_reducible repeat (first | refine go_pos (by first | assumption | omega | rfl | exact B_pos (by omega)) ?_ | refine go_neg (by first | assumption | omega | decide | exact B_not (by omega)) ?_ | refine go_bind (by first | assumption) ?_ | dsimp only))
    rfl
  | cons w R ih =>
    intro v Q hR
    have hR' : R.length + 1 ≤ i := hR
    have e : (w :: R).reverse ++ v :: Q = R.reverse ++ w :: v :: Q := by simp
    have e2 : (((w :: R).length : Nat) : Int) = ((R.length + 1 : Nat) : Int) := rfl
    have e3 : wrapI (((R.length + 1 : Nat) : Int) - 1) = (R.length : Int) := by rw [w64 (by omega) (by omega)]; omega
    have hl : R.reverse.length = R.length := List.length_reverse
    have r1 : rd (R.reverse ++ w :: v :: Q) ((R.length + 1 : Nat) : Int) = v := by
      rw [show R.reverse ++ w :: v :: Q = (R.reverse ++ [w]) ++ v :: Q by simp]
      exact rd_mid (by rw [List.length_append, hl]; rfl)
    have r2 : rd (R.reverse ++ w :: v :: Q) (R.length : Int) = w := rd_mid hl
    have s1 : (R.reverse ++ w :: v :: Q).set (R.length + 1) w = R.reverse ++ w :: w :: Q := by
      rw [show R.reverse ++ w :: v :: Q = (R.reverse ++ [w]) ++ v :: Q by simp, set_mid (by rw [List.length_append, hl]; rfl)]
      simp
    have s2 : (R.reverse ++ w :: w :: Q).set R.length v = R.reverse ++ v :: w :: Q := set_mid hl
    have l1 : (R.reverse ++ w :: v :: Q).length = R.length + 2 + Q.length := by rw [List.length_append, hl, List.length_cons, List.length_cons]; omega
    have l2 : (R.reverse ++ w :: w :: Q).length = R.length + 2 + Q.length := by rw [List.length_append, hl, List.length_cons, List.length_cons]; omega
    have hls := less_ v w
    rw [e, e2, slices_insertionSortOrdered_int64.l1_eq, e3, r1, r2, Int.toNat_natCast, Int.toNat_natCast, s1, s2, wn (j := i) hi, insQ]
    clear e e2 e3 r1 r2 s1 s2
    by_cases h : v < w
    · rw [decide_eq_true h] at hls
      rw [if_pos h]
      (with_reducible repeat (first | refine go_pos (by first | assumption | omega | rfl | exact B_pos (by omega)) ?_ | refine go_neg (by first | assumption | omega | decide | exact B_not (by omega)) ?_ | refine go_bind (by first | assumption) ?_ | dsimp only))
      exact ih v (w :: Q) (by omega)
    · rw [decide_eq_false h] at hls
      rw [if_neg h]
      ((with_reducible repeat (first | refine go_pos (by first | assumption | omega | rfl | exact B_pos (by omega)) ?_ | refine go_neg (by first | assumption | omega | decide | exact B_not (by omega)) ?_ | refine go_bind (by first | assumption) ?_ | dsimp only)); first | done | (with_reducible rfl) | simp (disch := omega) only [w64] | (show False; done))
theorem insQ_app : ∀ (R : List Int) (v : Int) (Q Q' : List Int), insQ R v (Q ++ Q') = insQ R v Q ++ Q' := by
  intro R
  induction R with
  | nil => intro v Q Q'; rfl
  | cons w R ih =>
    intro v Q Q'
    rw [insQ, insQ]
    split
    · exact ih v (w :: Q) Q'
    · simp
theorem insQ_mem : ∀ (R : List Int) (v : Int) (Q : List Int) (x : Int), x ∈ insQ R v Q ↔ x = v ∨ x ∈ R ∨ x ∈ Q := by
  intro R
  induction R with
  | nil => intro v Q x; simp [insQ]
  | cons w R ih =>
    intro v Q x
    rw [insQ]
    split
    · rw [ih]; simp only [List.mem_cons]; constructor
      · rintro (h | h | h | h) <;> simp [h]
      · rintro (h | (h | h) | h) <;> simp [h]
    · simp only [List.mem_append, List.mem_reverse, List.mem_cons]; constructor
      · rintro (h | h | h | h) <;> simp [h]
      · rintro (h | (h | h) | h) <;> simp [h]
theorem insQ_len : ∀ (R : List Int) (v : Int) (Q : List Int), (insQ R v Q).length = R.length + 1 + Q.length := by
  intro R
  induction R with
  | nil => intro v Q; simp [insQ]; omega
  | cons w R ih =>
    intro v Q
    rw [insQ]
    split
    · rw [ih]; simp; omega
    · simp; omega
theorem insQ_sorted : ∀ (R : List Int) (v : Int) (Q : List Int), R.Pairwise (fun a b => b < a) → (∀ x ∈ R, x ≠ v) → Q.Pairwise (· < ·) → (∀ x ∈ R, ∀ y ∈ Q, x < y) → (∀ y ∈ Q, v < y) → (insQ R v Q).Pairwise (· < ·) := by
  intro R
  induction R with
  | nil => intro v Q _ _ hQ _ hv; exact List.pairwise_cons.2 ⟨hv, hQ⟩
  | cons w R ih =>
    intro v Q hR hn hQ hRQ hv
    obtain ⟨h1, h2⟩ := List.pairwise_cons.1 hR
    rw [insQ]
    split
    · rename_i h
      refine ih v (w :: Q) h2 (fun x hx => hn x (List.mem_cons_of_mem _ hx)) (List.pairwise_cons.2 ⟨fun y hy => hRQ w List.mem_cons_self y hy, hQ⟩) (fun x hx y hy => ?_) (fun y hy => ?_)
      · rcases List.mem_cons.1 hy with rfl | hy
        · exact h1 x hx
        · exact hRQ x (List.mem_cons_of_mem _ hx) y hy
      · rcases List.mem_cons.1 hy with rfl | hy
        · exact h
        · exact hv y hy
    · rename_i h
      have hw : w < v := by have := hn w List.mem_cons_self; omega
      rw [List.pairwise_append]
      refine ⟨List.pairwise_reverse.2 h2, List.pairwise_cons.2 ⟨fun y hy => ?_, List.pairwise_cons.2 ⟨hv, hQ⟩⟩, fun x hx y hy => ?_⟩
      · rcases List.mem_cons.1 hy with rfl | hy
        · exact hw
        · exact hRQ w List.mem_cons_self y hy
      · have hx' := h1 x (List.mem_reverse.1 hx)
        rcases List.mem_cons.1 hy with rfl | hy
        · exact hx'
        · rcases List.mem_cons.1 hy with rfl | hy
          · omega
          · exact hRQ x (List.mem_cons_of_mem _ (List.mem_reverse.1 hx)) y hy
theorem sort_ (xs : List Int) (hl : xs.length ≤ 12) (hn : xs.Nodup) : ∃ ys, slices_Sort_int64.f xs = some ys ∧ ys.length = xs.length ∧ ys.Pairwise (· < ·) ∧ ∀ x, x ∈ ys ↔ x ∈ xs := by
 have hw : wr .u64 (xs.length : Int) = (xs.length : Int) := by
  show hid (IntKind.wrap .u64 _) = _
  rw [hid_eq]
  obtain ⟨n, hn⟩ : ∃ n, n = xs.length := ⟨_, rfl⟩
  rw [← hn] at hl ⊢
  have : ∀ n : Fin 13, IntKind.wrap .u64 ((n : Nat) : Int) = ((n : Nat) : Int) := by decide
  exact this ⟨n, by omega⟩
 have hb : ∃ y, bits_Len.f (xs.length : Int) = some y := ⟨_, if_pos ⟨by omega, by omega⟩⟩
 obtain ⟨y, hb⟩ := hb
 have H : ∀ (d : Nat) (R Q : List Int), Q.length = d → R.length + d = xs.length → 1 ≤ R.length → R.Pairwise (fun a b => b < a) → (R.reverse ++ Q).Nodup → ∃ ys, slices_insertionSortOrdered_int64.l0 0 (xs.length : Int) (R.length : Int) (R.reverse ++ Q) = some ys ∧ ys.length = xs.length ∧ ys.Pairwise (· < ·) ∧ ∀ x, x ∈ ys ↔ (x ∈ R ∨ x ∈ Q) := by
  intro d
  induction d with
  | zero =>
   intro R Q hQ hR _ hs hnd
   obtain rfl : Q = [] := List.eq_nil_of_length_eq_zero hQ
   refine ⟨R.reverse ++ [], ?_, by simp; omega, by rw [List.append_nil]; exact List.pairwise_reverse.2 hs, fun x => by simp⟩
   rw [slices_insertionSortOrdered_int64.l0_eq]
   ((with_reducible repeat (first | refine go_pos (by first | assumption | omega | rfl | exact B_pos (by omega)) ?_ | refine go_neg (by first | assumption | omega | decide | exact B_not (by omega)) ?_ | refine go_bind (by first | assumption) ?_ | dsimp only)); first | done | (with_reducible rfl) | simp (disch := omega) only [w64] | (show False; done))
  | succ d ih =>
   intro R Q hQ hR h1 hs hnd
   match Q, hQ with
   | v :: Q, hQ =>
    have hQ : Q.length = d := by simpa using hQ
    have hd := List.nodup_append.1 hnd
    obtain ⟨hvQ, hQn⟩ := List.nodup_cons.1 hd.2.1
    have hvR : ∀ x ∈ R, x ≠ v := fun x hx h => hd.2.2 x (List.mem_reverse.2 hx) v List.mem_cons_self h
    have hsort := insQ_sorted R v [] hs hvR List.Pairwise.nil (fun _ _ _ h => by cases h) (fun _ h => by cases h)
    have hlen := insQ_len R v []
    obtain ⟨S, hS⟩ : ∃ S, S = insQ R v [] := ⟨_, rfl⟩
    have hin : insQ R v Q = S ++ Q := by rw [hS, ← insQ_app, List.nil_append]
    rw [← hS] at hsort hlen
    have hmS : ∀ x, x ∈ S ↔ x = v ∨ x ∈ R := fun x => by rw [hS, insQ_mem]; simp
    have hSn : S.Nodup := hsort.imp fun h => by omega
    obtain ⟨ys, e, k1, k2, k3⟩ := ih S.reverse Q hQ (by rw [List.length_reverse, hlen]; simp; omega) (by rw [List.length_reverse, hlen]; omega) (List.pairwise_reverse.2 hsort) (by
     rw [List.reverse_reverse]
     refine List.nodup_append.2 ⟨hSn, hQn, fun a ha b hb => ?_⟩
     rcases (hmS a).1 ha with rfl | ha
     ·
      intro h; subst h; exact hvQ hb
     ·
      exact hd.2.2 a (List.mem_reverse.2 ha) b (List.mem_cons_of_mem _ hb))
    rw [List.reverse_reverse, List.length_reverse, hlen, List.length_nil, Nat.add_zero] at e
    refine ⟨ys, ?_, k1, k2, fun x => ?_⟩
    ·
     rw [slices_insertionSortOrdered_int64.l0_eq]
     (with_reducible repeat (first | refine go_pos (by first | assumption | omega | rfl | exact B_pos (by omega)) ?_ | refine go_neg (by first | assumption | omega | decide | exact B_not (by omega)) ?_ | refine go_bind (by first | assumption) ?_ | dsimp only))
     rw [inner_ _ R.length (by omega) R v Q (Nat.le_refl _), hin]
     exact e
    ·
     rw [k3, List.mem_reverse, hmS, List.mem_cons]
     constructor
     ·
      rintro ((h | h) | h) <;> simp [h]
     ·
      rintro (h | h | h) <;> simp [h]
 rw [slices_Sort_int64.f_eq, hw, hb, Option.bind_some, slices_pdqsortOrdered_int64.f_eq, slices_pdqsortOrdered_int64.l0_eq, slices_insertionSortOrdered_int64.f_eq, w64 (x := (xs.length : Int) - 0) (by omega) (by omega), show wrapI (0 + 1) = 1 from w64 (by omega) (by omega)]
 clear hw hb
 cases xs with
 | nil =>
  refine ⟨[], ?_, rfl, List.Pairwise.nil, fun x => Iff.rfl⟩
  rw [slices_insertionSortOrdered_int64.l0_eq]
  rfl
 | cons v Q =>
  obtain ⟨ys, e, k1, k2, k3⟩ := H Q.length [v] Q rfl (by simp; omega) (by simp) (List.pairwise_singleton ..) hn
  have e : slices_insertionSortOrdered_int64.l0 0 ((v :: Q).length : Int) 1 (v :: Q) = some ys := e
  refine ⟨ys, ?_, k1, k2, fun x => by rw [k3]; simp⟩
  rw [e, if_pos (by omega)]
  rfl
theorem sorted_unique : ∀ (xs ys : List Int), xs.Pairwise (· < ·) → ys.Pairwise (· < ·) → (∀ x, x ∈ xs ↔ x ∈ ys) → xs = ys := by
  intro xs
  induction xs with
  | nil =>
    intro ys _ _ h
    cases ys with
    | nil => rfl
    | cons y ys => exact absurd ((h y).2 List.mem_cons_self) (by simp)
  | cons x xs ih =>
    intro ys hx hy h
    cases ys with
    | nil => exact absurd ((h x).1 List.mem_cons_self) (by simp)
    | cons y ys =>
      obtain ⟨a1, a2⟩ := List.pairwise_cons.1 hx
      obtain ⟨b1, b2⟩ := List.pairwise_cons.1 hy
      have e : x = y := by
        have h1 := (h x).1 List.mem_cons_self
        have h2 := (h y).2 List.mem_cons_self
        rcases List.mem_cons.1 h1 with h1 | h1
        · exact h1
        · rcases List.mem_cons.1 h2 with h2 | h2
          · exact h2.symm
          · have := a1 y h2; have := b1 x h1; omega
      subst e
      refine congrArg _ (ih ys a2 b2 fun z => ?_)
      have hz := h z
      simp only [List.mem_cons] at hz
      constructor
      · intro k
        have := a1 z k
        rcases hz.1 (.inr k) with h | h
        · omega
        · exact h
      · intro k
        have := b1 z k
        rcases hz.2 (.inr k) with h | h
        · omega
        · exact h
end Go.Proofs.Ytdiadcmkddkjpaa.V
set_option linter.unusedVariables false
set_option linter.unusedSimpArgs false
set_option maxHeartbeats 2000000
set_option maxRecDepth 20000
namespace Go.Proofs.Ytdiadcmkddkjpaa.V
open Go.RowKit Go.Proofs.Ytdiadcmkddkjpaa.D Go.Proofs.Ytdiadcmkddkjpaa.P
theorem wr_u64 {a : Nat} (h : a < 8) : wr .u64 (a : Int) = (a : Int) := by
  show hid (IntKind.wrap .u64 _) = _
  rw [hid_eq]
  have : ∀ n : Fin 8, IntKind.wrap .u64 ((n : Nat) : Int) = ((n : Nat) : Int) := by decide
  exact this ⟨a, h⟩
theorem wr_i64 {a : Nat} (h : a < 4611686018427387904) : wr .i64 (a : Int) = (a : Int) := w64 (by omega) (by omega)
theorem ofInt_nat (a : Nat) : BitVec.ofInt 64 (a : Int) = BitVec.ofNat 64 a := by simp
theorem orI_nat {a b : Nat} (ha : a < 256) (hb : b < 256) : orI .i64 (a : Int) (b : Int) = ((a ||| b : Nat) : Int) := by
  have hab : a ||| b < 2 ^ 8 := Nat.or_lt_two_pow ha hb
  unfold orI
  rw [hid_eq]
  show wr .i64 (((BitVec.ofInt 64 (a : Int) ||| BitVec.ofInt 64 (b : Int)).toNat : Nat) : Int) = _
  rw [ofInt_nat, ofInt_nat, BitVec.toNat_or, BitVec.toNat_ofNat, BitVec.toNat_ofNat, Nat.mod_eq_of_lt (by omega), Nat.mod_eq_of_lt (by omega), wr_i64 (by omega)]
theorem shl_one {b : Nat} (hb : b < 8) : shlI .i64 1 (wr .u64 (b : Int)) = ((2 ^ b : Nat) : Int) := by
  have h2 : 2 ^ b < 256 := Nat.pow_lt_pow_right (by omega) (by omega : b < 8)
  unfold shlI
  rw [hid_eq, wr_u64 hb]
  show wr .i64 (1 * 2 ^ (min (b : Int).toNat 64)) = _
  rw [Int.toNat_natCast, Nat.min_eq_left (by omega), Int.one_mul, show (2 : Int) ^ b = ((2 ^ b : Nat) : Int) by rw [Int.natCast_pow]; rfl, wr_i64 (by omega)]
theorem bit_test {s a : Nat} (hs : s < 256) (ha : a < 8) : andI .i64 (shrI .i64 (s : Int) (wr .u64 (a : Int))) 1 = 1 ↔ s.testBit a = true := by
  have e1 : shrI .i64 (s : Int) (wr .u64 (a : Int)) = ((s >>> a : Nat) : Int) := by
    unfold shrI
    rw [hid_eq, wr_u64 ha]
    show (s : Int).fdiv (2 ^ (min (a : Int).toNat 64)) = _
    rw [Int.toNat_natCast, Nat.min_eq_left (by omega), Nat.shiftRight_eq_div_pow, show (2 : Int) ^ a = ((2 ^ a : Nat) : Int) by rw [Int.natCast_pow]; rfl, Int.fdiv_eq_ediv_of_nonneg _ (Int.natCast_nonneg _)]
    rfl
  have hlt : s >>> a < 256 := by rw [Nat.shiftRight_eq_div_pow]; exact Nat.lt_of_le_of_lt (Nat.div_le_self _ _) hs
  have e2 : andI .i64 ((s >>> a : Nat) : Int) 1 = (((s >>> a) &&& 1 : Nat) : Int) := by
    unfold andI
    rw [hid_eq]
    show wr .i64 (((BitVec.ofInt 64 ((s >>> a : Nat) : Int) &&& BitVec.ofInt 64 ((1 : Nat) : Int)).toNat : Nat) : Int) = _
    have h1 : s >>> a &&& 1 ≤ 1 := Nat.and_le_right
    rw [ofInt_nat, ofInt_nat, BitVec.toNat_and, BitVec.toNat_ofNat, BitVec.toNat_ofNat, Nat.mod_eq_of_lt (by omega), Nat.mod_eq_of_lt (by omega), wr_i64 (by omega)]
  rw [e1, e2, Nat.testBit_eq_decide_div_mod_eq, Nat.shiftRight_eq_div_pow, Nat.and_one_is_mod, decide_eq_true_iff]
  omega
theorem wr_nn {a : Nat} (ha : a < 8) : ¬ wr .u64 (a : Int) < 0 := by rw [wr_u64 ha]; omega
def elems (s : Nat) : List Int := ((List.range 8).filter fun a => s.testBit a).map fun a : Nat => (a : Int)
theorem elems_mem {s : Nat} {x : Int} : x ∈ elems s ↔ ∃ a : Nat, a < 8 ∧ s.testBit a = true ∧ x = a := by
  simp only [elems, List.mem_map, List.mem_filter, List.mem_range]
  constructor
  · rintro ⟨a, ⟨h1, h2⟩, rfl⟩; exact ⟨a, h1, h2, rfl⟩
  · rintro ⟨a, h1, h2, rfl⟩; exact ⟨a, ⟨h1, h2⟩, rfl⟩
theorem elems_sorted (s : Nat) : (elems s).Pairwise (· < ·) := by
  rw [elems, List.pairwise_map]
  refine List.Pairwise.imp (fun h => ?_) (List.Pairwise.filter _ List.pairwise_lt_range)
  omega
theorem elems_len (s : Nat) : (elems s).length ≤ 8 := by
  rw [elems, List.length_map]
  exact Nat.le_trans (List.length_filter_le _ _) (by simp)
theorem List_ {s : Nat} (hs : s < 256) : spec_l01List.f (s : Int) = some (elems s) := by
  rw [spec_l01List.f_eq]
  have := up 8 (fun i => spec_l01List.l0 (s : Int) (i : Int) (((List.range i).filter fun a => s.testBit a).map fun a : Nat => (a : Int))) (fun i hi => by
    have l1 : (((List.range i).filter fun a => s.testBit a).map fun a : Nat => (a : Int)).length ≤ i := by
      rw [List.length_map]
      exact Nat.le_trans (List.length_filter_le _ _) (by simp)
    have l2 : ∀ x : Int, ([x] : List Int).length = 1 := fun _ => rfl
    have hb := bit_test hs hi
    have hw := wr_nn hi
    rw [List.range_succ, List.filter_append, List.map_append, spec_l01List.l0_eq, wn (j := i) (by omega), l2]
    by_cases h : s.testBit i = true
    · have h1 := hb.2 h
      rw [List.filter_cons, List.filter_nil, if_pos h, List.map_singleton]
      ((with_reducible repeat (first | refine go_pos (by first | assumption | omega | rfl | exact B_pos (by omega)) ?_ | refine go_neg (by first | assumption | omega | decide | exact B_not (by omega)) ?_ | refine go_bind (by first | assumption) ?_ | dsimp only)); first | done | (with_reducible rfl) | simp (disch := omega) only [w64] | (show False; done))
    · have h1 := fun q => h (hb.1 q)
      rw [List.filter_cons, List.filter_nil, if_neg h, List.map_nil, List.append_nil]
      ((with_reducible repeat (first | refine go_pos (by first | assumption | omega | rfl | exact B_pos (by omega)) ?_ | refine go_neg (by first | assumption | omega | decide | exact B_not (by omega)) ?_ | refine go_bind (by first | assumption) ?_ | dsimp only)); first | done | (with_reducible rfl) | simp (disch := omega) only [w64] | (show False; done)))
  simp only [Int.natCast_zero, List.range_zero, List.filter_nil, List.map_nil] at this
  rw [this, spec_l01List.l0_eq]
  (with_reducible repeat (first | refine go_pos (by first | assumption | omega | rfl | exact B_pos (by omega)) ?_ | refine go_neg (by first | assumption | omega | decide | exact B_not (by omega)) ?_ | refine go_bind (by first | assumption) ?_ | dsimp only))
  rfl
end Go.Proofs.Ytdiadcmkddkjpaa.V
set_option linter.unusedVariables false
set_option linter.unusedSimpArgs false
set_option maxHeartbeats 4000000
set_option maxRecDepth 20000
namespace Go.Proofs.Ytdiadcmkddkjpaa.V
open Go.RowKit Go.Proofs.Ytdiadcmkddkjpaa.D Go.Proofs.Ytdiadcmkddkjpaa.P
theorem conj_all {g : List (List Int)} (hg : Grp g) : ∃ K : Int → Int → Int, ∀ c a : Int, 0 ≤ c → c < g.length → 0 ≤ a → a < g.length → (0 ≤ K c a ∧ K c a < g.length) ∧ T g (K c a) c = T g c a ∧ impl_Group_conjugate.f g c a = some (K c a) ∧ spec_l01Conjugate.f g a c = some (K c a) := by
  have : ∀ c : Int, ∃ C : Int → Int, 0 ≤ c → c < g.length → ∀ a : Int, 0 ≤ a → a < g.length → (0 ≤ C a ∧ C a < g.length) ∧ T g (C a) c = T g c a ∧ impl_Group_conjugate.f g c a = some (C a) ∧ spec_l01Conjugate.f g a c = some (C a) := fun c => by
    by_cases h : 0 ≤ c ∧ c < g.length
    · obtain ⟨c0, c1⟩ := h
      obtain ⟨b, b0, b1, hb, eI, eS⟩ := inv_is hg c0 c1
      obtain ⟨b', b0', b1', hb', hb2⟩ := hg.inv2 c0 c1
      have hbb : T g b c = 0 := by
        have e1 := hg.assoc b' c b b0' b1' c0 c1 b0 b1
        rw [hb2, hb, hg.one b b0 b1, hg.one' b' b0' b1'] at e1
        rw [e1]; exact hb2
      obtain ⟨C, hC⟩ := conj_is hg c0 c1
      refine ⟨C, fun _ _ a a0 a1 => ⟨(hC a a0 a1).1, ?_, (hC a a0 a1).2⟩⟩
      obtain ⟨e0, e1⟩ := hg.ent c a c0 c1 a0 a1
      have h1 := (hC a a0 a1).2.1
      rw [impl_Group_conjugate.f_eq, eI, Option.bind_some, times hg [c, a, b] (allIn_three c0 c1 a0 a1 b0 b1) (le_maxLen (by simp)), Option.bind_some] at h1
      have h2 : T g (T g (T g 0 c) a) b = C a := Option.some.inj h1
      rw [hg.one c c0 c1] at h2
      rw [← h2, hg.assoc _ b c e0 e1 b0 b1 c0 c1, hbb, hg.one' _ e0 e1]
    · exact ⟨fun _ => 0, fun c0 c1 => absurd ⟨c0, c1⟩ h⟩
  obtain ⟨K, hK⟩ := Classical.axiomOfChoice this
  exact ⟨K, fun c a c0 c1 => hK c c0 c1 a⟩
def Orb (g : List (List Int)) (K : Int → Int → Int) (a b : Int) : Prop := ∃ c : Int, 0 ≤ c ∧ c < g.length ∧ K c a = b
theorem orb_meet {g : List (List Int)} (hg : Grp g) {K : Int → Int → Int} (hK : ∀ c a : Int, 0 ≤ c → c < g.length → 0 ≤ a → a < g.length → (0 ≤ K c a ∧ K c a < g.length) ∧ T g (K c a) c = T g c a ∧ impl_Group_conjugate.f g c a = some (K c a) ∧ spec_l01Conjugate.f g a c = some (K c a))
    {a a' b : Int} (a0 : 0 ≤ a) (a1 : a < g.length) (a0' : 0 ≤ a') (a1' : a' < g.length) (h : Orb g K a b) (h' : Orb g K a' b) : Orb g K a' a := by
  obtain ⟨c, c0, c1, rfl⟩ := h
  obtain ⟨d, d0, d1, hd⟩ := h'
  obtain ⟨⟨k0, k1⟩, hc, _⟩ := hK c a c0 c1 a0 a1
  have hd2 := (hK d a' d0 d1 a0' a1').2.1
  rw [hd] at hd2
  obtain ⟨b, hb⟩ : ∃ b, b = K c a := ⟨_, rfl⟩
  rw [← hb] at hd2 hc k0 k1
  obtain ⟨i, i0, i1, hi1, hi2⟩ := hg.inv2 c0 c1
  obtain ⟨e0, e1⟩ := hg.ent i d i0 i1 d0 d1
  have hai : T g a i = T g i b := by
    obtain ⟨p0, p1⟩ := hg.ent i b i0 i1 k0 k1
    obtain ⟨q0, q1⟩ := hg.ent c a c0 c1 a0 a1
    have s1 : T g (T g i b) c = a := by rw [hg.assoc i b c i0 i1 k0 k1 c0 c1, hc, ← hg.assoc i c a i0 i1 c0 c1 a0 a1, hi2, hg.one a a0 a1]
    have s2 := hg.assoc (T g i b) c i p0 p1 c0 c1 i0 i1
    rw [s1, hi1, hg.one' _ p0 p1] at s2
    exact s2
  have key : T g a (T g i d) = T g (T g i d) a' := by
    rw [← hg.assoc a i d a0 a1 i0 i1 d0 d1, hai, hg.assoc i b d i0 i1 k0 k1 d0 d1, hd2, hg.assoc i d a' i0 i1 d0 d1 a0' a1']
  refine ⟨T g i d, e0, e1, ?_⟩
  obtain ⟨⟨z0, z1⟩, hz, _⟩ := hK (T g i d) a' e0 e1 a0' a1'
  obtain ⟨j, j0, j1, hj1, hj2⟩ := hg.inv2 e0 e1
  have s1 := hg.assoc (K (T g i d) a') (T g i d) j z0 z1 e0 e1 j0 j1
  have s2 := hg.assoc a (T g i d) j a0 a1 e0 e1 j0 j1
  rw [hz, hj1, hg.one' _ z0 z1] at s1
  rw [key, hj1, hg.one' _ a0 a1] at s2
  rw [← s1, s2]
theorem orb_self {g : List (List Int)} (hg : Grp g) {K : Int → Int → Int} (hK : ∀ c a : Int, 0 ≤ c → c < g.length → 0 ≤ a → a < g.length → (0 ≤ K c a ∧ K c a < g.length) ∧ T g (K c a) c = T g c a ∧ impl_Group_conjugate.f g c a = some (K c a) ∧ spec_l01Conjugate.f g a c = some (K c a))
    {a : Int} (a0 : 0 ≤ a) (a1 : a < g.length) : Orb g K a a := by
  have n1 := hg.n1
  obtain ⟨⟨z0, z1⟩, hz, _⟩ := hK 0 a (by omega) (by omega) a0 a1
  refine ⟨0, by omega, by omega, ?_⟩
  rw [hg.one' _ z0 z1, hg.one a a0 a1] at hz
  exact hz
theorem or_testBit_one {s b x : Nat} : (s ||| 2 ^ b).testBit x = true ↔ s.testBit x = true ∨ x = b := by
  rw [Nat.testBit_or, Nat.testBit_two_pow]
  simp only [Bool.or_eq_true, decide_eq_true_iff]
  constructor
  · rintro (h | h)
    · exact .inl h
    · exact .inr h.symm
  · rintro (h | h)
    · exact .inl h
    · exact .inr h.symm
theorem rb_set {xs : List Bool} {b : Nat} (hb : b < xs.length) (x : Nat) : Ty.rd .bool (xs.set b true) (x : Int) = true ↔ Ty.rd .bool xs (x : Int) = true ∨ x = b := by
  show (xs.set b true).getD (x : Int).toNat false = true ↔ xs.getD (x : Int).toNat false = true ∨ x = b
  rw [Int.toNat_natCast, List.getD_eq_getElem?_getD, List.getD_eq_getElem?_getD, List.getElem?_set]
  by_cases h : b = x
  · subst h; simp [hb]
  · simp only [h, if_false, ite_false, false_or, or_iff_left (fun q : x = b => h q.symm)]
theorem same_ClassesOf (g : List (List Int)) (hl : g.length ≤ maxLen) (hr : ∀ r ∈ g, r.length ≤ maxLen) :
    ∃ (R : List (List Int)) (e : Int), spec_ClassesOf.f g = some (R, e) ∧ impl_ClassesOf.f g = some (R, e) ∧ R.length ≤ 1048576 ∧ ∀ r ∈ R, r.length ≤ 1048576 := by
  have hS := Is_ g
  have hI := isGroup g hl hr
  rw [spec_ClassesOf.f_eq, impl_ClassesOf.f_eq]
  by_cases hg : Grp g
  rotate_left
  · rw [B_neg hg] at hS hI
    exact ⟨[], 1, by ((with_reducible repeat (first | refine go_pos (by first | assumption | omega | rfl | exact B_pos (by omega)) ?_ | refine go_neg (by first | assumption | omega | decide | exact B_not (by omega)) ?_ | refine go_bind (by first | assumption) ?_ | dsimp only)); first | done | (with_reducible rfl) | simp (disch := omega) only [w64] | (show False; done)), by ((with_reducible repeat (first | refine go_pos (by first | assumption | omega | rfl | exact B_pos (by omega)) ?_ | refine go_neg (by first | assumption | omega | decide | exact B_not (by omega)) ?_ | refine go_bind (by first | assumption) ?_ | dsimp only)); first | done | (with_reducible rfl) | simp (disch := omega) only [w64] | (show False; done)), by simp, by simp⟩
  rw [B_pos hg] at hS hI
  have n8 := hg.n8; have n1 := hg.n1
  obtain ⟨K, hK⟩ := conj_all hg
  have l3 : ∀ x : List Int, ([x] : List (List Int)).length = 1 := fun _ => rfl
  have l2 : ∀ x : Int, ([x] : List Int).length = 1 := fun _ => rfl
  let Sn : Nat → Nat → Prop := fun a b => ∃ a' : Nat, a' < a ∧ Orb g K a' b
  have main : ∀ i : Nat, i ≤ g.length → ∃ (met : Nat) (r1 : List (List Int)) (r2 : List Bool), spec_ClassesOf.l0 0 0 g [] = spec_ClassesOf.l0 met i g r1 ∧ impl_Group_classes.l0 g.length 0 g [] (List.replicate g.length false) = impl_Group_classes.l0 g.length i g r1 r2 ∧ met < 256 ∧ r2.length = g.length ∧ r1.length ≤ i ∧ (∀ r ∈ r1, r.length ≤ 8) ∧ (∀ b : Nat, b < g.length → (met.testBit b = true ↔ Sn i b)) ∧ (∀ b : Nat, b < g.length → (Ty.rd .bool r2 (b : Int) = true ↔ Sn i b)) := by
    intro i
    induction i with
    | zero =>
      intro _
      refine ⟨0, [], List.replicate g.length false, rfl, rfl, by omega, by simp, by simp, by simp, fun b hb => ⟨fun h => by simp at h, fun ⟨a, ha, _⟩ => by omega⟩, fun b hb => ⟨fun h => ?_, fun ⟨a, ha, _⟩ => by omega⟩⟩
      exfalso
      have h : (List.replicate g.length false).getD (b : Int).toNat false = true := h
      simp only [Int.toNat_natCast, List.getD_eq_getElem?_getD, List.getElem?_replicate, if_pos hb, Option.getD_some] at h
      cases h
    | succ i ih =>
      intro hi
      obtain ⟨met, r1, r2, e1, e2, m8, k2, k1, kr, hm, hb⟩ := ih (by omega)
      have hmi := hm i (by omega)
      have hbi := hb i (by omega)
      have ht := bit_test m8 (show i < 8 by omega)
      have hwi := wr_nn (show i < 8 by omega)
      rw [e1, e2]
      by_cases hs : Sn i i
      · refine ⟨met, r1, r2, ?_, ?_, m8, k2, by omega, kr, ?_, ?_⟩
        · have h1 := ht.2 (hmi.2 hs)
          rw [spec_ClassesOf.l0_eq, spec_l01N.f_eq, Option.bind_some, wn (j := i) (by omega)]
          ((with_reducible repeat (first | refine go_pos (by first | assumption | omega | rfl | exact B_pos (by omega)) ?_ | refine go_neg (by first | assumption | omega | decide | exact B_not (by omega)) ?_ | refine go_bind (by first | assumption) ?_ | dsimp only)); first | done | (with_reducible rfl) | simp (disch := omega) only [w64] | (show False; done))
        · have h1 := hbi.2 hs
          rw [impl_Group_classes.l0_eq, wn (j := i) (by omega)]
          ((with_reducible repeat (first | refine go_pos (by first | assumption | omega | rfl | exact B_pos (by omega)) ?_ | refine go_neg (by first | assumption | omega | decide | exact B_not (by omega)) ?_ | refine go_bind (by first | assumption) ?_ | dsimp only)); first | done | (with_reducible rfl) | simp (disch := omega) only [w64] | (show False; done))
        all_goals
          intro b hb'
          first
          | rw [hm b hb']
          | rw [hb b hb']
          constructor
          · rintro ⟨a, ha, h⟩; exact ⟨a, by omega, h⟩
          · rintro ⟨a, ha, h⟩
            by_cases hai : a = i
            · subst hai
              obtain ⟨a', ha', h'⟩ := hs
              refine ⟨a', ha', ?_⟩
              have hbo : Orb g K a b := h
              obtain ⟨c, c0, c1, hc⟩ := hbo
              have hbr : (0 : Int) ≤ b ∧ (b : Int) < g.length := by omega
              have hab : Orb g K b a := orb_meet hg hK (by omega) (by omega) (by omega) (by omega) (orb_self hg hK (by omega) (by omega)) (by
                have := orb_meet hg hK (a := (b : Int)) (a' := (a : Int)) (b := (b : Int)) (by omega) (by omega) (by omega) (by omega) (orb_self hg hK (by omega) (by omega)) ⟨c, c0, c1, hc⟩
                exact orb_meet hg hK (a := (a : Int)) (a' := (b : Int)) (b := (b : Int)) (by omega) (by omega) (by omega) (by omega) ⟨c, c0, c1, hc⟩ (orb_self hg hK (by omega) (by omega)))
              exact orb_meet hg hK (a := (b : Int)) (a' := (a' : Int)) (b := (a : Int)) (by omega) (by omega) (by omega) (by omega) hab h'
            · exact ⟨a, by omega, h⟩
      ·
        have fresh : ∀ b : Nat, b < g.length → Orb g K i b → ¬ Sn i b := fun b hb' ho ⟨a', ha', ho'⟩ => hs ⟨a', ha', orb_meet hg hK (by omega) (by omega) (by omega) (by omega) ho ho'⟩
        have sp : ∀ c : Nat, c ≤ g.length → ∃ set : Nat, spec_ClassesOf.l1 met i 0 0 g r1 = spec_ClassesOf.l1 met i set c g r1 ∧ set < 256 ∧ ∀ x : Nat, set.testBit x = true ↔ ∃ d : Nat, d < c ∧ K d i = x := by
          intro c
          induction c with
          | zero => exact fun _ => ⟨0, rfl, by omega, fun x => ⟨fun h => by simp at h, fun ⟨d, hd, _⟩ => by omega⟩⟩
          | succ c ihc =>
            intro hc
            obtain ⟨set, f1, f2, f3⟩ := ihc (by omega)
            obtain ⟨⟨z0, z1⟩, _, _, hcj⟩ := hK c i (by omega) (by omega) (by omega) (by omega)
            obtain ⟨z, hz⟩ := Int.eq_ofNat_of_zero_le z0
            rw [hz] at hcj z1
            have z8 : z < 8 := by omega
            have hwz := wr_nn z8
            have p2 : 2 ^ z < 256 := Nat.pow_lt_pow_right (by omega) (by omega : z < 8)
            refine ⟨set ||| 2 ^ z, ?_, Nat.or_lt_two_pow (n := 8) f2 p2, fun x => ?_⟩
            · rw [f1, spec_ClassesOf.l1_eq, spec_l01N.f_eq, Option.bind_some, hcj, Option.bind_some, shl_one z8, orI_nat f2 p2, wn (j := c) (by omega)]
              ((with_reducible repeat (first | refine go_pos (by first | assumption | omega | rfl | exact B_pos (by omega)) ?_ | refine go_neg (by first | assumption | omega | decide | exact B_not (by omega)) ?_ | refine go_bind (by first | assumption) ?_ | dsimp only)); first | done | (with_reducible rfl) | simp (disch := omega) only [w64] | (show False; done))
            · rw [or_testBit_one, f3]
              constructor
              · rintro (⟨d, hd, h⟩ | h)
                · exact ⟨d, by omega, h⟩
                · exact ⟨c, by omega, by rw [hz, h]⟩
              · rintro ⟨d, hd, h⟩
                by_cases hdc : d = c
                · subst hdc; right; rw [hz] at h; exact (Int.ofNat.inj h).symm
                · exact .inl ⟨d, by omega, h⟩
        have im : ∀ c : Nat, c ≤ g.length → ∃ (q2 : List Bool) (q3 : List Int), impl_Group_classes.l1 i g.length i g.length 0 g r1 r2 [] = impl_Group_classes.l1 i g.length i g.length c g r1 q2 q3 ∧ q2.length = g.length ∧ q3.length ≤ c ∧ q3.Nodup ∧ (∀ x : Int, x ∈ q3 ↔ ∃ d : Nat, d < c ∧ K d i = x) ∧ ∀ b : Nat, b < g.length → (Ty.rd .bool q2 (b : Int) = true ↔ Sn i b ∨ (b : Int) ∈ q3) := by
          intro c
          induction c with
          | zero => exact fun _ => ⟨r2, [], rfl, k2, by simp, List.nodup_nil, fun x => ⟨fun h => (by cases h), fun ⟨d, hd, _⟩ => by omega⟩, fun b hb' => by rw [hb b hb']; simp⟩
          | succ c ihc =>
            intro hc
            obtain ⟨q2, q3, f1, f2, f3, f4, f5, f6⟩ := ihc (by omega)
            obtain ⟨⟨z0, z1⟩, _, hcj, _⟩ := hK c i (by omega) (by omega) (by omega) (by omega)
            obtain ⟨z, hz⟩ := Int.eq_ofNat_of_zero_le z0
            have hzo : Orb g K i z := ⟨c, by omega, by omega, hz⟩
            rw [hz] at hcj z1
            have hfz := fresh z (by omega) hzo
            by_cases hin : (z : Int) ∈ q3
            · have h1 := (f6 z (by omega)).2 (.inr hin)
              refine ⟨q2, q3, ?_, f2, by omega, f4, fun x => ?_, f6⟩
              · rw [f1, impl_Group_classes.l1_eq, hcj, Option.bind_some, wn (j := c) (by omega)]
                ((with_reducible repeat (first | refine go_pos (by first | assumption | omega | rfl | exact B_pos (by omega)) ?_ | refine go_neg (by first | assumption | omega | decide | exact B_not (by omega)) ?_ | refine go_bind (by first | assumption) ?_ | dsimp only)); first | done | (with_reducible rfl) | simp (disch := omega) only [w64] | (show False; done))
              · rw [f5]
                constructor
                · rintro ⟨d, hd, h⟩; exact ⟨d, by omega, h⟩
                · rintro ⟨d, hd, h⟩
                  by_cases hdc : d = c
                  · subst hdc; rw [hz] at h; rw [← h]; exact (f5 _).1 hin
                  · exact ⟨d, by omega, h⟩
            · have h1 : ¬ Ty.rd .bool q2 (z : Int) = true := fun q => ((f6 z (by omega)).1 q).elim hfz hin
              refine ⟨q2.set z true, q3 ++ [(z : Int)], ?_, by rw [List.length_set, f2], by rw [List.length_append, l2]; omega, ?_, fun x => ?_, fun b hb' => ?_⟩
              · rw [f1, impl_Group_classes.l1_eq, hcj, Option.bind_some, wn (j := c) (by omega), Int.toNat_natCast, l2]
                ((with_reducible repeat (first | refine go_pos (by first | assumption | omega | rfl | exact B_pos (by omega)) ?_ | refine go_neg (by first | assumption | omega | decide | exact B_not (by omega)) ?_ | refine go_bind (by first | assumption) ?_ | dsimp only)); first | done | (with_reducible rfl) | simp (disch := omega) only [w64] | (show False; done))
              · rw [List.nodup_append]
                refine ⟨f4, by simp, fun a ha b hb'' => ?_⟩
                rw [List.mem_singleton.1 hb'']
                intro h; subst h; exact hin ha
              · rw [List.mem_append, List.mem_singleton, f5]
                constructor
                · rintro (⟨d, hd, h⟩ | h)
                  · exact ⟨d, by omega, h⟩
                  · exact ⟨c, by omega, by rw [hz, h]⟩
                · rintro ⟨d, hd, h⟩
                  by_cases hdc : d = c
                  · subst hdc; right; rw [hz] at h; exact h.symm
                  · exact .inl ⟨d, by omega, h⟩
              · rw [rb_set (by omega), f6 b hb', List.mem_append, List.mem_singleton]
                constructor
                · rintro ((h | h) | h)
                  · exact .inl h
                  · exact .inr (.inl h)
                  · exact .inr (.inr (by rw [h]))
                · rintro (h | h | h)
                  · exact .inl (.inl h)
                  · exact .inl (.inr h)
                  · exact .inr (Int.ofNat.inj h)
        obtain ⟨set, f1, f2, f3⟩ := sp g.length (Nat.le_refl _)
        obtain ⟨q2, q3, h1, h2, h3, h4, h5, h6⟩ := im g.length (Nat.le_refl _)
        obtain ⟨ys, s1, s2, s3, s4⟩ := sort_ q3 (by omega) h4
        have hys : ys = elems set := sorted_unique _ _ s3 (elems_sorted set) fun x => by
          rw [s4, h5, elems_mem]
          constructor
          · rintro ⟨d, hd, h⟩
            obtain ⟨⟨z0, z1⟩, _⟩ := hK d i (by omega) (by omega) (by omega) (by omega)
            obtain ⟨z, hz⟩ := Int.eq_ofNat_of_zero_le z0
            exact ⟨z, by omega, (f3 z).2 ⟨d, hd, hz⟩, by rw [← h, hz]⟩
          · rintro ⟨a, _, ha, rfl⟩
            exact (f3 a).1 ha
        rw [hys] at s1
        have hLs := List_ f2
        have hel := elems_len set
        have orbs : ∀ b : Nat, b < g.length → (Sn (i + 1) b ↔ Sn i b ∨ ∃ d : Nat, d < g.length ∧ K d i = b) := fun b hb' => by
          constructor
          · rintro ⟨a, ha, h⟩
            by_cases hai : a = i
            · subst hai
              obtain ⟨c, c0, c1, hc⟩ := h
              obtain ⟨d, rfl⟩ := Int.eq_ofNat_of_zero_le c0
              exact .inr ⟨d, by omega, hc⟩
            · exact .inl ⟨a, by omega, h⟩
          · rintro (⟨a, ha, h⟩ | ⟨d, hd, h⟩)
            · exact ⟨a, by omega, h⟩
            · exact ⟨i, by omega, d, by omega, by omega, h⟩
        refine ⟨met ||| set, r1 ++ [elems set], q2, ?_, ?_, Nat.or_lt_two_pow (n := 8) m8 f2, h2, by rw [List.length_append, l3]; omega, fun r hr' => ?_, fun b hb' => ?_, fun b hb' => ?_⟩
        · have hno := fun q => hs (hmi.1 (ht.1 q))
          rw [spec_ClassesOf.l0_eq, spec_l01N.f_eq, Option.bind_some]
          (with_reducible repeat (first | refine go_pos (by first | assumption | omega | rfl | exact B_pos (by omega)) ?_ | refine go_neg (by first | assumption | omega | decide | exact B_not (by omega)) ?_ | refine go_bind (by first | assumption) ?_ | dsimp only))
          rw [f1, spec_ClassesOf.l1_eq, spec_l01N.f_eq, Option.bind_some, hLs, Option.bind_some, l3, orI_nat m8 f2, wn (j := i) (by omega)]
          ((with_reducible repeat (first | refine go_pos (by first | assumption | omega | rfl | exact B_pos (by omega)) ?_ | refine go_neg (by first | assumption | omega | decide | exact B_not (by omega)) ?_ | refine go_bind (by first | assumption) ?_ | dsimp only)); first | done | (with_reducible rfl) | simp (disch := omega) only [w64] | (show False; done))
        · have hno := fun q => hs (hbi.1 q)
          rw [impl_Group_classes.l0_eq, impl_order.f_eq, Option.bind_some]
          (with_reducible repeat (first | refine go_pos (by first | assumption | omega | rfl | exact B_pos (by omega)) ?_ | refine go_neg (by first | assumption | omega | decide | exact B_not (by omega)) ?_ | refine go_bind (by first | assumption) ?_ | dsimp only))
          rw [h1, impl_Group_classes.l1_eq, s1, Option.bind_some, l3, wn (j := i) (by omega)]
          ((with_reducible repeat (first | refine go_pos (by first | assumption | omega | rfl | exact B_pos (by omega)) ?_ | refine go_neg (by first | assumption | omega | decide | exact B_not (by omega)) ?_ | refine go_bind (by first | assumption) ?_ | dsimp only)); first | done | (with_reducible rfl) | simp (disch := omega) only [w64] | (show False; done))
        · rcases List.mem_append.1 hr' with h | h
          · exact kr r h
          · rw [List.mem_singleton.1 h]; exact hel
        · rw [Nat.testBit_or, Bool.or_eq_true, hm b hb', f3, orbs b hb']
        · rw [h6 b hb', h5, orbs b hb']
  obtain ⟨met, r1, r2, e1, e2, _, k2, k1, kr, _, _⟩ := main g.length (Nat.le_refl _)
  have hC : impl_Group_classes.f g = some r1 := by
    rw [impl_Group_classes.f_eq, impl_order.f_eq, Option.bind_some, Option.bind_some, Int.toNat_natCast]
    (with_reducible repeat (first | refine go_pos (by first | assumption | omega | rfl | exact B_pos (by omega)) ?_ | refine go_neg (by first | assumption | omega | decide | exact B_not (by omega)) ?_ | refine go_bind (by first | assumption) ?_ | dsimp only))
    rw [e2, impl_Group_classes.l0_eq]
    ((with_reducible repeat (first | refine go_pos (by first | assumption | omega | rfl | exact B_pos (by omega)) ?_ | refine go_neg (by first | assumption | omega | decide | exact B_not (by omega)) ?_ | refine go_bind (by first | assumption) ?_ | dsimp only)); first | done | (with_reducible rfl) | simp (disch := omega) only [w64] | (show False; done))
  refine ⟨r1, 0, ?_, by ((with_reducible repeat (first | refine go_pos (by first | assumption | omega | rfl | exact B_pos (by omega)) ?_ | refine go_neg (by first | assumption | omega | decide | exact B_not (by omega)) ?_ | refine go_bind (by first | assumption) ?_ | dsimp only)); first | done | (with_reducible rfl) | simp (disch := omega) only [w64] | (show False; done)), by omega, fun r h => by have := kr r h; omega⟩
  (with_reducible repeat (first | refine go_pos (by first | assumption | omega | rfl | exact B_pos (by omega)) ?_ | refine go_neg (by first | assumption | omega | decide | exact B_not (by omega)) ?_ | refine go_bind (by first | assumption) ?_ | dsimp only))
  rw [e1, spec_ClassesOf.l0_eq, spec_l01N.f_eq, Option.bind_some]
  ((with_reducible repeat (first | refine go_pos (by first | assumption | omega | rfl | exact B_pos (by omega)) ?_ | refine go_neg (by first | assumption | omega | decide | exact B_not (by omega)) ?_ | refine go_bind (by first | assumption) ?_ | dsimp only)); first | done | (with_reducible rfl) | simp (disch := omega) only [w64] | (show False; done))
end Go.Proofs.Ytdiadcmkddkjpaa.V
set_option linter.unusedVariables false
set_option linter.unusedSimpArgs false
set_option maxHeartbeats 4000000
set_option maxRecDepth 20000
namespace Go.Proofs.Ytdiadcmkddkjpaa.Pure
open Go.RowKit Go.Proofs.Ytdiadcmkddkjpaa.D Go.Proofs.Ytdiadcmkddkjpaa.P Go.Proofs.Ytdiadcmkddkjpaa.V
theorem FnExactClassesOf_pure : ∀ (g0 : List (List Int)), g0.length ≤ maxLen → (∀ r ∈ g0, r.length ≤ maxLen ∧ ∀ x ∈ r, (Lit.int .i64 x).wf = true) → laws_FnExactClassesOf.f g0 = some true := by
  intro g0 hl0 hq0
  have hr0 : ∀ r ∈ g0, r.length ≤ maxLen := fun r h => (hq0 r h).1
  rw [laws_FnExactClassesOf.f_eq]
  obtain ⟨t0, e0, z0⟩ := szGroup g0 1048576 hl0 hr0 (by omega) (by omega)
  rcases z0 with z0 | ⟨ta0, tb0, kl0, kr0⟩
  · ((with_reducible repeat (first | refine go_pos (by first | assumption | omega | rfl | exact B_pos (by omega)) ?_ | refine go_neg (by first | assumption | omega | decide | exact B_not (by omega)) ?_ | refine go_bind (by first | assumption) ?_ | dsimp only)); first | done | (with_reducible rfl) | simp (disch := omega) only [w64] | (show False; done))
  obtain ⟨R0, c1, hS, hI, rb0, rc0⟩ := same_ClassesOf g0 hl0 hr0
  have eT0 := toGroup g0 kl0 kr0
  have eS0 := same_Group g0 hl0 hr0
  have eN0 := tot_small kl0 kr0
  have eK0 := markGroup g0 (1) (by omega) (by omega) (by omega)
  have rS0 := same_Rows R0 (le_maxLen (by omega)) (fun r h => le_maxLen (by have := rc0 r h; omega))
  have rN0 := tot_small rb0 rc0
  have rK0 := markSS R0 (1) (by omega) (by omega) (by omega)
  have rH0 := heldSS R0 (1) (by omega) (by omega) (by omega)
  ((with_reducible repeat (first | refine go_pos (by first | assumption | omega | rfl | exact B_pos (by omega)) ?_ | refine go_neg (by first | assumption | omega | decide | exact B_not (by omega)) ?_ | refine go_bind (by first | assumption) ?_ | dsimp only)); first | done | (with_reducible rfl) | simp (disch := omega) only [w64] | (show False; done))
end Go.Proofs.Ytdiadcmkddkjpaa.Pure
