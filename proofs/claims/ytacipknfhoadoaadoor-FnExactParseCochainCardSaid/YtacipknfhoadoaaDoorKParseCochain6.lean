/- What the proof of the law ParseCochain stands on, part 6: words, each Go function's Lean function, and that the Go code comes to its answers; no condition. (Packed by wip/myprint/pack.py out of what the kit's printer wrote, its words among it, partly by our patches of it, and out of texts of this session.) -/
import Derived.ChangeSlices
import Derived.ChangeSame
import Derived.Deep.Matrix
import Derived.Lib.SmallJoins
import Derived.Lib.Join
import Derived.Test.YtacipknfhoadoaaDoorKParseCochain3
import Derived.Test.YtacipknfhoadoaaDoorKParseCochain5
set_option linter.unusedVariables false
namespace Go.Proofs.YtacipknfhoadoaaDoor.D
open Go Go.RowKit
theorem valid_view {P : Program} {g : FuncId} {c : Con} (hv : Valid P g c) {x : lsd (flats c.ins)} {r : c.R} (hx : c.f x = some r) {w : World} {vs : List Value} (ha : ASRs P (fun _ => False) (fun k => k < w.heap.size) w c.ins x vs (fun _ => False)) :
    Calls P g vs.toArray w fun e w' => ∃ u, e = .returned u ∧ Below w.heap.size w w' ∧ ∃ Z' Fo us, u = outV us ∧ ASRs P (fun _ => False) Z' w' c.outs (c.dec r).1 us Fo := by
  refine (hv.2 x r hx (fun k => k < w.heap.size) (fun _ => False) (fun _ => False) w vs ha (fun _ h => h.elim) (fun _ h => h) (fun _ h => h.elim)).mono ?_
  rintro e w' ⟨u, rfl, Z', Fi, Fo, hp⟩
  obtain ⟨us, hu, ho⟩ := hp.out
  exact ⟨u, rfl, ⟨hp.os, hp.tape, hp.output, hp.size, fun k hk => hp.old k hk fun h => h⟩, Z', Fo, us, hu, ho⟩
theorem cell_lt {w : World} {a : Addr} {v : Value} (h : w.cell? a = some v) : a.block < w.heap.size := by
  unfold World.cell? at h
  cases hb : w.heap[a.block]? with
  | none => rw [hb] at h; cases h
  | some o => exact (Array.getElem?_eq_some_iff.1 hb).1
theorem view_raw {α : Type} {w : World} {sz : Nat} {R : α → List Value → Prop} {A : Option Addr} {c : Nat} {xs : List α} (hz : 0 < sz) (hc : xs.length ≤ c) (hm : xs.length ≤ 9223372036854775807)
    (h : 0 < xs.length → ∃ ad, A = some ad ∧ ∀ (j : Nat) (p : α), xs[j]? = some p → ∃ cs, cs.length = sz ∧ R p cs ∧ ∀ (i : Nat) (u : Value), cs[i]? = some u → w.cell? (ad.add (j * sz + i)) = some u) : ViewRep (fun k => k < w.heap.size) w sz R A c xs := by
  refine ⟨hc, hm, fun hl => ?_⟩
  obtain ⟨ad, rfl, hcell⟩ := h hl
  refine ⟨ad, rfl, ?_, hcell⟩
  obtain ⟨cs, h1, h2, h3⟩ := hcell 0 xs[0] (List.getElem?_eq_getElem hl)
  have := cell_lt (h3 0 cs[0] (List.getElem?_eq_getElem (by omega)))
  rwa [add_block] at this
theorem law_true {P : Program} {g : FuncId} {c : Con} (hv : Valid P g c) {x : lsd (flats c.ins)} {r : c.R} (hx : c.f x = some r) {w : World} {vs : List Value} (ha : ASRs P (fun _ => False) (fun k => k < w.heap.size) w c.ins x vs (fun _ => False)) (ho : c.outs = [.one (.v .bool)]) (hr : ∀ y : lsd (flats [.one (.v .bool)]), HEq y (c.dec r).1 → y.1 = true) :
    Calls P g vs.toArray w fun e w' => e = .returned (.bool true) ∧ Below w.heap.size w w' := by
  refine (valid_view hv hx ha).mono ?_
  rintro e w' ⟨u, rfl, hb, Z', Fo, us, rfl, hh⟩
  refine ⟨?_, hb⟩
  obtain ⟨ins, outs, R, f, dec⟩ := c
  have ho : outs = [.one (.v .bool)] := ho
  subst ho
  obtain ⟨v, vs', F0, F1, rfl, h1, h2, _⟩ := hh
  cases h2
  have h1 : [v] = [.bool (dec r).1.1] := h1
  have hb1 : (dec r).1.1 = true := hr _ HEq.rfl
  cases h1
  rw [hb1]
  rfl
end Go.Proofs.YtacipknfhoadoaaDoor.D
set_option linter.unusedVariables false
namespace Go.Proofs.YtacipknfhoadoaaDoor.D
open Go Go.RowKit Go.ChangeShapes Go.WideShapes Go.Joins Go.Deep
section
variable {H : Type} {enc : TypeId × Value → H} {P : Program} {w : World} {base : Nat} {held : Bool}
abbrev Zw (w : World) : Nat → Prop := fun k => k < w.heap.size
abbrev No : Nat → Prop := fun _ => False
theorem rep_ints {q : TypeId} (hn : nf q = false) {k : IntKind} {a : Addr} {len cap : Nat} {zs : List Int} (hl : len ≤ cap) (hm : cap ≤ maxLen) (hz : zs.length = cap) (hc : ∀ i, i < zs.length → w.cell? (a.add i) = some (.int k (zs.getD i 0))) (hw : ∀ n ∈ zs, (Lit.int k n).wf = true) :
    ∃ l : List Int, len = l.length ∧ l.length ≤ maxLen ∧ (∀ x ∈ l, (Lit.int k x).wf = true) ∧ Rep (Zw w) w false (.sl q (.int k)) l [.slice (some a) len cap] No := by
  have hlen : (zs.take len).length = len := by rw [List.length_take]; omega
  refine ⟨zs.take len, hlen.symm, by omega, fun x hx => hw x (List.mem_of_mem_take hx), some a, cap, by rw [hlen], ?_, fun h => by rw [hn] at h; cases h⟩
  refine view_raw Nat.one_pos (by show (zs.take len).length ≤ _; omega) (by show (zs.take len).length ≤ _; simp only [maxLen] at hm; omega) fun _ => ⟨a, rfl, fun j p hj => ?_⟩
  have hj : (zs.take len)[j]? = some p := hj
  have hjl : j < len := by
    have := (List.getElem?_eq_some_iff.1 hj).1
    omega
  refine ⟨[.int k p], rfl, rfl, fun i u hu => ?_⟩
  cases i with
  | zero =>
    simp only [List.getElem?_cons_zero, Option.some.injEq] at hu
    subst hu
    have h := hc j (by omega)
    have hp : zs.getD j 0 = p := by
      rw [List.getElem?_take] at hj
      simp only [hjl, if_true] at hj
      simp [List.getD, hj]
    rw [hp] at h
    simpa [Ty.size] using h
  | succ i => simp at hu
theorem rep_none {q : TypeId} {t : Ty} : Rep (Zw w) w false (.sl q t) ([] : List t.den) [.slice none 0 0] No :=
  ⟨none, 0, rfl, ⟨Nat.le_refl _, Nat.zero_le _, fun h => absurd h (by simp)⟩, fun _ _ => rfl⟩
theorem come_ints {t e : TypeId} {k : IntKind} {fuel : Nat} {v : Value} {x : DataW H × List MemPlace} (ht : P.underlying t = some (.slice e)) (he : P.underlying e = some (.int k)) (hc : P.cellsOf e = 1)
    (h : DataW.trod enc P w base (fun _ => true) held fuel t [v] = some x) (hn : nf e = false := by rfl) :
    ∃ l : List Int, l.length ≤ maxLen ∧ (∀ x ∈ l, (Lit.int k x).wf = true) ∧ Rep (Zw w) w false (.sl e (.int k)) l [v] No := by
  rcases open_ints ht he hc h with ⟨hcs, _⟩ | ⟨a, len, cap, zs, hcs, _, hl, hm, hz, _, hcell, hw⟩
  · refine ⟨[], by simp, by simp, ?_⟩
    rw [hcs]
    exact rep_none
  · simp only [if_true] at hz
    obtain ⟨l, h1, h2, h3, h4⟩ := rep_ints (q := e) hn hl hm hz hcell hw
    exact ⟨l, h2, h3, by rw [hcs]; exact h4⟩
theorem come_rows {t e q : TypeId} {k : IntKind} {fuel : Nat} {v : Value} {x : DataW H × List MemPlace} (ht : P.underlying t = some (.slice e)) (he : P.underlying e = some (.slice q)) (hq : P.underlying q = some (.int k))
    (ce : P.cellsOf e = 1) (cq : P.cellsOf q = 1) (h : DataW.trod enc P w base (fun _ => true) held fuel t [v] = some x) (hne : nf e = false := by rfl) (hn : nf q = false := by rfl) :
    ∃ l : List (List Int), l.length ≤ maxLen ∧ (∀ r ∈ l, r.length ≤ maxLen ∧ ∀ x ∈ r, (Lit.int k x).wf = true) ∧ Rep (Zw w) w false (.sl e (.sl q (.int k))) l [v] No := by
  rcases open_int_rows ht he hq ce cq h with ⟨hcs, _⟩ | ⟨a, len, cap, A, L, C, Z, hcs, _, hl, hm, _, hr⟩
  · refine ⟨[], by simp, by simp, ?_⟩
    rw [hcs]
    exact rep_none
  · have each : ∀ r, r < cap → ∃ y : List Int, y.length ≤ maxLen ∧ (∀ x ∈ y, (Lit.int k x).wf = true) ∧ Rep (Zw w) w false (.sl q (.int k)) y [.slice (A r) (L r) (C r)] No := by
      intro r hrc
      obtain ⟨_, h1, h2, h3, h4, h5, h6⟩ := hr r hrc
      cases hA : A r with
      | none =>
        have hC := h5 hA
        refine ⟨[], by simp, by simp, ?_⟩
        have hL : L r = 0 := by omega
        rw [hL, hC]
        exact rep_none
      | some a' =>
        obtain ⟨l, _, h7, h8, h9⟩ := rep_ints (q := q) hn h1 h2 h3 (fun i hi => (h6 a' hA).2 i (by omega)) h4
        exact ⟨l, h7, h8, h9⟩
    obtain ⟨Y, hY⟩ := choose_lt each
    have hlen : ((List.range len).map Y).length = len := by simp
    refine ⟨(List.range len).map Y, by omega, fun r hr' => ?_, ?_⟩
    · obtain ⟨j, hj, rfl⟩ := List.mem_map.1 hr'
      obtain ⟨h1, h2, _⟩ := hY j (by have := List.mem_range.1 hj; omega)
      exact ⟨h1, h2⟩
    · rw [hcs]
      refine ⟨some a, cap, by rw [hlen], ?_, fun h => by rw [hne] at h; cases h⟩
      refine view_raw Nat.one_pos (by show ((List.range len).map Y).length ≤ _; omega) (by show ((List.range len).map Y).length ≤ _; simp only [maxLen] at hm; omega) fun _ => ⟨a, rfl, fun j p hj => ?_⟩
      have hj : ((List.range len).map Y)[j]? = some p := hj
      have hjl : j < len := by
        have := (List.getElem?_eq_some_iff.1 hj).1
        omega
      have hp : p = Y j := by simpa [hjl] using hj.symm
      subst hp
      obtain ⟨h1, h2, h3⟩ := hY j (by omega)
      refine ⟨[.slice (A j) (L j) (C j)], rfl, h3, fun i u hu => ?_⟩
      cases i with
      | zero =>
        simp only [List.getElem?_cons_zero, Option.some.injEq] at hu
        subst hu
        have := (hr j (by omega)).1
        simpa [Ty.size] using this
      | succ i => simp at hu
theorem come_int {t : TypeId} {k : IntKind} {fuel : Nat} {v : Value} {x : DataW H × List MemPlace} (ht : P.underlying t = some (.int k)) (h : DataW.trod enc P w base (fun _ => true) held fuel t [v] = some x) : ∃ n : Int, (Lit.int k n).wf = true ∧ Rep (Zw w) w false (.int k) n [v] No := by
  obtain ⟨n, h1, _, h2⟩ := DataW.trod_int ht h
  exact ⟨n, h2, h1⟩
theorem open_agg1 {r : Reach} {b0 : Nat} {t : TypeId} {f0 : Field} {v : Value} {d : DataW H} {p : List MemPlace} {spare : Nat → Bool} (hs : P.underlying t = some (.struct #[f0])) (hone : oneCellFields P #[f0] = true) (hC : P.cellsOf t = 1)
    (hv : Value.okWide P w r b0 t v) (h : DataW.Trod enc P w base spare held t v d p) :
    ∃ (v0 : Value) (y0 : DataW H × List MemPlace) (n : Nat), v = .agg #[v0] ∧ DataW.trod enc P w base spare held n f0.type [v0] = some y0 := by
  obtain ⟨cs, rfl, hsz⟩ := okWide_struct hs hv
  have hsz1 : cs.size = 1 := hsz.trans hC
  obtain ⟨c0, rfl⟩ : ∃ c0, cs = #[c0] := by
    obtain ⟨l⟩ := cs
    match l, hsz1 with
    | [c0], _ => exact ⟨c0, rfl⟩
  obtain ⟨fuel, hf⟩ := h
  obtain ⟨y0, n, hx, _, h0⟩ := trod_struct1 hs hf
  obtain ⟨o0, k0⟩ := hone_of hone 0 f0 rfl
  exact ⟨c0, y0, n, rfl, by simpa [Value.cells, o0, k0] using h0⟩
theorem args_nil : ASRs P No (Zw w) w [] () [] No := rfl
theorem args_one {t : Ty} {x : t.den} {v : Value} {ins : List ASh} {y : lsd (flats ins)} {vs : List Value} (h : Rep (Zw w) w false t x [v] No) (hr : ASRs P No (Zw w) w ins y vs No) : ASRs P No (Zw w) w (.one (.v t) :: ins) (x, y) (v :: vs) No :=
  ⟨v, vs, No, No, rfl, h, hr, fun _ h => h, fun _ h => h, fun _ h => h.elim⟩
theorem args_agg1 {t : Ty} {x : t.den} {v : Value} {ins : List ASh} {y : lsd (flats ins)} {vs : List Value} (h : Rep (Zw w) w false t x [v] No) (hr : ASRs P No (Zw w) w ins y vs No) : ASRs P No (Zw w) w (.agg [.v t] :: ins) (x, y) (.agg #[v] :: vs) No :=
  ⟨.agg #[v], vs, No, No, rfl, ⟨[v], rfl, v, [], No, No, rfl, h, rfl, fun _ h => h, fun _ h => h, fun _ h => h.elim⟩, hr, fun _ h => h, fun _ h => h, fun _ h => h.elim⟩
theorem args_agg2 {t t' : Ty} {x : t.den} {x' : t'.den} {v v' : Value} {ins : List ASh} {y : lsd (flats ins)} {vs : List Value} (h : Rep (Zw w) w false t x [v] No) (h' : Rep (Zw w) w false t' x' [v'] No) (hr : ASRs P No (Zw w) w ins y vs No) : ASRs P No (Zw w) w (.agg [.v t, .v t'] :: ins) (x, x', y) (.agg #[v, v'] :: vs) No :=
  ⟨.agg #[v, v'], vs, No, No, rfl, ⟨[v, v'], rfl, v, [v'], No, No, rfl, h, ⟨v', [], No, No, rfl, h', rfl, fun _ h => h, fun _ h => h, fun _ h => h.elim⟩, fun _ h => h, fun _ h => h, fun _ h => h.elim⟩, hr, fun _ h => h, fun _ h => h, fun _ h => h.elim⟩
end
end Go.Proofs.YtacipknfhoadoaaDoor.D
set_option linter.unusedVariables false
namespace Go.Proofs.YtacipknfhoadoaaDoor.D
open Go Go.RowKit
theorem valid_str2 {P : Program} {g : FuncId} {F : ByteArray → ByteArray → Option Int} (hc : Callable P g) (h : ∀ (x y : ByteArray) (r : Int) (w : World), F x y = some r → Calls P g #[.string x, .string y] w fun e w' => e = .returned (.int .i64 r) ∧ w' = w) :
    Valid P g ⟨[.one (.v .str), .one (.v .str)], [.one (.v (.int .i64))], Int, fun x => F x.1 x.2.1, fun r => ((r, ()), ())⟩ := by
  refine ⟨hc, fun x r hx Z B S w vs ha hS hZ hB => ?_⟩
  obtain ⟨v, vs', F0, F1, rfl, h1, ⟨v2, vs2, F2, F3, rfl, h2, h3, _⟩, _⟩ := ha
  cases h3
  have h1 : [v] = [.string x.1] := h1
  cases h1
  have h2 : [v2] = [.string x.2.1] := h2
  cases h2
  refine (h x.1 x.2.1 r w hx).mono ?_
  rintro e w' ⟨rfl, rfl⟩
  refine ⟨_, rfl, Z, fun _ => False, fun _ => False, ⟨⟨_, _, fun _ => False, fun _ => False, rfl, trivial, ⟨_, [], fun _ => False, fun _ => False, rfl, trivial, trivial, fun _ h => h, fun _ h => h, fun _ h => h.elim⟩, fun _ h => h, fun _ h => h, fun _ h => h.elim⟩, ⟨[.int .i64 r], rfl, _, [], fun _ => False, fun _ => False, rfl, rfl, rfl, fun _ h => h, fun _ h => h, fun _ h => h.elim⟩, fun _ h => h.elim, fun _ h => (h.elim id id : False).elim, fun _ h => h, fun k hk => ⟨.inl hk, hZ k hk⟩, rfl, rfl, rfl, Nat.le_refl _, fun _ _ _ => rfl⟩⟩
theorem one_byte {y : ByteArray} (h : y.size = 1) : y = ⟨#[y.data.getD 0 0]⟩ := by
  cases y with
  | mk d =>
    have hd : d.size = 1 := h
    congr 1
    apply Array.ext
    · simpa using hd
    · intro i h1 h2
      obtain rfl : i = 0 := by omega
      simp [Array.getD_eq_getD_getElem?, Array.getElem?_eq_getElem h1]
end Go.Proofs.YtacipknfhoadoaaDoor.D
set_option linter.unusedVariables false
namespace Go.Proofs.YtacipknfhoadoaaDoor.P
open Go Go.RowKit Go.Proofs.YtacipknfhoadoaaDoor.D
noncomputable def stringslite_Index.f (a0 a1 : ByteArray) : Option Int := if a1.size = 1 then some (Lib.indexByte a0.data.toList (a1.data.getD 0 0)) else none
noncomputable def stringslite_Index.con : Con := ⟨[.one (.v .str), .one (.v .str)], [.one (.v (.int .i64))], Int, fun x => stringslite_Index.f x.1 x.2.1, fun r => ((r, ()), (()))⟩
theorem stringslite_Index.valid : Valid Tryd.prog 74 stringslite_Index.con := valid_str2 (F := stringslite_Index.f) ⟨_, Tryd.func74, by kernel_rfl, by kernel_rfl⟩ fun x y r w h => by
  unfold stringslite_Index.f at h
  split at h
  · rename_i hc
    cases h
    generalize hb : y.data.getD 0 0 = b
    have hy := one_byte hc
    rw [hb] at hy
    subst hy
    exact Tryd.stringslite_Index_one x b w
  · cases h
end Go.Proofs.YtacipknfhoadoaaDoor.P
set_option linter.unusedVariables false
namespace Go.Proofs.YtacipknfhoadoaaDoor.P
open Go Go.RowKit Go.Proofs.YtacipknfhoadoaaDoor.D
noncomputable def stringslite_Cut.E : Env := { tt := TT, con := [(74, stringslite_Index.con)], frz := [], rows := [], live := [], n := 23, pin := 0, nils := [] }
noncomputable def stringslite_Cut.fn : D.Fn := { body := Tryd.f61.body.getD .skip, res := Tryd.f61.results.toList, ins := [.one (.v .str), .one (.v .str)], outs := [.one (.v .str), .one (.v .str), .one (.v .bool)] }
def stringslite_Cut.enc (y : lsd (flats stringslite_Cut.fn.outs) × lsd (ios stringslite_Cut.fn.ins)) : ByteArray × ByteArray × Bool := (y.1.1, y.1.2.1, y.1.2.2.1)
noncomputable def stringslite_Cut.f (a0 : ByteArray) (a1 : ByteArray) : Option (ByteArray × ByteArray × Bool) := denF stringslite_Cut.E stringslite_Cut.fn stringslite_Cut.enc (a0, a1, ())
set_option maxRecDepth 100000 in
theorem stringslite_Cut.f_eq (a0 : ByteArray) (a1 : ByteArray) : stringslite_Cut.f a0 a1 = (stringslite_Index.f a0 a1).bind fun t10 => if t10 ≥ 0 then (if 0 ≤ t10 then (if t10 ≤ (a0.size : Int) then (if 0 ≤ wrapI (t10 + (a1.size : Int)) then (if wrapI (t10 + (a1.size : Int)) ≤ (a0.size : Int) then (some (a0.extract 0 (t10 : Int).toNat, a0.extract (wrapI (t10 + (a1.size : Int)) : Int).toNat a0.size, true)) else none) else none) else none) else none) else (some (a0, (⟨#[]⟩ : ByteArray), false)) := by kernel_rfl
noncomputable def stringslite_Cut.con : Con := ⟨stringslite_Cut.fn.ins, stringslite_Cut.fn.outs, ByteArray × ByteArray × Bool, fun x => stringslite_Cut.f x.1 x.2.1, fun r => ((r.1, r.2.1, r.2.2, ()), (()))⟩
theorem stringslite_Cut.valid : Valid Tryd.prog 61 stringslite_Cut.con := fn_valid (f := stringslite_Cut.fn) (E := stringslite_Cut.E) (enc := stringslite_Cut.enc) ⟨ttOk, (conCons stringslite_Index.valid conNil)⟩ (Checked.mixed Tryd.checked) ⟨Tryd.func61, by kernel_rfl, by kernel_rfl, by kernel_rfl, by kernel_rfl, by decide, by kernel_rfl, by kernel_rfl⟩ (fun _ => rfl)
end Go.Proofs.YtacipknfhoadoaaDoor.P
set_option linter.unusedVariables false
namespace Go.Proofs.YtacipknfhoadoaaDoor.P
open Go Go.RowKit Go.Proofs.YtacipknfhoadoaaDoor.D
noncomputable def strings_Cut.E : Env := { tt := TT, con := [(61, stringslite_Cut.con)], frz := [], rows := [], live := [], n := 13, pin := 0, nils := [] }
noncomputable def strings_Cut.fn : D.Fn := { body := Tryd.f48.body.getD .skip, res := Tryd.f48.results.toList, ins := [.one (.v .str), .one (.v .str)], outs := [.one (.v .str), .one (.v .str), .one (.v .bool)] }
def strings_Cut.enc (y : lsd (flats strings_Cut.fn.outs) × lsd (ios strings_Cut.fn.ins)) : ByteArray × ByteArray × Bool := (y.1.1, y.1.2.1, y.1.2.2.1)
noncomputable def strings_Cut.f (a0 : ByteArray) (a1 : ByteArray) : Option (ByteArray × ByteArray × Bool) := denF strings_Cut.E strings_Cut.fn strings_Cut.enc (a0, a1, ())
set_option maxRecDepth 100000 in
theorem strings_Cut.f_eq (a0 : ByteArray) (a1 : ByteArray) : strings_Cut.f a0 a1 = (stringslite_Cut.f a0 a1).bind fun t9 => some (t9.1, t9.2.1, decide (t9.2.2 = true)) := by kernel_rfl
noncomputable def strings_Cut.con : Con := ⟨strings_Cut.fn.ins, strings_Cut.fn.outs, ByteArray × ByteArray × Bool, fun x => strings_Cut.f x.1 x.2.1, fun r => ((r.1, r.2.1, r.2.2, ()), (()))⟩
theorem strings_Cut.valid : Valid Tryd.prog 48 strings_Cut.con := fn_valid (f := strings_Cut.fn) (E := strings_Cut.E) (enc := strings_Cut.enc) ⟨ttOk, (conCons stringslite_Cut.valid conNil)⟩ (Checked.mixed Tryd.checked) ⟨Tryd.func48, by kernel_rfl, by kernel_rfl, by kernel_rfl, by kernel_rfl, by decide, by kernel_rfl, by kernel_rfl⟩ (fun _ => rfl)
end Go.Proofs.YtacipknfhoadoaaDoor.P
set_option linter.unusedVariables false
namespace Go.Proofs.YtacipknfhoadoaaDoor.P
open Go Go.RowKit Go.Proofs.YtacipknfhoadoaaDoor.D
noncomputable def impl_number.E : Env := { tt := TT, con := [], frz := [], rows := [], live := [(5, [0, 4, 24, 25])], n := 48, pin := 0, nils := [] }
noncomputable def impl_number.fn : D.Fn := { body := Tryd.f49.body.getD .skip, res := Tryd.f49.results.toList, ins := [.one (.v .str)], outs := [.one (.v (.int .i64)), .one (.v .bool)] }
def impl_number.enc (y : lsd (flats impl_number.fn.outs) × lsd (ios impl_number.fn.ins)) : Int × Bool := (y.1.1, y.1.2.1)
noncomputable def impl_number.f (a0 : ByteArray) : Option (Int × Bool) := denF impl_number.E impl_number.fn impl_number.enc (a0, ())
noncomputable def impl_number.l0 (x0 : ByteArray) (x4 : Int) (x24 : Int) (x25 : Int) : Option (Int × Bool) := denAt impl_number.E impl_number.fn impl_number.enc [1, 1, 1, 0, 1, 0] { fr := [(0, .lf (.str x0)), (4, .lf (.int .i64 x4)), (24, .lf (.int .i64 x24)), (25, .lf (.int .i64 x25))], ob := [], nx := 0 }
set_option maxRecDepth 100000 in
theorem impl_number.f_eq (a0 : ByteArray) : impl_number.f a0 = if a0 = (⟨#[]⟩ : ByteArray) then (some (0, false)) else (if (a0.size : Int) > 9 then (some (0, false)) else (if 0 < (a0.size : Int) then (if (byteAt a0 0) = 48 then (if (a0.size : Int) > 1 then (some (0, false)) else (impl_number.l0 a0 0 (a0.size : Int) 0)) else (impl_number.l0 a0 0 (a0.size : Int) 0)) else none)) := by kernel_rfl
set_option maxRecDepth 100000 in
theorem impl_number.l0_eq (x0 : ByteArray) (x4 : Int) (x24 : Int) (x25 : Int) : impl_number.l0 x0 x4 x24 x25 = if x25 < x24 then (if 0 ≤ x25 then (if x25 < (x0.size : Int) then (if (byteAt x0 x25) < 48 then (some (0, false)) else (if 0 ≤ x25 then (if x25 < (x0.size : Int) then (if (byteAt x0 x25) > 57 then (some (0, false)) else (if 0 ≤ x25 then (if x25 < (x0.size : Int) then (impl_number.l0 x0 (wrapI ((wrapI (x4 * 10)) + (wrapI (wr .u8 ((byteAt x0 x25) - 48))))) x24 (wrapI (x25 + 1))) else none) else none)) else none) else none)) else none) else none) else (some (x4, true)) := (loop_unfold _ _ _ _).trans (by kernel_rfl)
noncomputable def impl_number.con : Con := ⟨impl_number.fn.ins, impl_number.fn.outs, Int × Bool, fun x => impl_number.f x.1, fun r => ((r.1, r.2, ()), (()))⟩
theorem impl_number.valid : Valid Tryd.prog 49 impl_number.con := fn_valid (f := impl_number.fn) (E := impl_number.E) (enc := impl_number.enc) ⟨ttOk, conNil⟩ (Checked.mixed Tryd.checked) ⟨Tryd.func49, by kernel_rfl, by kernel_rfl, by kernel_rfl, by kernel_rfl, by decide, by kernel_rfl, by kernel_rfl⟩ (fun _ => rfl)
end Go.Proofs.YtacipknfhoadoaaDoor.P
