/- What the proof of the law CochainText stands on, part 6: words, each Go function's Lean function, and that the Go code comes to its answers; no condition. (Packed by wip/myprint/pack.py out of what the kit's printer wrote, its words among it, partly by our patches of it, and out of texts of this session.) -/
import Derived.Lib.Join
import Derived.Test.YtacipknfhoadoaaDoorRows
import Derived.WalkKit
import Derived.ProofKit
import Derived.KernelRfl
import Derived.Test.YtacipknfhoadoaaDoorKCochainText3
import Derived.Test.YtacipknfhoadoaaDoorKCochainText4
import Derived.Test.YtacipknfhoadoaaDoorKCochainText5
set_option linter.unusedVariables false
namespace Go.Proofs.YtacipknfhoadoaaDoor.D
open Go Go.RowKit
def joined (xs : List ByteArray) (sep : ByteArray) : ByteArray := ⟨(Lib.join (xs.map (·.data.toList)) sep.data.toList).toArray⟩
def joinF (xs : List ByteArray) (sep : ByteArray) : Option ByteArray := if xs.length ≤ 140737488355328 ∧ (Lib.join (xs.map (·.data.toList)) sep.data.toList).length ≤ 140737488355328 then some (joined xs sep) else none
theorem joinF_inv {xs : List ByteArray} {sep r : ByteArray} (h : joinF xs sep = some r) : xs.length ≤ 140737488355328 ∧ (Lib.join (xs.map (·.data.toList)) sep.data.toList).length ≤ 140737488355328 ∧ r = joined xs sep := by
  unfold joinF at h
  split at h
  · rename_i hc
    cases h
    exact ⟨hc.1, hc.2, rfl⟩
  · cases h
theorem valid_join {P : Program} {g : FuncId} {e : TypeId} {F : List ByteArray → ByteArray → Option ByteArray} (hc : Callable P g)
    (h0 : ∀ (a : Option Addr) (c : Nat) (sep : ByteArray) (w : World), Calls P g #[.slice a 0 c, .string sep] w fun e w' => e = .returned (.string ⟨#[]⟩) ∧ w' = w)
    (h : ∀ (bk o c : Nat) (xs : List ByteArray) (sep : ByteArray) (w : World), (∀ (j : Nat) x, xs[j]? = some x → w.cell? ⟨bk, o + j, none⟩ = some (.string x)) → bk < w.heap.size → xs.length ≤ 140737488355328 → xs.length ≤ c →
      (Lib.join (xs.map (·.data.toList)) sep.data.toList).length ≤ 140737488355328 → Calls P g #[.slice (some ⟨bk, o, none⟩) xs.length c, .string sep] w fun e w' => e = .returned (.string (joined xs sep)) ∧ Below w.heap.size w w')
    (hF : ∀ xs sep r, F xs sep = some r → xs.length ≤ 140737488355328 ∧ (Lib.join (xs.map (·.data.toList)) sep.data.toList).length ≤ 140737488355328 ∧ r = joined xs sep) :
    Valid P g ⟨[.one (.own e true .str), .one (.v .str)], [.one (.v .str)], ByteArray × List ByteArray, fun x => (F x.1 x.2.1).map fun r => (r, x.1), fun r => ((r.1, ()), (r.2, ()))⟩ := by
  refine ⟨hc, fun x r hx Z B S w vs ha hS hZ hB => ?_⟩
  obtain ⟨v, vs', F0, F1, rfl, h1, ⟨v2, vs2, F2, F3, rfl, h2, h3, _⟩, hF0, _⟩ := ha
  cases h3
  have h2 : [v2] = [.string x.2.1] := h2
  cases h2
  obtain ⟨r0, hr0, rfl⟩ := Option.map_eq_some_iff.1 hx
  obtain ⟨hn, hl, rfl⟩ := hF _ _ _ hr0
  have h1 : RowRep w e 1 (Rep Z w true .str) v x.1 F0 := h1
  have h1' := h1
  obtain ⟨inner, hown, hb, Fs, hel, hsub, hdis⟩ := h1'
  have hcall : Calls P g #[v, .string x.2.1] w fun en w' => en = .returned (.string (joined x.1 x.2.1)) ∧ Below w.heap.size w w' := by
    by_cases hp : 0 < x.1.length
    · obtain ⟨gg, cap, hv, hnc, hbig, hcell⟩ := owns_cells hown hp Nat.one_pos
      have hci : ∀ (j : Nat) (y : ByteArray), x.1[j]? = some y → w.cell? ⟨gg, j, none⟩ = some (.string y) := fun j y hj => by
        refine (hcell j _ ?_).1
        have q : (inner.drop (j * 1)).take 1 = [.string y] := hel j y hj
        have q2 : ((inner.drop (j * 1)).take 1)[0]? = some (.string y) := by rw [q]; rfl
        have := drop_take_get q2
        simpa using this
      rw [hv]
      refine h gg 0 cap x.1 _ w (fun j y hj => by rw [Nat.zero_add]; exact hci j y hj) ?_ hn hnc hl
      exact cell_lt (hci 0 x.1[0] (List.getElem?_eq_getElem hp))
    · have hx0 : x.1 = [] := by
        cases hx1 : x.1 with
        | nil => rfl
        | cons a l => rw [hx1] at hp; simp at hp
      have hj : joined x.1 x.2.1 = ⟨#[]⟩ := by rw [hx0]; rfl
      rw [hj]
      have hlen : x.1.length = 0 := by rw [hx0]; rfl
      rcases hown.2 with ⟨hv, _⟩ | ⟨gg, cap, cur, hv, _⟩
      · rw [hv]
        exact (h0 _ _ _ w).mono fun _ _ ⟨a, b⟩ => ⟨a, b ▸ Below.refl _ _⟩
      · have hv : v = .slice (some ⟨gg, 0, none⟩) x.1.length cap := hv
        rw [hv, hlen]
        exact (h0 _ _ _ w).mono fun _ _ ⟨a, b⟩ => ⟨a, b ▸ Below.refl _ _⟩
  refine hcall.mono ?_
  rintro en w' ⟨rfl, hbl⟩
  have hlt : ∀ k, F0 k → k < w.heap.size := fun k hk => (hS k (hF0 k hk)).2.2
  have h4 : RowRep w' e 1 (Rep Z w' true .str) v x.1 F0 := RowRep.imp h1 (fun _ h => h) (fun k hk => hbl.block k (hlt k hk)) fun p cs G _ hp => hp
  refine ⟨_, rfl, Z, F0, fun _ => False, ⟨⟨_, _, F0, fun _ => False, rfl, h4, ⟨_, [], fun _ => False, fun _ => False, rfl, trivial, trivial, fun _ h => h, fun _ h => h, fun _ h => h.elim⟩, fun _ h => h, fun _ h => h.elim, fun _ _ h => h⟩,
    ⟨[.string (joined x.1 x.2.1)], rfl, _, [], fun _ => False, fun _ => False, rfl, rfl, rfl, fun _ h => h, fun _ h => h, fun _ h => h.elim⟩, fun _ _ h => h, fun k hk => ?_, fun _ h => h, fun k hk => ⟨.inl hk, Nat.lt_of_lt_of_le (hZ k hk) hbl.size⟩, hbl.os, hbl.tape, hbl.output, hbl.size, fun k hk _ => hbl.block k hk⟩⟩
  have hk : F0 k := hk.elim id fun h => h.elim
  exact ⟨.inl (hF0 k hk), Nat.lt_of_lt_of_le (hlt k hk) hbl.size, (hS k (hF0 k hk)).1⟩
end Go.Proofs.YtacipknfhoadoaaDoor.D
set_option linter.unusedVariables false
namespace Go.Proofs.YtacipknfhoadoaaDoor.P
open Go Go.RowKit Go.Proofs.YtacipknfhoadoaaDoor.D
noncomputable def strings_Join.f (a0 : List ByteArray) (a1 : ByteArray) : Option (ByteArray × List ByteArray) := (joinF a0 a1).map fun r => (r, a0)
noncomputable def strings_Join.con : Con := ⟨[.one (.own 9 true .str), .one (.v .str)], [.one (.v .str)], ByteArray × List ByteArray, fun x => strings_Join.f x.1 x.2.1, fun r => ((r.1, ()), (r.2, ()))⟩
theorem strings_Join.valid : Valid Tryd.prog 60 strings_Join.con := valid_join (F := joinF) ⟨_, Tryd.func60, by kernel_rfl, by kernel_rfl⟩ (fun a c sep w => Tryd.strings_Join_none a c sep w) (fun bk o c xs sep w h1 h2 h3 h4 h5 => Tryd.strings_Join bk o c xs sep w h1 h2 h3 h4 h5) fun xs sep r h => joinF_inv h
end Go.Proofs.YtacipknfhoadoaaDoor.P
set_option linter.unusedVariables false
namespace Go.Proofs.YtacipknfhoadoaaDoor.P
open Go Go.RowKit Go.Proofs.YtacipknfhoadoaaDoor.D
noncomputable def impl_numbersText.E : Env := { tt := TT, con := [(44, impl_decimal.con), (60, strings_Join.con)], frz := [], rows := [], live := [(3, [3, 7, 8, 9])], n := 21, pin := 0, nils := [] }
noncomputable def impl_numbersText.fn : D.Fn := { body := Tryd.f45.body.getD .skip, res := Tryd.f45.results.toList, ins := [.one (.v (.sl 2 (.int .i64)))], outs := [.one (.v .str)] }
def impl_numbersText.enc (y : lsd (flats impl_numbersText.fn.outs) × lsd (ios impl_numbersText.fn.ins)) : ByteArray := y.1.1
noncomputable def impl_numbersText.f (l0 : List Int) : Option ByteArray := denF impl_numbersText.E impl_numbersText.fn impl_numbersText.enc (l0, ())
noncomputable def impl_numbersText.l0 (x7 : List Int) (x8 : Int) (x9 : Int) (r0 : List ByteArray) : Option ByteArray := denAt impl_numbersText.E impl_numbersText.fn impl_numbersText.enc [1, 1, 0, 1, 0] { fr := [(3, .lf (.own 0)), (7, .lf (.sl (.int .i64) x7)), (8, .lf (.int .i64 x8)), (9, .lf (.int .i64 x9))], ob := [(0, .row 9 true .str r0)], nx := 1 }
set_option maxRecDepth 100000 in
theorem impl_numbersText.f_eq (l0 : List Int) : impl_numbersText.f l0 = impl_numbersText.l0 l0 (l0.length : Int) 0 ([] : List ByteArray) := by kernel_rfl
set_option maxRecDepth 100000 in
theorem impl_numbersText.l0_eq (x7 : List Int) (x8 : Int) (x9 : Int) (r0 : List ByteArray) : impl_numbersText.l0 x7 x8 x9 r0 = if x9 < x8 then (if 0 ≤ x9 then (if x9 < (x7.length : Int) then ((impl_decimal.f (rd x7 x9)).bind fun t15 => if r0.length + ([t15] : List ByteArray).length ≤ 8796093022208 then (impl_numbersText.l0 x7 x8 (wrapI (x9 + 1)) (r0 ++ ([t15] : List ByteArray))) else none) else none) else none) else ((strings_Join.f r0 (⟨#[44]⟩ : ByteArray)).bind fun t20 => some t20.1) := (loop_unfold _ _ _ _).trans (by kernel_rfl)
noncomputable def impl_numbersText.con : Con := ⟨impl_numbersText.fn.ins, impl_numbersText.fn.outs, ByteArray, fun x => impl_numbersText.f x.1, fun r => ((r, ()), (()))⟩
theorem impl_numbersText.valid : Valid Tryd.prog 45 impl_numbersText.con := fn_valid (f := impl_numbersText.fn) (E := impl_numbersText.E) (enc := impl_numbersText.enc) ⟨ttOk, (conCons impl_decimal.valid (conCons strings_Join.valid conNil))⟩ (Checked.mixed Tryd.checked) ⟨Tryd.func45, by kernel_rfl, by kernel_rfl, by kernel_rfl, by kernel_rfl, by decide, by kernel_rfl, by kernel_rfl⟩ (fun _ => rfl)
end Go.Proofs.YtacipknfhoadoaaDoor.P
set_option linter.unusedVariables false
namespace Go.Proofs.YtacipknfhoadoaaDoor.P
open Go Go.RowKit Go.Proofs.YtacipknfhoadoaaDoor.D
noncomputable def impl_cochainText.E : Env := { tt := TT, con := [(44, impl_decimal.con), (45, impl_numbersText.con)], frz := [], rows := [], live := [], n := 11, pin := 0, nils := [] }
noncomputable def impl_cochainText.fn : D.Fn := { body := Tryd.f29.body.getD .skip, res := Tryd.f29.results.toList, ins := [.agg [.v (.int .i64), .v (.sl 2 (.int .i64))]], outs := [.one (.v .str)] }
def impl_cochainText.enc (y : lsd (flats impl_cochainText.fn.outs) × lsd (ios impl_cochainText.fn.ins)) : ByteArray := y.1.1
noncomputable def impl_cochainText.f (a0_0 : Int) (l0_1 : List Int) : Option ByteArray := denF impl_cochainText.E impl_cochainText.fn impl_cochainText.enc (a0_0, l0_1, ())
set_option maxRecDepth 100000 in
theorem impl_cochainText.f_eq (a0_0 : Int) (l0_1 : List Int) : impl_cochainText.f a0_0 l0_1 = (impl_decimal.f a0_0).bind fun t5 => if szs t5 (⟨#[58]⟩ : ByteArray) ≤ 9223372036854775807 then ((impl_numbersText.f l0_1).bind fun t9 => if szs (t5 ++ (⟨#[58]⟩ : ByteArray)) t9 ≤ 9223372036854775807 then (some ((t5 ++ (⟨#[58]⟩ : ByteArray)) ++ t9)) else none) else none := by kernel_rfl
noncomputable def impl_cochainText.con : Con := ⟨impl_cochainText.fn.ins, impl_cochainText.fn.outs, ByteArray, fun x => impl_cochainText.f x.1 x.2.1, fun r => ((r, ()), (()))⟩
theorem impl_cochainText.valid : Valid Tryd.prog 29 impl_cochainText.con := fn_valid (f := impl_cochainText.fn) (E := impl_cochainText.E) (enc := impl_cochainText.enc) ⟨ttOk, (conCons impl_decimal.valid (conCons impl_numbersText.valid conNil))⟩ (Checked.mixed Tryd.checked) ⟨Tryd.func29, by kernel_rfl, by kernel_rfl, by kernel_rfl, by kernel_rfl, by decide, by kernel_rfl, by kernel_rfl⟩ (fun _ => rfl)
end Go.Proofs.YtacipknfhoadoaaDoor.P
set_option linter.unusedVariables false
namespace Go.Proofs.YtacipknfhoadoaaDoor.P
open Go Go.RowKit Go.Proofs.YtacipknfhoadoaaDoor.D
noncomputable def impl_CochainText.E : Env := { tt := TT, con := [(28, impl_cochainCode.con), (29, impl_cochainText.con)], frz := [], rows := [12], live := [], n := 19, pin := 0, nils := [] }
noncomputable def impl_CochainText.fn : D.Fn := { body := Tryd.f12.body.getD .skip, res := Tryd.f12.results.toList, ins := [.agg [.v (.sl 25 (.sl 2 (.int .i64)))], .agg [.v (.int .i64), .v (.sl 2 (.int .i64))], .agg [.v (.int .i64), .v (.sl 2 (.int .i64))]], outs := [.one (.v .str), .one (.v (.int .i64))] }
def impl_CochainText.enc (y : lsd (flats impl_CochainText.fn.outs) × lsd (ios impl_CochainText.fn.ins)) : ByteArray × Int := (y.1.1, y.1.2.1)
noncomputable def impl_CochainText.f (l0_0 : List (List Int)) (a1_0 : Int) (l1_1 : List Int) (a2_0 : Int) (l2_1 : List Int) : Option (ByteArray × Int) := denF impl_CochainText.E impl_CochainText.fn impl_CochainText.enc (l0_0, a1_0, l1_1, a2_0, l2_1, ())
set_option maxRecDepth 100000 in
theorem impl_CochainText.f_eq (l0_0 : List (List Int)) (a1_0 : Int) (l1_1 : List Int) (a2_0 : Int) (l2_1 : List Int) : impl_CochainText.f l0_0 a1_0 l1_1 a2_0 l2_1 = (impl_cochainCode.f l0_0 a1_0 l1_1 ([(a2_0, l2_1)] : List (Int × (List Int)))).bind fun t13 => if t13 = 0 then ((impl_cochainText.f a2_0 l2_1).bind fun t18 => some (t18, 0)) else (some ((⟨#[]⟩ : ByteArray), t13)) := by kernel_rfl
noncomputable def impl_CochainText.con : Con := ⟨impl_CochainText.fn.ins, impl_CochainText.fn.outs, ByteArray × Int, fun x => impl_CochainText.f x.1 x.2.1 x.2.2.1 x.2.2.2.1 x.2.2.2.2.1, fun r => ((r.1, r.2, ()), (()))⟩
theorem impl_CochainText.valid : Valid Tryd.prog 12 impl_CochainText.con := fn_valid (f := impl_CochainText.fn) (E := impl_CochainText.E) (enc := impl_CochainText.enc) ⟨ttOk, (conCons impl_cochainCode.valid (conCons impl_cochainText.valid conNil))⟩ (Checked.mixed Tryd.checked) ⟨Tryd.func12, by kernel_rfl, by kernel_rfl, by kernel_rfl, by kernel_rfl, by decide, by kernel_rfl, by kernel_rfl⟩ (fun _ => rfl)
end Go.Proofs.YtacipknfhoadoaaDoor.P
set_option linter.unusedVariables false
namespace Go.Proofs.YtacipknfhoadoaaDoor.P
open Go Go.RowKit Go.Proofs.YtacipknfhoadoaaDoor.D
noncomputable def laws_eqInt64S.E : Env := { tt := TT, con := [], frz := [], rows := [], live := [(4, [0, 1, 5])], n := 26, pin := 0, nils := [] }
noncomputable def laws_eqInt64S.fn : D.Fn := { body := Tryd.f31.body.getD .skip, res := Tryd.f31.results.toList, ins := [.one (.v (.sl 2 (.int .i64))), .one (.v (.sl 2 (.int .i64)))], outs := [.one (.v .bool)] }
def laws_eqInt64S.enc (y : lsd (flats laws_eqInt64S.fn.outs) × lsd (ios laws_eqInt64S.fn.ins)) : Bool := y.1.1
noncomputable def laws_eqInt64S.f (l0 : List Int) (l1 : List Int) : Option Bool := denF laws_eqInt64S.E laws_eqInt64S.fn laws_eqInt64S.enc (l0, l1, ())
noncomputable def laws_eqInt64S.l0 (x0 : List Int) (x1 : List Int) (x5 : Int) : Option Bool := denAt laws_eqInt64S.E laws_eqInt64S.fn laws_eqInt64S.enc [1, 1, 0, 1, 0] { fr := [(0, .lf (.sl (.int .i64) x0)), (1, .lf (.sl (.int .i64) x1)), (5, .lf (.int .i64 x5))], ob := [], nx := 0 }
set_option maxRecDepth 100000 in
theorem laws_eqInt64S.f_eq (l0 : List Int) (l1 : List Int) : laws_eqInt64S.f l0 l1 = if (l0.length : Int) = (l1.length : Int) then (laws_eqInt64S.l0 l0 l1 0) else (some false) := by kernel_rfl
set_option maxRecDepth 100000 in
theorem laws_eqInt64S.l0_eq (x0 : List Int) (x1 : List Int) (x5 : Int) : laws_eqInt64S.l0 x0 x1 x5 = if x5 < (x0.length : Int) then (if 0 ≤ x5 then (if x5 < (x0.length : Int) then (if 0 ≤ x5 then (if x5 < (x1.length : Int) then (if (rd x0 x5) = (rd x1 x5) then (laws_eqInt64S.l0 x0 x1 (wrapI (x5 + 1))) else (some false)) else none) else none) else none) else none) else (some true) := (loop_unfold _ _ _ _).trans (by kernel_rfl)
noncomputable def laws_eqInt64S.con : Con := ⟨laws_eqInt64S.fn.ins, laws_eqInt64S.fn.outs, Bool, fun x => laws_eqInt64S.f x.1 x.2.1, fun r => ((r, ()), (()))⟩
theorem laws_eqInt64S.valid : Valid Tryd.prog 31 laws_eqInt64S.con := fn_valid (f := laws_eqInt64S.fn) (E := laws_eqInt64S.E) (enc := laws_eqInt64S.enc) ⟨ttOk, conNil⟩ (Checked.mixed Tryd.checked) ⟨Tryd.func31, by kernel_rfl, by kernel_rfl, by kernel_rfl, by kernel_rfl, by decide, by kernel_rfl, by kernel_rfl⟩ (fun _ => rfl)
end Go.Proofs.YtacipknfhoadoaaDoor.P
set_option linter.unusedVariables false
namespace Go.Proofs.YtacipknfhoadoaaDoor.P
open Go Go.RowKit Go.Proofs.YtacipknfhoadoaaDoor.D
noncomputable def laws_eqInt64SS.E : Env := { tt := TT, con := [(31, laws_eqInt64S.con)], frz := [], rows := [], live := [(4, [0, 1, 5])], n := 27, pin := 0, nils := [] }
noncomputable def laws_eqInt64SS.fn : D.Fn := { body := Tryd.f30.body.getD .skip, res := Tryd.f30.results.toList, ins := [.one (.v (.sl 25 (.sl 2 (.int .i64)))), .one (.v (.sl 25 (.sl 2 (.int .i64))))], outs := [.one (.v .bool)] }
def laws_eqInt64SS.enc (y : lsd (flats laws_eqInt64SS.fn.outs) × lsd (ios laws_eqInt64SS.fn.ins)) : Bool := y.1.1
noncomputable def laws_eqInt64SS.f (l0 : List (List Int)) (l1 : List (List Int)) : Option Bool := denF laws_eqInt64SS.E laws_eqInt64SS.fn laws_eqInt64SS.enc (l0, l1, ())
noncomputable def laws_eqInt64SS.l0 (x0 : List (List Int)) (x1 : List (List Int)) (x5 : Int) : Option Bool := denAt laws_eqInt64SS.E laws_eqInt64SS.fn laws_eqInt64SS.enc [1, 1, 0, 1, 0] { fr := [(0, .lf (.sl (.sl 2 (.int .i64)) x0)), (1, .lf (.sl (.sl 2 (.int .i64)) x1)), (5, .lf (.int .i64 x5))], ob := [], nx := 0 }
set_option maxRecDepth 100000 in
theorem laws_eqInt64SS.f_eq (l0 : List (List Int)) (l1 : List (List Int)) : laws_eqInt64SS.f l0 l1 = if (l0.length : Int) = (l1.length : Int) then (laws_eqInt64SS.l0 l0 l1 0) else (some false) := by kernel_rfl
set_option maxRecDepth 100000 in
theorem laws_eqInt64SS.l0_eq (x0 : List (List Int)) (x1 : List (List Int)) (x5 : Int) : laws_eqInt64SS.l0 x0 x1 x5 = if x5 < (x0.length : Int) then (if 0 ≤ x5 then (if x5 < (x0.length : Int) then (if 0 ≤ x5 then (if x5 < (x1.length : Int) then ((laws_eqInt64S.f (row x0 x5) (row x1 x5)).bind fun t25 => if t25 = true then (laws_eqInt64SS.l0 x0 x1 (wrapI (x5 + 1))) else (some false)) else none) else none) else none) else none) else (some true) := (loop_unfold _ _ _ _).trans (by kernel_rfl)
noncomputable def laws_eqInt64SS.con : Con := ⟨laws_eqInt64SS.fn.ins, laws_eqInt64SS.fn.outs, Bool, fun x => laws_eqInt64SS.f x.1 x.2.1, fun r => ((r, ()), (()))⟩
theorem laws_eqInt64SS.valid : Valid Tryd.prog 30 laws_eqInt64SS.con := fn_valid (f := laws_eqInt64SS.fn) (E := laws_eqInt64SS.E) (enc := laws_eqInt64SS.enc) ⟨ttOk, (conCons laws_eqInt64S.valid conNil)⟩ (Checked.mixed Tryd.checked) ⟨Tryd.func30, by kernel_rfl, by kernel_rfl, by kernel_rfl, by kernel_rfl, by decide, by kernel_rfl, by kernel_rfl⟩ (fun _ => rfl)
end Go.Proofs.YtacipknfhoadoaaDoor.P
set_option linter.unusedVariables false
namespace Go.Proofs.YtacipknfhoadoaaDoor.P
open Go Go.RowKit Go.Proofs.YtacipknfhoadoaaDoor.D
noncomputable def laws_eqGroup.E : Env := { tt := TT, con := [(30, laws_eqInt64SS.con)], frz := [], rows := [], live := [], n := 11, pin := 0, nils := [] }
noncomputable def laws_eqGroup.fn : D.Fn := { body := Tryd.f13.body.getD .skip, res := Tryd.f13.results.toList, ins := [.agg [.v (.sl 25 (.sl 2 (.int .i64)))], .agg [.v (.sl 25 (.sl 2 (.int .i64)))]], outs := [.one (.v .bool)] }
def laws_eqGroup.enc (y : lsd (flats laws_eqGroup.fn.outs) × lsd (ios laws_eqGroup.fn.ins)) : Bool := y.1.1
noncomputable def laws_eqGroup.f (l0_0 : List (List Int)) (l1_0 : List (List Int)) : Option Bool := denF laws_eqGroup.E laws_eqGroup.fn laws_eqGroup.enc (l0_0, l1_0, ())
set_option maxRecDepth 100000 in
theorem laws_eqGroup.f_eq (l0_0 : List (List Int)) (l1_0 : List (List Int)) : laws_eqGroup.f l0_0 l1_0 = (laws_eqInt64SS.f l0_0 l1_0).bind fun t9 => if t9 = true then (some true) else (some false) := by kernel_rfl
noncomputable def laws_eqGroup.con : Con := ⟨laws_eqGroup.fn.ins, laws_eqGroup.fn.outs, Bool, fun x => laws_eqGroup.f x.1 x.2.1, fun r => ((r, ()), (()))⟩
theorem laws_eqGroup.valid : Valid Tryd.prog 13 laws_eqGroup.con := fn_valid (f := laws_eqGroup.fn) (E := laws_eqGroup.E) (enc := laws_eqGroup.enc) ⟨ttOk, (conCons laws_eqInt64SS.valid conNil)⟩ (Checked.mixed Tryd.checked) ⟨Tryd.func13, by kernel_rfl, by kernel_rfl, by kernel_rfl, by kernel_rfl, by decide, by kernel_rfl, by kernel_rfl⟩ (fun _ => rfl)
end Go.Proofs.YtacipknfhoadoaaDoor.P
set_option linter.unusedVariables false
namespace Go.Proofs.YtacipknfhoadoaaDoor.P
open Go Go.RowKit Go.Proofs.YtacipknfhoadoaaDoor.D
noncomputable def laws_eqModule.E : Env := { tt := TT, con := [(31, laws_eqInt64S.con)], frz := [], rows := [], live := [], n := 16, pin := 0, nils := [] }
noncomputable def laws_eqModule.fn : D.Fn := { body := Tryd.f14.body.getD .skip, res := Tryd.f14.results.toList, ins := [.agg [.v (.int .i64), .v (.sl 2 (.int .i64))], .agg [.v (.int .i64), .v (.sl 2 (.int .i64))]], outs := [.one (.v .bool)] }
def laws_eqModule.enc (y : lsd (flats laws_eqModule.fn.outs) × lsd (ios laws_eqModule.fn.ins)) : Bool := y.1.1
noncomputable def laws_eqModule.f (a0_0 : Int) (l0_1 : List Int) (a1_0 : Int) (l1_1 : List Int) : Option Bool := denF laws_eqModule.E laws_eqModule.fn laws_eqModule.enc (a0_0, l0_1, a1_0, l1_1, ())
set_option maxRecDepth 100000 in
theorem laws_eqModule.f_eq (a0_0 : Int) (l0_1 : List Int) (a1_0 : Int) (l1_1 : List Int) : laws_eqModule.f a0_0 l0_1 a1_0 l1_1 = if a0_0 = a1_0 then ((laws_eqInt64S.f l0_1 l1_1).bind fun t14 => if t14 = true then (some true) else (some false)) else (some false) := by kernel_rfl
noncomputable def laws_eqModule.con : Con := ⟨laws_eqModule.fn.ins, laws_eqModule.fn.outs, Bool, fun x => laws_eqModule.f x.1 x.2.1 x.2.2.1 x.2.2.2.1, fun r => ((r, ()), (()))⟩
theorem laws_eqModule.valid : Valid Tryd.prog 14 laws_eqModule.con := fn_valid (f := laws_eqModule.fn) (E := laws_eqModule.E) (enc := laws_eqModule.enc) ⟨ttOk, (conCons laws_eqInt64S.valid conNil)⟩ (Checked.mixed Tryd.checked) ⟨Tryd.func14, by kernel_rfl, by kernel_rfl, by kernel_rfl, by kernel_rfl, by decide, by kernel_rfl, by kernel_rfl⟩ (fun _ => rfl)
end Go.Proofs.YtacipknfhoadoaaDoor.P
set_option linter.unusedVariables false
namespace Go.Proofs.YtacipknfhoadoaaDoor.P
open Go Go.RowKit Go.Proofs.YtacipknfhoadoaaDoor.D
noncomputable def laws_eqCochain.E : Env := { tt := TT, con := [(31, laws_eqInt64S.con)], frz := [], rows := [], live := [], n := 16, pin := 0, nils := [] }
noncomputable def laws_eqCochain.fn : D.Fn := { body := Tryd.f15.body.getD .skip, res := Tryd.f15.results.toList, ins := [.agg [.v (.int .i64), .v (.sl 2 (.int .i64))], .agg [.v (.int .i64), .v (.sl 2 (.int .i64))]], outs := [.one (.v .bool)] }
def laws_eqCochain.enc (y : lsd (flats laws_eqCochain.fn.outs) × lsd (ios laws_eqCochain.fn.ins)) : Bool := y.1.1
noncomputable def laws_eqCochain.f (a0_0 : Int) (l0_1 : List Int) (a1_0 : Int) (l1_1 : List Int) : Option Bool := denF laws_eqCochain.E laws_eqCochain.fn laws_eqCochain.enc (a0_0, l0_1, a1_0, l1_1, ())
set_option maxRecDepth 100000 in
theorem laws_eqCochain.f_eq (a0_0 : Int) (l0_1 : List Int) (a1_0 : Int) (l1_1 : List Int) : laws_eqCochain.f a0_0 l0_1 a1_0 l1_1 = if a0_0 = a1_0 then ((laws_eqInt64S.f l0_1 l1_1).bind fun t14 => if t14 = true then (some true) else (some false)) else (some false) := by kernel_rfl
noncomputable def laws_eqCochain.con : Con := ⟨laws_eqCochain.fn.ins, laws_eqCochain.fn.outs, Bool, fun x => laws_eqCochain.f x.1 x.2.1 x.2.2.1 x.2.2.2.1, fun r => ((r, ()), (()))⟩
theorem laws_eqCochain.valid : Valid Tryd.prog 15 laws_eqCochain.con := fn_valid (f := laws_eqCochain.fn) (E := laws_eqCochain.E) (enc := laws_eqCochain.enc) ⟨ttOk, (conCons laws_eqInt64S.valid conNil)⟩ (Checked.mixed Tryd.checked) ⟨Tryd.func15, by kernel_rfl, by kernel_rfl, by kernel_rfl, by kernel_rfl, by decide, by kernel_rfl, by kernel_rfl⟩ (fun _ => rfl)
end Go.Proofs.YtacipknfhoadoaaDoor.P
set_option linter.unusedVariables false
namespace Go.Proofs.YtacipknfhoadoaaDoor.P
open Go Go.RowKit Go.Proofs.YtacipknfhoadoaaDoor.D
noncomputable def laws_FnExactCochainText.E : Env := { tt := TT, con := [(5, laws_szGroup.con), (6, laws_szModule.con), (7, laws_szCochain.con), (9, laws_toGroup.con), (10, laws_toModule.con), (11, laws_toCochain.con), (8, spec_CochainText.con), (12, impl_CochainText.con), (13, laws_eqGroup.con), (14, laws_eqModule.con), (15, laws_eqCochain.con)], frz := [], rows := [], live := [], n := 76, pin := 0, nils := [] }
noncomputable def laws_FnExactCochainText.fn : D.Fn := { body := Tryd.f3.body.getD .skip, res := Tryd.f3.results.toList, ins := [.agg [.v (.sl 25 (.sl 2 (.int .i64)))], .agg [.v (.int .i64), .v (.sl 2 (.int .i64))], .agg [.v (.int .i64), .v (.sl 2 (.int .i64))]], outs := [.one (.v .bool)] }
def laws_FnExactCochainText.enc (y : lsd (flats laws_FnExactCochainText.fn.outs) × lsd (ios laws_FnExactCochainText.fn.ins)) : Bool := y.1.1
noncomputable def laws_FnExactCochainText.f (l0_0 : List (List Int)) (a1_0 : Int) (l1_1 : List Int) (a2_0 : Int) (l2_1 : List Int) : Option Bool := denF laws_FnExactCochainText.E laws_FnExactCochainText.fn laws_FnExactCochainText.enc (l0_0, a1_0, l1_1, a2_0, l2_1, ())
set_option maxRecDepth 100000 in
theorem laws_FnExactCochainText.f_eq (l0_0 : List (List Int)) (a1_0 : Int) (l1_1 : List Int) (a2_0 : Int) (l2_1 : List Int) : laws_FnExactCochainText.f l0_0 a1_0 l1_1 a2_0 l2_1 = (laws_szGroup.f l0_0 1048576).bind fun t17 => if t17 < 0 then (some true) else ((laws_szModule.f a1_0 l1_1 t17).bind fun t22 => if t22 < 0 then (some true) else ((laws_szCochain.f a2_0 l2_1 t22).bind fun t27 => if t27 < 0 then (some true) else ((laws_toGroup.f l0_0).bind fun t32 => (laws_toModule.f a1_0 l1_1).bind fun t34 => (laws_toCochain.f a2_0 l2_1).bind fun t36 => (spec_CochainText.f t32 t34.1 t34.2 t36.1 t36.2).bind fun t37 => (laws_toGroup.f l0_0).bind fun t41 => (laws_toModule.f a1_0 l1_1).bind fun t43 => (laws_toCochain.f a2_0 l2_1).bind fun t45 => (impl_CochainText.f t41 t43.1 t43.2 t45.1 t45.2).bind fun t50 => if t50.1 = t37.1 then (if t50.2 = t37.2 then ((laws_toGroup.f l0_0).bind fun t63 => (laws_eqGroup.f t41 t63).bind fun t64 => if t64 = true then ((laws_toModule.f a1_0 l1_1).bind fun t68 => (laws_eqModule.f t43.1 t43.2 t68.1 t68.2).bind fun t69 => if t69 = true then ((laws_toCochain.f a2_0 l2_1).bind fun t73 => (laws_eqCochain.f t45.1 t45.2 t73.1 t73.2).bind fun t74 => if t74 = true then (some true) else (some false)) else (some false)) else (some false)) else (some false)) else (some false)))) := by kernel_rfl
noncomputable def laws_FnExactCochainText.con : Con := ⟨laws_FnExactCochainText.fn.ins, laws_FnExactCochainText.fn.outs, Bool, fun x => laws_FnExactCochainText.f x.1 x.2.1 x.2.2.1 x.2.2.2.1 x.2.2.2.2.1, fun r => ((r, ()), (()))⟩
theorem laws_FnExactCochainText.valid : Valid Tryd.prog 3 laws_FnExactCochainText.con := fn_valid (f := laws_FnExactCochainText.fn) (E := laws_FnExactCochainText.E) (enc := laws_FnExactCochainText.enc) ⟨ttOk, (conCons laws_szGroup.valid (conCons laws_szModule.valid (conCons laws_szCochain.valid (conCons laws_toGroup.valid (conCons laws_toModule.valid (conCons laws_toCochain.valid (conCons spec_CochainText.valid (conCons impl_CochainText.valid (conCons laws_eqGroup.valid (conCons laws_eqModule.valid (conCons laws_eqCochain.valid conNil)))))))))))⟩ (Checked.mixed Tryd.checked) ⟨Tryd.func3, by kernel_rfl, by kernel_rfl, by kernel_rfl, by kernel_rfl, by decide, by kernel_rfl, by kernel_rfl⟩ (fun _ => rfl)
end Go.Proofs.YtacipknfhoadoaaDoor.P
set_option linter.unusedVariables false
namespace Go.Proofs.YtacipknfhoadoaaDoor.P
open Go Go.RowKit Go.Proofs.YtacipknfhoadoaaDoor.D
noncomputable def laws_markInt64S.E : Env := { tt := TT, con := [], frz := [], rows := [], live := [(2, [0, 1, 5])], n := 19, pin := 1, nils := [] }
noncomputable def laws_markInt64S.fn : D.Fn := { body := Tryd.f37.body.getD .skip, res := Tryd.f37.results.toList, ins := [.one (.own 2 true (.int .i64)), .one (.v (.int .i64))], outs := [.one (.v (.int .i64))] }
def laws_markInt64S.enc (y : lsd (flats laws_markInt64S.fn.outs) × lsd (ios laws_markInt64S.fn.ins)) : Int × (List Int) := (y.1.1, y.2.1)
noncomputable def laws_markInt64S.f (l0 : List Int) (a1 : Int) : Option (Int × (List Int)) := denF laws_markInt64S.E laws_markInt64S.fn laws_markInt64S.enc (l0, a1, ())
noncomputable def laws_markInt64S.l0 (x1 : Int) (x5 : Int) (r0 : List Int) : Option (Int × (List Int)) := denAt laws_markInt64S.E laws_markInt64S.fn laws_markInt64S.enc [1, 0, 1, 0] { fr := [(0, .lf (.own 0)), (1, .lf (.int .i64 x1)), (5, .lf (.int .i64 x5))], ob := [(0, .row 2 true (.int .i64) r0)], nx := 1 }
set_option maxRecDepth 100000 in
theorem laws_markInt64S.f_eq (l0 : List Int) (a1 : Int) : laws_markInt64S.f l0 a1 = laws_markInt64S.l0 a1 0 l0 := by kernel_rfl
set_option maxRecDepth 100000 in
theorem laws_markInt64S.l0_eq (x1 : Int) (x5 : Int) (r0 : List Int) : laws_markInt64S.l0 x1 x5 r0 = if x5 < (r0.length : Int) then (if 0 ≤ x5 then (if x5 < (r0.length : Int) then (if 0 ≤ x5 then (if x5 < (r0.length : Int) then (laws_markInt64S.l0 (wrapI (x1 + 1)) (wrapI (x5 + 1)) (r0.set (x5 : Int).toNat x1)) else none) else none) else none) else none) else (some (x1, r0)) := (loop_unfold _ _ _ _).trans (by kernel_rfl)
noncomputable def laws_markInt64S.con : Con := ⟨laws_markInt64S.fn.ins, laws_markInt64S.fn.outs, Int × (List Int), fun x => laws_markInt64S.f x.1 x.2.1, fun r => ((r.1, ()), (r.2, ()))⟩
end Go.Proofs.YtacipknfhoadoaaDoor.P
set_option linter.unusedVariables false
namespace Go.Proofs.YtacipknfhoadoaaDoor.P
open Go Go.RowKit Go.Proofs.YtacipknfhoadoaaDoor.D
noncomputable def laws_markInt64SS.E : Env := { tt := TT, con := [(37, laws_markInt64S.con)], frz := [], rows := [], live := [(2, [0, 1, 5])], n := 19, pin := 1, nils := [] }
noncomputable def laws_markInt64SS.fn : D.Fn := { body := Tryd.f36.body.getD .skip, res := Tryd.f36.results.toList, ins := [.one (.own 25 true (.sl 2 (.int .i64))), .one (.v (.int .i64))], outs := [.one (.v (.int .i64))] }
def laws_markInt64SS.enc (y : lsd (flats laws_markInt64SS.fn.outs) × lsd (ios laws_markInt64SS.fn.ins)) : Int × (List (List Int)) := (y.1.1, y.2.1)
noncomputable def laws_markInt64SS.f (l0 : List (List Int)) (a1 : Int) : Option (Int × (List (List Int))) := denF laws_markInt64SS.E laws_markInt64SS.fn laws_markInt64SS.enc (l0, a1, ())
noncomputable def laws_markInt64SS.l0 (x1 : Int) (x5 : Int) (r0 : List (List Int)) : Option (Int × (List (List Int))) := denAt laws_markInt64SS.E laws_markInt64SS.fn laws_markInt64SS.enc [1, 0, 1, 0] { fr := [(0, .lf (.own 0)), (1, .lf (.int .i64 x1)), (5, .lf (.int .i64 x5))], ob := [(0, .row 25 true (.sl 2 (.int .i64)) r0)], nx := 1 }
set_option maxRecDepth 100000 in
theorem laws_markInt64SS.f_eq (l0 : List (List Int)) (a1 : Int) : laws_markInt64SS.f l0 a1 = laws_markInt64SS.l0 a1 0 l0 := by kernel_rfl
set_option maxRecDepth 100000 in
theorem laws_markInt64SS.l0_eq (x1 : Int) (x5 : Int) (r0 : List (List Int)) : laws_markInt64SS.l0 x1 x5 r0 = if x5 < (r0.length : Int) then (if 0 ≤ x5 then (if x5 < (r0.length : Int) then (if 0 ≤ x5 then (if x5 < (r0.length : Int) then ((laws_markInt64S.f (row r0 x5) x1).bind fun t17 => laws_markInt64SS.l0 t17.1 (wrapI (x5 + 1)) (r0.set (x5 : Int).toNat t17.2)) else none) else none) else none) else none) else (some (x1, r0)) := (loop_unfold _ _ _ _).trans (by kernel_rfl)
noncomputable def laws_markInt64SS.con : Con := ⟨laws_markInt64SS.fn.ins, laws_markInt64SS.fn.outs, Int × (List (List Int)), fun x => laws_markInt64SS.f x.1 x.2.1, fun r => ((r.1, ()), (r.2, ()))⟩
end Go.Proofs.YtacipknfhoadoaaDoor.P
set_option linter.unusedVariables false
namespace Go.Proofs.YtacipknfhoadoaaDoor.P
open Go Go.RowKit Go.Proofs.YtacipknfhoadoaaDoor.D
noncomputable def laws_markGroup.E : Env := { tt := TT, con := [(36, laws_markInt64SS.con)], frz := [], rows := [], live := [], n := 10, pin := 1, nils := [] }
noncomputable def laws_markGroup.fn : D.Fn := { body := Tryd.f18.body.getD .skip, res := Tryd.f18.results.toList, ins := [.agg [.own 25 true (.sl 2 (.int .i64))], .one (.v (.int .i64))], outs := [.one (.v (.int .i64))] }
def laws_markGroup.enc (y : lsd (flats laws_markGroup.fn.outs) × lsd (ios laws_markGroup.fn.ins)) : Int × (List (List Int)) := (y.1.1, y.2.1)
noncomputable def laws_markGroup.f (l0_0 : List (List Int)) (a1 : Int) : Option (Int × (List (List Int))) := denF laws_markGroup.E laws_markGroup.fn laws_markGroup.enc (l0_0, a1, ())
set_option maxRecDepth 100000 in
theorem laws_markGroup.f_eq (l0_0 : List (List Int)) (a1 : Int) : laws_markGroup.f l0_0 a1 = (laws_markInt64SS.f l0_0 a1).bind fun t8 => some (t8.1, t8.2) := by kernel_rfl
end Go.Proofs.YtacipknfhoadoaaDoor.P
set_option linter.unusedVariables false
namespace Go.Proofs.YtacipknfhoadoaaDoor.P
open Go Go.RowKit Go.Proofs.YtacipknfhoadoaaDoor.D
noncomputable def laws_markModule.E : Env := { tt := TT, con := [(37, laws_markInt64S.con)], frz := [], rows := [], live := [], n := 10, pin := 1, nils := [] }
noncomputable def laws_markModule.fn : D.Fn := { body := Tryd.f19.body.getD .skip, res := Tryd.f19.results.toList, ins := [.agg [.v (.int .i64), .own 2 true (.int .i64)], .one (.v (.int .i64))], outs := [.one (.v (.int .i64))] }
def laws_markModule.enc (y : lsd (flats laws_markModule.fn.outs) × lsd (ios laws_markModule.fn.ins)) : Int × (List Int) := (y.1.1, y.2.1)
noncomputable def laws_markModule.f (a0_0 : Int) (l0_1 : List Int) (a1 : Int) : Option (Int × (List Int)) := denF laws_markModule.E laws_markModule.fn laws_markModule.enc (a0_0, l0_1, a1, ())
set_option maxRecDepth 100000 in
theorem laws_markModule.f_eq (a0_0 : Int) (l0_1 : List Int) (a1 : Int) : laws_markModule.f a0_0 l0_1 a1 = (laws_markInt64S.f l0_1 a1).bind fun t8 => some (t8.1, t8.2) := by kernel_rfl
end Go.Proofs.YtacipknfhoadoaaDoor.P
set_option linter.unusedVariables false
namespace Go.Proofs.YtacipknfhoadoaaDoor.P
open Go Go.RowKit Go.Proofs.YtacipknfhoadoaaDoor.D
end Go.Proofs.YtacipknfhoadoaaDoor.P
set_option linter.unusedVariables false
namespace Go.Proofs.YtacipknfhoadoaaDoor.V
open Go Go.RowKit Go.Proofs.YtacipknfhoadoaaDoor.D
theorem w64 {x : Int} (h0 : -9223372036854775808 ≤ x) (h1 : x ≤ 9223372036854775807) : wrapI x = x := by unfold wrapI; rw [hid_eq]; unfold wrap64; omega
theorem wn {j : Nat} (h : j < 4611686018427387904) : wrapI ((j : Int) + 1) = ((j + 1 : Nat) : Int) := by rw [w64 (by omega) (by omega)]; omega
theorem go_pos {α : Type} {p : Prop} {inst : Decidable p} {a b r : α} (h : p) (k : a = r) : (if p then a else b) = r := by rw [if_pos h]; exact k
theorem go_neg {α : Type} {p : Prop} {inst : Decidable p} {a b r : α} (h : ¬ p) (k : b = r) : (if p then a else b) = r := by rw [if_neg h]; exact k
theorem go_bind {α β : Type} {c : Option α} {f : α → Option β} {a : α} {r : Option β} (h : c = some a) (k : f a = r) : c.bind f = r := by rw [h]; exact k
theorem maxLen_le : maxLen ≤ 9223372036854775807 := by unfold maxLen; omega
noncomputable def B (p : Prop) : Bool := @decide p (Classical.propDecidable p)
theorem B_pos {p : Prop} (h : p) : B p = true := by unfold B; simp [h]
theorem B_neg {p : Prop} (h : ¬ p) : B p = false := by unfold B; simp [h]
theorem B_not {p : Prop} (h : ¬ p) : ¬ (B p = true) := by rw [B_neg h]; decide
theorem B_congr {p q : Prop} (h : p ↔ q) : B p = B q := by rw [show p = q from propext h]
theorem B_decide (p : Prop) {inst : Decidable p} : decide p = B p := by by_cases h : p <;> simp [h, B]
theorem B_true : B True = true := B_pos trivial
theorem scan {R : Type} (n : Nat) (L : Int → R) (P : Int → Prop) (bad : R)
    (hs : ∀ i : Int, 0 ≤ i → i < n → (∀ j : Int, 0 ≤ j → j < i → P j) → (P i → L i = L (i + 1)) ∧ (¬ P i → L i = bad)) :
    ((∀ j : Int, 0 ≤ j → j < n → P j) ∧ L 0 = L n) ∨ (∃ m : Int, 0 ≤ m ∧ m < n ∧ (∀ j : Int, 0 ≤ j → j < m → P j) ∧ ¬ P m ∧ L 0 = L m ∧ L 0 = bad) := by
  suffices H : ∀ d m : Nat, m + d = n → (∀ j : Int, 0 ≤ j → j < m → P j) →
      ((∀ j : Int, 0 ≤ j → j < n → P j) ∧ L m = L n) ∨ (∃ i : Int, 0 ≤ i ∧ i < n ∧ (∀ j : Int, 0 ≤ j → j < i → P j) ∧ ¬ P i ∧ L m = L i ∧ L m = bad) by
    simpa using H n 0 (by omega) (fun j h0 h1 => by omega)
  intro d
  induction d with
  | zero =>
    intro m hm hp
    have : (m : Int) = n := by omega
    rw [this] at hp ⊢
    exact .inl ⟨hp, rfl⟩
  | succ d ih =>
    intro m hm hp
    obtain ⟨h1, h2⟩ := hs m (by omega) (by omega) hp
    by_cases h : P m
    · have hp' : ∀ j : Int, 0 ≤ j → j < ((m + 1 : Nat) : Int) → P j := fun j h0 hj => by
        by_cases e : j = m
        · rw [e]; exact h
        · exact hp j h0 (by omega)
      have := ih (m + 1) (by omega) hp'
      rwa [Int.natCast_add, Int.natCast_one, ← h1 h] at this
    · exact .inr ⟨m, by omega, by omega, hp, h, rfl, h2 h⟩
theorem scanB (n : Nat) (L : Int → Option Bool) (P : Int → Prop) (Q : Prop)
    (hs : ∀ i : Int, 0 ≤ i → i < n → (∀ j : Int, 0 ≤ j → j < i → P j) → (P i → L i = L (i + 1)) ∧ (¬ P i → L i = some false))
    (he : (∀ j : Int, 0 ≤ j → j < n → P j) → L n = some (B Q)) : L 0 = some (B ((∀ j : Int, 0 ≤ j → j < n → P j) ∧ Q)) := by
  rcases scan n L P (some false) hs with ⟨h1, h2⟩ | ⟨j, h0, h1, _, h2, _, h3⟩
  · rw [B_congr (show ((∀ j : Int, 0 ≤ j → j < n → P j) ∧ Q) ↔ Q from ⟨fun h => h.2, fun h => ⟨h1, h⟩⟩), h2]
    exact he h1
  · rw [B_neg fun h => h2 (h.1 j h0 h1)]
    exact h3
theorem scanT (n : Nat) (L : Int → Option Bool) (P : Int → Prop)
    (hs : ∀ i : Int, 0 ≤ i → i < n → (∀ j : Int, 0 ≤ j → j < i → P j) → (P i → L i = L (i + 1)) ∧ (¬ P i → L i = some false))
    (he : (∀ j : Int, 0 ≤ j → j < n → P j) → L n = some true) : L 0 = some (B (∀ j : Int, 0 ≤ j → j < n → P j)) := by
  have := scanB n L P True hs (fun h => by rw [B_true]; exact he h)
  rwa [B_congr (show ((∀ j : Int, 0 ≤ j → j < n → P j) ∧ True) ↔ _ from ⟨fun h => h.1, fun h => ⟨h, trivial⟩⟩)] at this
theorem scanI {R : Type} (n : Nat) (L : Int → R) (P : Int → Prop) (bad go : R)
    (hs : ∀ i : Int, 0 ≤ i → i < n → (∀ j : Int, 0 ≤ j → j < i → P j) → (P i → L i = L (i + 1)) ∧ (¬ P i → L i = bad)) (he : (∀ j : Int, 0 ≤ j → j < n → P j) → L n = go) :
    ((∀ j : Int, 0 ≤ j → j < n → P j) → L 0 = go) ∧ (¬ (∀ j : Int, 0 ≤ j → j < n → P j) → L 0 = bad) := by
  rcases scan n L P bad hs with ⟨h1, h2⟩ | ⟨j, h0, h1, _, h2, _, h3⟩
  · exact ⟨fun _ => h2.trans (he h1), fun h => absurd h1 h⟩
  · exact ⟨fun h => absurd (h j h0 h1) h2, fun _ => h3⟩
theorem up {R : Type} (n : Nat) (L : Nat → R) (h : ∀ i, i < n → L i = L (i + 1)) : L 0 = L n := by
  suffices H : ∀ m, m ≤ n → L 0 = L m from H n (Nat.le_refl _)
  intro m
  induction m with
  | zero => exact fun _ => rfl
  | succ m ih => exact fun hm => (ih (by omega)).trans (h m (by omega))
theorem rd_get {xs : List Int} {j : Nat} (h : j < xs.length) : rd xs (j : Int) = xs[j] := by simp [rd, List.getD_eq_getElem?_getD, List.getElem?_eq_getElem h]
theorem rd_at {xs : List Int} {i : Int} (h0 : 0 ≤ i) (h1 : i < xs.length) : xs[i.toNat]? = some (rd xs i) := by
  have h : i.toNat < xs.length := by omega
  simp [rd, List.getD_eq_getElem?_getD, List.getElem?_eq_getElem h]
theorem rd_mem {xs : List Int} {i : Int} (h0 : 0 ≤ i) (h1 : i < xs.length) : rd xs i ∈ xs := List.mem_of_getElem? (rd_at h0 h1)
theorem ext_rd {xs ys : List Int} (hl : xs.length = ys.length) (h : ∀ i : Int, 0 ≤ i → i < xs.length → rd xs i = rd ys i) : xs = ys := by
  apply List.ext_getElem hl
  intro i h1 h2
  have := h i (by omega) (by omega)
  simpa [rd, List.getD_eq_getElem?_getD, List.getElem?_eq_getElem h1, List.getElem?_eq_getElem h2] using this
theorem row_get {g : List (List Int)} {j : Nat} (h : j < g.length) : row g (j : Int) = g[j] := by simp [row, List.getD_eq_getElem?_getD, List.getElem?_eq_getElem h]
theorem row_mem {g : List (List Int)} {a : Int} (h0 : 0 ≤ a) (h1 : a < g.length) : row g a ∈ g := by
  have h : a.toNat < g.length := by omega
  unfold row
  rw [List.getD_eq_getElem?_getD, List.getElem?_eq_getElem h]
  exact List.getElem_mem h
theorem mem_row {g : List (List Int)} {r : List Int} (h : r ∈ g) : ∃ i : Int, 0 ≤ i ∧ i < g.length ∧ row g i = r := by
  obtain ⟨i, hi, rfl⟩ := List.mem_iff_getElem.1 h
  exact ⟨i, by omega, by omega, row_get hi⟩
theorem ext_row {xs ys : List (List Int)} (hl : xs.length = ys.length) (h : ∀ i : Int, 0 ≤ i → i < xs.length → row xs i = row ys i) : xs = ys := by
  apply List.ext_getElem hl
  intro i h1 h2
  have := h i (by omega) (by omega)
  rwa [row_get h1, row_get h2] at this
def AllIn (n : Int) (xs : List Int) : Prop := ∀ i : Int, 0 ≤ i → i < xs.length → 0 ≤ rd xs i ∧ rd xs i < n
theorem allIn_two {n x y : Int} (h0 : 0 ≤ x) (h1 : x < n) (h2 : 0 ≤ y) (h3 : y < n) : AllIn n [x, y] := by
  intro i i0 i1
  have : i = 0 ∨ i = 1 := by simp at i1; omega
  rcases this with rfl | rfl <;> simp [rd, *]
theorem AllIn.mem {n : Int} {xs : List Int} (h : AllIn n xs) {x : Int} (hx : x ∈ xs) : 0 ≤ x ∧ x < n := by
  obtain ⟨i, hi, rfl⟩ := List.mem_iff_getElem.1 hx
  have := h i (by omega) (by omega)
  rwa [rd_get hi] at this
theorem allIn_of {n : Int} {xs : List Int} (h : ∀ x ∈ xs, 0 ≤ x ∧ x < n) : AllIn n xs := fun i i0 i1 => h _ (rd_mem i0 i1)
theorem AllIn.drop {n : Int} {xs : List Int} (h : AllIn n xs) (j : Nat) : AllIn n (xs.drop j) := allIn_of fun x hx => h.mem (List.mem_of_mem_drop hx)
theorem AllIn.take {n : Int} {xs : List Int} (h : AllIn n xs) (j : Nat) : AllIn n (xs.take j) := allIn_of fun x hx => h.mem (List.mem_of_mem_take hx)
theorem AllIn.append {n : Int} {xs ys : List Int} (h : AllIn n xs) (k : AllIn n ys) : AllIn n (xs ++ ys) := allIn_of fun x hx => by
  rcases List.mem_append.1 hx with h' | h'
  · exact h.mem h'
  · exact k.mem h'
theorem tmod_nn {a m : Int} (h : 0 ≤ a) : Int.tmod a m = a % m := Int.tmod_eq_emod_of_nonneg h
theorem tdiv_nn {a m : Int} (h : 0 ≤ a) : Int.tdiv a m = a / m := Int.tdiv_eq_ediv_of_nonneg h
end Go.Proofs.YtacipknfhoadoaaDoor.V
set_option linter.unusedVariables false
set_option linter.unusedSimpArgs false
set_option maxHeartbeats 2000000
set_option maxRecDepth 20000
namespace Go.Proofs.YtacipknfhoadoaaDoor.V
open Go.RowKit Go.Proofs.YtacipknfhoadoaaDoor.D Go.Proofs.YtacipknfhoadoaaDoor.P
theorem copy_step {α : Type} (xs : List α) (d : α) (m : Nat) (hm : m < xs.length) :
    (xs.take m ++ List.replicate (xs.length - m) d).set m xs[m] = xs.take (m + 1) ++ List.replicate (xs.length - (m + 1)) d := by
  have h1 : (xs.take m).length = m := by rw [List.length_take]; omega
  rw [List.set_append, if_neg (by omega), h1, Nat.sub_self]
  rw [show xs.length - m = (xs.length - (m + 1)) + 1 by omega, List.replicate_succ, List.set_cons_zero]
  rw [List.take_succ_eq_append_getElem hm, List.append_assoc]; rfl
theorem copy_len {α : Type} (xs : List α) (d : α) (m : Nat) (hm : m ≤ xs.length) : (xs.take m ++ List.replicate (xs.length - m) d).length = xs.length := by
  rw [List.length_append, List.length_take, List.length_replicate]; omega
theorem toInt64S (xs : List Int) (hl : xs.length ≤ 1048576) : laws_toInt64S.f xs = some xs := by
  rw [laws_toInt64S.f_eq, Int.toNat_natCast]
  (with_reducible repeat (first | refine go_pos (by first | assumption | omega | rfl | exact B_pos (by omega)) ?_ | refine go_neg (by first | assumption | omega | decide | exact B_not (by omega)) ?_ | refine go_bind (by first | assumption) ?_ | dsimp only))
  have := up xs.length (fun m => laws_toInt64S.l0 xs (m : Int) (xs.take m ++ List.replicate (xs.length - m) 0)) (fun m hm => by
    have hw : wrapI ((m : Int) + 1) = ((m + 1 : Nat) : Int) := by rw [w64 (by omega) (by omega)]; omega
    have l1 := copy_len xs (0 : Int) m (by omega)
    rw [← copy_step xs 0 m hm, laws_toInt64S.l0_eq, hw, Int.toNat_natCast, rd_get hm]
    ((with_reducible repeat (first | refine go_pos (by first | assumption | omega | rfl | exact B_pos (by omega)) ?_ | refine go_neg (by first | assumption | omega | decide | exact B_not (by omega)) ?_ | refine go_bind (by first | assumption) ?_ | dsimp only)); first | done | (with_reducible rfl) | simp (disch := omega) only [w64] | (show False; done)))
  simp only [List.take_zero, List.nil_append, Nat.sub_zero, List.take_length, Nat.sub_self, List.replicate_zero, List.append_nil, Int.natCast_zero] at this
  rw [this, laws_toInt64S.l0_eq]
  ((with_reducible repeat (first | refine go_pos (by first | assumption | omega | rfl | exact B_pos (by omega)) ?_ | refine go_neg (by first | assumption | omega | decide | exact B_not (by omega)) ?_ | refine go_bind (by first | assumption) ?_ | dsimp only)); first | done | (with_reducible rfl) | simp (disch := omega) only [w64] | (show False; done))
theorem toInt64SS (g : List (List Int)) (hl : g.length ≤ 1048576) (hr : ∀ r ∈ g, r.length ≤ 1048576) : laws_toInt64SS.f g = some g := by
  rw [laws_toInt64SS.f_eq, Int.toNat_natCast]
  (with_reducible repeat (first | refine go_pos (by first | assumption | omega | rfl | exact B_pos (by omega)) ?_ | refine go_neg (by first | assumption | omega | decide | exact B_not (by omega)) ?_ | refine go_bind (by first | assumption) ?_ | dsimp only))
  have := up g.length (fun m => laws_toInt64SS.l0 g (m : Int) (g.take m ++ List.replicate (g.length - m) [])) (fun m hm => by
    have hw : wrapI ((m : Int) + 1) = ((m + 1 : Nat) : Int) := by rw [w64 (by omega) (by omega)]; omega
    have l1 := copy_len g ([] : List Int) m (by omega)
    have ht := toInt64S g[m] (hr _ (List.getElem_mem hm))
    rw [← copy_step g [] m hm, laws_toInt64SS.l0_eq, hw, Int.toNat_natCast, row_get hm]
    ((with_reducible repeat (first | refine go_pos (by first | assumption | omega | rfl | exact B_pos (by omega)) ?_ | refine go_neg (by first | assumption | omega | decide | exact B_not (by omega)) ?_ | refine go_bind (by first | assumption) ?_ | dsimp only)); first | done | (with_reducible rfl) | simp (disch := omega) only [w64] | (show False; done)))
  simp only [List.take_zero, List.nil_append, Nat.sub_zero, List.take_length, Nat.sub_self, List.replicate_zero, List.append_nil, Int.natCast_zero] at this
  rw [this, laws_toInt64SS.l0_eq]
  ((with_reducible repeat (first | refine go_pos (by first | assumption | omega | rfl | exact B_pos (by omega)) ?_ | refine go_neg (by first | assumption | omega | decide | exact B_not (by omega)) ?_ | refine go_bind (by first | assumption) ?_ | dsimp only)); first | done | (with_reducible rfl) | simp (disch := omega) only [w64] | (show False; done))
theorem toGroup (g : List (List Int)) (hl : g.length ≤ 1048576) (hr : ∀ r ∈ g, r.length ≤ 1048576) : laws_toGroup.f g = some g := by
  rw [laws_toGroup.f_eq]; ((with_reducible repeat (first | refine go_pos (by first | assumption | omega | rfl | exact B_pos (by omega)) ?_ | refine go_neg (by first | assumption | omega | decide | exact B_not (by omega)) ?_ | refine go_bind (by first | assumption | exact toInt64SS _ hl hr) ?_ | dsimp only)); first | done | (with_reducible rfl) | simp (disch := omega) only [w64] | (show False; done))
theorem toModule (m : Int) (u : List Int) (hl : u.length ≤ 1048576) : laws_toModule.f m u = some (m, u) := by
  rw [laws_toModule.f_eq]; ((with_reducible repeat (first | refine go_pos (by first | assumption | omega | rfl | exact B_pos (by omega)) ?_ | refine go_neg (by first | assumption | omega | decide | exact B_not (by omega)) ?_ | refine go_bind (by first | assumption | exact toInt64S _ hl) ?_ | dsimp only)); first | done | (with_reducible rfl) | simp (disch := omega) only [w64] | (show False; done))
theorem eqInt64S (xs ys : List Int) (hl : xs.length ≤ maxLen) : laws_eqInt64S.f xs ys = some (B (xs = ys)) := by
  have hm := maxLen_le
  rw [laws_eqInt64S.f_eq]
  by_cases h : (xs.length : Int) = ys.length
  rotate_left
  · rw [B_neg fun e => h (by rw [e])]
    ((with_reducible repeat (first | refine go_pos (by first | assumption | omega | rfl | exact B_pos (by omega)) ?_ | refine go_neg (by first | assumption | omega | decide | exact B_not (by omega)) ?_ | refine go_bind (by first | assumption) ?_ | dsimp only)); first | done | (with_reducible rfl) | simp (disch := omega) only [w64] | (show False; done))
  (with_reducible repeat (first | refine go_pos (by first | assumption | omega | rfl | exact B_pos (by omega)) ?_ | refine go_neg (by first | assumption | omega | decide | exact B_not (by omega)) ?_ | refine go_bind (by first | assumption) ?_ | dsimp only))
  rw [B_congr (show xs = ys ↔ ∀ i : Int, 0 ≤ i → i < xs.length → rd xs i = rd ys i from ⟨fun e i _ _ => by rw [e], fun e => ext_rd (by omega) e⟩)]
  refine scanT xs.length (fun i => laws_eqInt64S.l0 xs ys i) (fun i => rd xs i = rd ys i) (fun i i0 i1 _ => ?_) (fun _ => by (rw [laws_eqInt64S.l0_eq]); ((with_reducible repeat (first | refine go_pos (by first | assumption | omega | rfl | exact B_pos (by omega)) ?_ | refine go_neg (by first | assumption | omega | decide | exact B_not (by omega)) ?_ | refine go_bind (by first | assumption) ?_ | dsimp only)); first | done | (with_reducible rfl) | simp (disch := omega) only [w64] | (show False; done)))
  refine ⟨fun h => ?_, fun h => ?_⟩ <;> (rw [laws_eqInt64S.l0_eq]) <;> ((with_reducible repeat (first | refine go_pos (by first | assumption | omega | rfl | exact B_pos (by omega)) ?_ | refine go_neg (by first | assumption | omega | decide | exact B_not (by omega)) ?_ | refine go_bind (by first | assumption) ?_ | dsimp only)); first | done | (with_reducible rfl) | simp (disch := omega) only [w64] | (show False; done))
theorem eqInt64SS (xs ys : List (List Int)) (hl : xs.length ≤ maxLen) (hr : ∀ r ∈ xs, r.length ≤ maxLen) : laws_eqInt64SS.f xs ys = some (B (xs = ys)) := by
  have hm := maxLen_le
  rw [laws_eqInt64SS.f_eq]
  by_cases h : (xs.length : Int) = ys.length
  rotate_left
  · rw [B_neg fun e => h (by rw [e])]
    ((with_reducible repeat (first | refine go_pos (by first | assumption | omega | rfl | exact B_pos (by omega)) ?_ | refine go_neg (by first | assumption | omega | decide | exact B_not (by omega)) ?_ | refine go_bind (by first | assumption) ?_ | dsimp only)); first | done | (with_reducible rfl) | simp (disch := omega) only [w64] | (show False; done))
  (with_reducible repeat (first | refine go_pos (by first | assumption | omega | rfl | exact B_pos (by omega)) ?_ | refine go_neg (by first | assumption | omega | decide | exact B_not (by omega)) ?_ | refine go_bind (by first | assumption) ?_ | dsimp only))
  rw [B_congr (show xs = ys ↔ ∀ i : Int, 0 ≤ i → i < xs.length → row xs i = row ys i from ⟨fun e i _ _ => by rw [e], fun e => ext_row (by omega) e⟩)]
  refine scanT xs.length (fun i => laws_eqInt64SS.l0 xs ys i) (fun i => row xs i = row ys i) (fun i i0 i1 _ => ?_) (fun _ => by (rw [laws_eqInt64SS.l0_eq]); ((with_reducible repeat (first | refine go_pos (by first | assumption | omega | rfl | exact B_pos (by omega)) ?_ | refine go_neg (by first | assumption | omega | decide | exact B_not (by omega)) ?_ | refine go_bind (by first | assumption) ?_ | dsimp only)); first | done | (with_reducible rfl) | simp (disch := omega) only [w64] | (show False; done)))
  have he := eqInt64S (row xs i) (row ys i) (hr _ (row_mem i0 i1))
  refine ⟨fun h => ?_, fun h => ?_⟩
  · rw [B_pos h] at he
    (rw [laws_eqInt64SS.l0_eq])
    ((with_reducible repeat (first | refine go_pos (by first | assumption | omega | rfl | exact B_pos (by omega)) ?_ | refine go_neg (by first | assumption | omega | decide | exact B_not (by omega)) ?_ | refine go_bind (by first | assumption) ?_ | dsimp only)); first | done | (with_reducible rfl) | simp (disch := omega) only [w64] | (show False; done))
  · rw [B_neg h] at he
    (rw [laws_eqInt64SS.l0_eq])
    ((with_reducible repeat (first | refine go_pos (by first | assumption | omega | rfl | exact B_pos (by omega)) ?_ | refine go_neg (by first | assumption | omega | decide | exact B_not (by omega)) ?_ | refine go_bind (by first | assumption) ?_ | dsimp only)); first | done | (with_reducible rfl) | simp (disch := omega) only [w64] | (show False; done))
theorem eqGroup (xs ys : List (List Int)) (hl : xs.length ≤ maxLen) (hr : ∀ r ∈ xs, r.length ≤ maxLen) : laws_eqGroup.f xs ys = some (B (xs = ys)) := by
  have he := eqInt64SS xs ys hl hr
  rw [laws_eqGroup.f_eq, he]
  by_cases h : xs = ys
  · rw [B_pos h]; rfl
  · rw [B_neg h]; rfl
theorem eqModule (m n : Int) (u v : List Int) (hl : u.length ≤ maxLen) : laws_eqModule.f m u n v = some (B (m = n ∧ u = v)) := by
  have he := eqInt64S u v hl
  rw [laws_eqModule.f_eq]
  by_cases h : m = n ∧ u = v
  · rw [B_pos h.2] at he; rw [B_pos h]; ((with_reducible repeat (first | refine go_pos (by first | assumption | omega | rfl | exact B_pos (by omega)) ?_ | refine go_neg (by first | assumption | omega | decide | exact B_not (by omega)) ?_ | refine go_bind (by first | assumption) ?_ | dsimp only)); first | done | (with_reducible rfl) | simp (disch := omega) only [w64] | (show False; done))
  · rw [B_neg h]
    by_cases h1 : m = n
    · rw [B_neg fun k => h ⟨h1, k⟩] at he; ((with_reducible repeat (first | refine go_pos (by first | assumption | omega | rfl | exact B_pos (by omega)) ?_ | refine go_neg (by first | assumption | omega | decide | exact B_not (by omega)) ?_ | refine go_bind (by first | assumption) ?_ | dsimp only)); first | done | (with_reducible rfl) | simp (disch := omega) only [w64] | (show False; done))
    · ((with_reducible repeat (first | refine go_pos (by first | assumption | omega | rfl | exact B_pos (by omega)) ?_ | refine go_neg (by first | assumption | omega | decide | exact B_not (by omega)) ?_ | refine go_bind (by first | assumption) ?_ | dsimp only)); first | done | (with_reducible rfl) | simp (disch := omega) only [w64] | (show False; done))
theorem same_Group (xs : List (List Int)) (hl : xs.length ≤ maxLen) (hr : ∀ r ∈ xs, r.length ≤ maxLen) : laws_eqGroup.f xs xs = some true := by rw [eqGroup xs xs hl hr, B_pos rfl]
theorem same_Module (m : Int) (u : List Int) (hl : u.length ≤ maxLen) : laws_eqModule.f m u m u = some true := by rw [eqModule m m u u hl, B_pos ⟨rfl, rfl⟩]
theorem szInt64S (xs : List Int) (left : Int) (hl : xs.length ≤ maxLen) (l0 : 0 ≤ left) (l1 : left ≤ 1048576) :
    ∃ t, laws_szInt64S.f xs left = some t ∧ (t < 0 ∨ (0 ≤ t ∧ t ≤ 1048576 ∧ xs.length ≤ 1048576)) := by
  have hm := maxLen_le
  rw [laws_szInt64S.f_eq, w64 (by omega) (by omega)]
  by_cases h : left - (xs.length : Int) < 0
  · exact ⟨_, if_pos h, .inl (by omega)⟩
  · exact ⟨_, if_neg h, .inr (by omega)⟩
theorem szInt64SS (g : List (List Int)) (left : Int) (hl : g.length ≤ maxLen) (hr : ∀ r ∈ g, r.length ≤ maxLen) (l0 : 0 ≤ left) (l1 : left ≤ 1048576) :
    ∃ t, laws_szInt64SS.f g left = some t ∧ (t < 0 ∨ (0 ≤ t ∧ t ≤ 1048576 ∧ g.length ≤ 1048576 ∧ ∀ r ∈ g, r.length ≤ 1048576)) := by
  have hm := maxLen_le
  rw [laws_szInt64SS.f_eq, w64 (by omega) (by omega)]
  by_cases h : left - (g.length : Int) < 0
  · exact ⟨_, if_pos h, .inl (by omega)⟩
  rw [if_neg h]
  have H : ∀ d m : Nat, m + d = g.length → ∀ s : Int, 0 ≤ s → s ≤ 1048576 → (∀ j, j < m → (row g j).length ≤ 1048576) → ∃ t, laws_szInt64SS.l0 g s (m : Int) = some t ∧ (t < 0 ∨ (0 ≤ t ∧ t ≤ 1048576 ∧ g.length ≤ 1048576 ∧ ∀ r ∈ g, r.length ≤ 1048576)) := by
    intro d
    induction d with
    | zero =>
      intro m hd s s0 s1 hs
      obtain rfl : m = g.length := by omega
      refine ⟨s, by (rw [laws_szInt64SS.l0_eq]); ((with_reducible repeat (first | refine go_pos (by first | assumption | omega | rfl | exact B_pos (by omega)) ?_ | refine go_neg (by first | assumption | omega | decide | exact B_not (by omega)) ?_ | refine go_bind (by first | assumption) ?_ | dsimp only)); first | done | (with_reducible rfl) | simp (disch := omega) only [w64] | (show False; done)), .inr ⟨s0, s1, by omega, fun r hr' => ?_⟩⟩
      obtain ⟨i, i0, i1, rfl⟩ := mem_row hr'
      have := hs i.toNat (by omega)
      rwa [show ((i.toNat : Nat) : Int) = i by omega] at this
    | succ d ih =>
      intro m hd s s0 s1 hs
      obtain ⟨t, ht, h⟩ := szInt64S (row g m) s (hr _ (row_mem (by omega) (by omega))) s0 s1
      have hw : wrapI ((m : Int) + 1) = ((m + 1 : Nat) : Int) := by rw [w64 (by omega) (by omega)]; omega
      rcases h with h | ⟨h0, h1, h2⟩
      · refine ⟨-1, ?_, .inl (by omega)⟩
        (rw [laws_szInt64SS.l0_eq])
        ((with_reducible repeat (first | refine go_pos (by first | assumption | omega | rfl | exact B_pos (by omega)) ?_ | refine go_neg (by first | assumption | omega | decide | exact B_not (by omega)) ?_ | refine go_bind (by first | assumption) ?_ | dsimp only)); first | done | (with_reducible rfl) | simp (disch := omega) only [w64] | (show False; done))
      · obtain ⟨t', ht', h'⟩ := ih (m + 1) (by omega) t h0 h1 (fun j hj => by
          by_cases e : j = m
          · rw [e]; exact h2
          · exact hs j (by omega))
        refine ⟨t', ?_, h'⟩
        (rw [laws_szInt64SS.l0_eq, hw])
        (with_reducible repeat (first | refine go_pos (by first | assumption | omega | rfl | exact B_pos (by omega)) ?_ | refine go_neg (by first | assumption | omega | decide | exact B_not (by omega)) ?_ | refine go_bind (by first | assumption) ?_ | dsimp only))
        exact ht'
  have := H g.length 0 (by omega) (left - g.length) (by omega) (by omega) (fun j hj => by omega)
  exact this
theorem szGroup (g : List (List Int)) (left : Int) (hl : g.length ≤ maxLen) (hr : ∀ r ∈ g, r.length ≤ maxLen) (l0 : 0 ≤ left) (l1 : left ≤ 1048576) :
    ∃ t, laws_szGroup.f g left = some t ∧ (t < 0 ∨ (0 ≤ t ∧ t ≤ 1048576 ∧ g.length ≤ 1048576 ∧ ∀ r ∈ g, r.length ≤ 1048576)) := by
  obtain ⟨t, ht, h⟩ := szInt64SS g left hl hr l0 l1
  rw [laws_szGroup.f_eq]
  rcases h with h | h
  · exact ⟨-1, by ((with_reducible repeat (first | refine go_pos (by first | assumption | omega | rfl | exact B_pos (by omega)) ?_ | refine go_neg (by first | assumption | omega | decide | exact B_not (by omega)) ?_ | refine go_bind (by first | assumption) ?_ | dsimp only)); first | done | (with_reducible rfl) | simp (disch := omega) only [w64] | (show False; done)), .inl (by omega)⟩
  · have := h.1
    exact ⟨t, by ((with_reducible repeat (first | refine go_pos (by first | assumption | omega | rfl | exact B_pos (by omega)) ?_ | refine go_neg (by first | assumption | omega | decide | exact B_not (by omega)) ?_ | refine go_bind (by first | assumption) ?_ | dsimp only)); first | done | (with_reducible rfl) | simp (disch := omega) only [w64] | (show False; done)), .inr h⟩
theorem szModule (m : Int) (u : List Int) (left : Int) (hl : u.length ≤ maxLen) (l0 : 0 ≤ left) (l1 : left ≤ 1048576) :
    ∃ t, laws_szModule.f m u left = some t ∧ (t < 0 ∨ (0 ≤ t ∧ t ≤ 1048576 ∧ u.length ≤ 1048576)) := by
  obtain ⟨t, ht, h⟩ := szInt64S u left hl l0 l1
  rw [laws_szModule.f_eq]
  rcases h with h | h
  · exact ⟨-1, by ((with_reducible repeat (first | refine go_pos (by first | assumption | omega | rfl | exact B_pos (by omega)) ?_ | refine go_neg (by first | assumption | omega | decide | exact B_not (by omega)) ?_ | refine go_bind (by first | assumption) ?_ | dsimp only)); first | done | (with_reducible rfl) | simp (disch := omega) only [w64] | (show False; done)), .inl (by omega)⟩
  · have := h.1
    exact ⟨t, by ((with_reducible repeat (first | refine go_pos (by first | assumption | omega | rfl | exact B_pos (by omega)) ?_ | refine go_neg (by first | assumption | omega | decide | exact B_not (by omega)) ?_ | refine go_bind (by first | assumption) ?_ | dsimp only)); first | done | (with_reducible rfl) | simp (disch := omega) only [w64] | (show False; done)), .inr h⟩
def MkS (a : Int) (n : Nat) : List Int := (List.range n).map fun (i : Nat) => a + (i : Int)
theorem MkS_length (a : Int) (n : Nat) : (MkS a n).length = n := by simp [MkS]
theorem MkS_step (a : Int) (xs : List Int) (m : Nat) (hm : m < xs.length) : (MkS a m ++ xs.drop m).set m (a + m) = MkS a (m + 1) ++ xs.drop (m + 1) := by
  rw [List.set_append, if_neg (by rw [MkS_length]; omega), MkS_length, Nat.sub_self, List.drop_eq_getElem_cons hm, List.set_cons_zero]
  simp [MkS, List.range_succ]
theorem markS (xs : List Int) (a : Int) (h0 : 0 ≤ a) (h1 : a + xs.length ≤ 4611686018427387904) : laws_markInt64S.f xs a = some (a + xs.length, MkS a xs.length) := by
  rw [laws_markInt64S.f_eq]
  have := up xs.length (fun m => laws_markInt64S.l0 (a + (m : Int)) (m : Int) (MkS a m ++ xs.drop m)) (fun m hm => by
    have hw : wrapI ((m : Int) + 1) = ((m + 1 : Nat) : Int) := by rw [w64 (by omega) (by omega)]; omega
    have hw2 : wrapI (a + (m : Int) + 1) = a + ((m + 1 : Nat) : Int) := by rw [w64 (by omega) (by omega)]; omega
    have l1 : (MkS a m ++ xs.drop m).length = xs.length := by rw [List.length_append, MkS_length, List.length_drop]; omega
    rw [← MkS_step a xs m hm, laws_markInt64S.l0_eq, hw, hw2, Int.toNat_natCast]
    ((with_reducible repeat (first | refine go_pos (by first | assumption | omega | rfl | exact B_pos (by omega)) ?_ | refine go_neg (by first | assumption | omega | decide | exact B_not (by omega)) ?_ | refine go_bind (by first | assumption) ?_ | dsimp only)); first | done | (with_reducible rfl) | simp (disch := omega) only [w64] | (show False; done)))
  simp only [Int.natCast_zero, Int.add_zero, List.drop_zero, List.drop_length, List.append_nil, show MkS a 0 = [] from rfl, List.nil_append] at this
  have hl := MkS_length a xs.length
  rw [this, laws_markInt64S.l0_eq]
  ((with_reducible repeat (first | refine go_pos (by first | assumption | omega | rfl | exact B_pos (by omega)) ?_ | refine go_neg (by first | assumption | omega | decide | exact B_not (by omega)) ?_ | refine go_bind (by first | assumption) ?_ | dsimp only)); first | done | (with_reducible rfl) | simp (disch := omega) only [w64] | (show False; done))
def tot : List (List Int) → Nat
  | [] => 0
  | r :: g => r.length + tot g
def MkSS (a : Int) : List (List Int) → List (List Int)
  | [] => []
  | r :: g => MkS a r.length :: MkSS (a + r.length) g
theorem tot_le (b : Nat) (g : List (List Int)) (h : ∀ r ∈ g, r.length ≤ b) : tot g ≤ g.length * b := by
  induction g with
  | nil => simp [tot]
  | cons r g ih =>
    have h1 := ih fun r hr => h r (List.mem_cons_of_mem _ hr)
    have h2 := h r (List.mem_cons_self ..)
    rw [List.length_cons, Nat.succ_mul, tot]
    omega
theorem tot_small {g : List (List Int)} (h1 : g.length ≤ 1048576) (h2 : ∀ r ∈ g, r.length ≤ 1048576) : tot g ≤ 1099511627776 :=
  Nat.le_trans (tot_le 1048576 g h2) (Nat.mul_le_mul_right 1048576 h1)
theorem markSS (g : List (List Int)) (a : Int) (h0 : 0 ≤ a) (h1 : a + tot g ≤ 4611686018427387904) (hl : g.length ≤ 4611686018427387904) : laws_markInt64SS.f g a = some (a + tot g, MkSS a g) := by
  rw [laws_markInt64SS.f_eq]
  suffices H : ∀ (g done : List (List Int)) (b : Int), 0 ≤ b → b + tot g ≤ 4611686018427387904 → done.length + g.length ≤ 4611686018427387904 → laws_markInt64SS.l0 b (done.length : Int) (done ++ g) = some (b + tot g, done ++ MkSS b g) from by
    simpa using H g [] a h0 h1 (by simpa using hl)
  intro g
  induction g with
  | nil =>
    intro done b b0 b1 hd
    rw [laws_markInt64SS.l0_eq, List.append_nil]
    have : b + ((tot [] : Nat) : Int) = b := by simp [tot]
    rw [this, MkSS, List.append_nil]
    ((with_reducible repeat (first | refine go_pos (by first | assumption | omega | rfl | exact B_pos (by omega)) ?_ | refine go_neg (by first | assumption | omega | decide | exact B_not (by omega)) ?_ | refine go_bind (by first | assumption) ?_ | dsimp only)); first | done | (with_reducible rfl) | simp (disch := omega) only [w64] | (show False; done))
  | cons r g ih =>
    intro done b b0 b1 hd
    simp only [tot, List.length_cons] at b1 hd
    have m1 : (done ++ r :: g).length = done.length + g.length + 1 := by rw [List.length_append, List.length_cons]; omega
    have hw : wrapI ((done.length : Int) + 1) = (((done ++ [MkS b r.length]).length : Nat) : Int) := by
      rw [w64 (by omega) (by omega), List.length_append, List.length_singleton]; omega
    have e : row (done ++ r :: g) (done.length : Int) = r := by simp [row, List.getD_eq_getElem?_getD]
    have e2 : (done ++ r :: g).set done.length (MkS b r.length) = (done ++ [MkS b r.length]) ++ g := by
      rw [List.set_append, if_neg (by omega), Nat.sub_self, List.set_cons_zero]; simp
    have hm := markS r b b0 (by omega)
    rw [laws_markInt64SS.l0_eq, hw, e, Int.toNat_natCast]
    (with_reducible repeat (first | refine go_pos (by first | assumption | omega | rfl | exact B_pos (by omega)) ?_ | refine go_neg (by first | assumption | omega | decide | exact B_not (by omega)) ?_ | refine go_bind (by first | assumption) ?_ | dsimp only))
    have := ih (done ++ [MkS b r.length]) (b + r.length) (by omega) (by omega) (by rw [List.length_append, List.length_singleton]; omega)
    rw [e2, this]
    simp only [MkSS, tot, List.append_assoc, List.singleton_append, Int.natCast_add, Int.add_assoc]
theorem markGroup (g : List (List Int)) (a : Int) (h0 : 0 ≤ a) (h1 : a + tot g ≤ 4611686018427387904) (hl : g.length ≤ 4611686018427387904) : laws_markGroup.f g a = some (a + tot g, MkSS a g) := by
  have := markSS g a h0 h1 hl
  rw [laws_markGroup.f_eq]; ((with_reducible repeat (first | refine go_pos (by first | assumption | omega | rfl | exact B_pos (by omega)) ?_ | refine go_neg (by first | assumption | omega | decide | exact B_not (by omega)) ?_ | refine go_bind (by first | assumption) ?_ | dsimp only)); first | done | (with_reducible rfl) | simp (disch := omega) only [w64] | (show False; done))
theorem markModule (m : Int) (xs : List Int) (a : Int) (h0 : 0 ≤ a) (h1 : a + xs.length ≤ 4611686018427387904) : laws_markModule.f m xs a = some (a + xs.length, MkS a xs.length) := by
  have := markS xs a h0 h1
  rw [laws_markModule.f_eq]; ((with_reducible repeat (first | refine go_pos (by first | assumption | omega | rfl | exact B_pos (by omega)) ?_ | refine go_neg (by first | assumption | omega | decide | exact B_not (by omega)) ?_ | refine go_bind (by first | assumption) ?_ | dsimp only)); first | done | (with_reducible rfl) | simp (disch := omega) only [w64] | (show False; done))
end Go.Proofs.YtacipknfhoadoaaDoor.V
set_option linter.unusedVariables false
namespace Go.Proofs.YtacipknfhoadoaaDoor.P
open Go Go.RowKit Go.Proofs.YtacipknfhoadoaaDoor.D
noncomputable def laws_markCochain.E : Env := { tt := TT, con := [(37, laws_markInt64S.con)], frz := [], rows := [], live := [], n := 10, pin := 1, nils := [] }
noncomputable def laws_markCochain.fn : D.Fn := { body := Tryd.f20.body.getD .skip, res := Tryd.f20.results.toList, ins := [.agg [.v (.int .i64), .own 2 true (.int .i64)], .one (.v (.int .i64))], outs := [.one (.v (.int .i64))] }
def laws_markCochain.enc (y : lsd (flats laws_markCochain.fn.outs) × lsd (ios laws_markCochain.fn.ins)) : Int × (List Int) := (y.1.1, y.2.1)
noncomputable def laws_markCochain.f (a0_0 : Int) (l0_1 : List Int) (a1 : Int) : Option (Int × (List Int)) := denF laws_markCochain.E laws_markCochain.fn laws_markCochain.enc (a0_0, l0_1, a1, ())
set_option maxRecDepth 100000 in
theorem laws_markCochain.f_eq (a0_0 : Int) (l0_1 : List Int) (a1 : Int) : laws_markCochain.f a0_0 l0_1 a1 = (laws_markInt64S.f l0_1 a1).bind fun t8 => some (t8.1, t8.2) := by kernel_rfl
end Go.Proofs.YtacipknfhoadoaaDoor.P
set_option linter.unusedVariables false
namespace Go.Proofs.YtacipknfhoadoaaDoor.P
open Go Go.RowKit Go.Proofs.YtacipknfhoadoaaDoor.D
end Go.Proofs.YtacipknfhoadoaaDoor.P
set_option linter.unusedVariables false
set_option linter.unusedSimpArgs false
set_option maxHeartbeats 2000000
namespace Go.Proofs.YtacipknfhoadoaaDoor.V
open Go.RowKit Go.Proofs.YtacipknfhoadoaaDoor.D Go.Proofs.YtacipknfhoadoaaDoor.P
theorem toCochain (m : Int) (u : List Int) (hl : u.length ≤ 1048576) : laws_toCochain.f m u = some (m, u) := by
  rw [laws_toCochain.f_eq]; ((with_reducible repeat (first | refine go_pos (by first | assumption | omega | rfl | exact B_pos (by omega)) ?_ | refine go_neg (by first | assumption | omega | decide | exact B_not (by omega)) ?_ | refine go_bind (by first | assumption | exact toInt64S _ hl) ?_ | dsimp only)); first | done | (with_reducible rfl) | simp (disch := omega) only [w64] | (show False; done))
theorem eqCochain (m n : Int) (u v : List Int) (hl : u.length ≤ maxLen) : laws_eqCochain.f m u n v = some (B (m = n ∧ u = v)) := by
  have he := eqInt64S u v hl
  rw [laws_eqCochain.f_eq]
  by_cases h : m = n ∧ u = v
  · rw [B_pos h.2] at he; rw [B_pos h]; ((with_reducible repeat (first | refine go_pos (by first | assumption | omega | rfl | exact B_pos (by omega)) ?_ | refine go_neg (by first | assumption | omega | decide | exact B_not (by omega)) ?_ | refine go_bind (by first | assumption) ?_ | dsimp only)); first | done | (with_reducible rfl) | simp (disch := omega) only [w64] | (show False; done))
  · rw [B_neg h]
    by_cases h1 : m = n
    · rw [B_neg fun k => h ⟨h1, k⟩] at he; ((with_reducible repeat (first | refine go_pos (by first | assumption | omega | rfl | exact B_pos (by omega)) ?_ | refine go_neg (by first | assumption | omega | decide | exact B_not (by omega)) ?_ | refine go_bind (by first | assumption) ?_ | dsimp only)); first | done | (with_reducible rfl) | simp (disch := omega) only [w64] | (show False; done))
    · ((with_reducible repeat (first | refine go_pos (by first | assumption | omega | rfl | exact B_pos (by omega)) ?_ | refine go_neg (by first | assumption | omega | decide | exact B_not (by omega)) ?_ | refine go_bind (by first | assumption) ?_ | dsimp only)); first | done | (with_reducible rfl) | simp (disch := omega) only [w64] | (show False; done))
theorem same_Cochain (m : Int) (u : List Int) (hl : u.length ≤ maxLen) : laws_eqCochain.f m u m u = some true := by rw [eqCochain m m u u hl, B_pos ⟨rfl, rfl⟩]
theorem szCochain (m : Int) (u : List Int) (left : Int) (hl : u.length ≤ maxLen) (l0 : 0 ≤ left) (l1 : left ≤ 1048576) :
    ∃ t, laws_szCochain.f m u left = some t ∧ (t < 0 ∨ (0 ≤ t ∧ t ≤ 1048576 ∧ u.length ≤ 1048576)) := by
  obtain ⟨t, ht, h⟩ := szInt64S u left hl l0 l1
  rw [laws_szCochain.f_eq]
  rcases h with h | h
  · exact ⟨-1, by ((with_reducible repeat (first | refine go_pos (by first | assumption | omega | rfl | exact B_pos (by omega)) ?_ | refine go_neg (by first | assumption | omega | decide | exact B_not (by omega)) ?_ | refine go_bind (by first | assumption) ?_ | dsimp only)); first | done | (with_reducible rfl) | simp (disch := omega) only [w64] | (show False; done)), .inl (by omega)⟩
  · have := h.1
    exact ⟨t, by ((with_reducible repeat (first | refine go_pos (by first | assumption | omega | rfl | exact B_pos (by omega)) ?_ | refine go_neg (by first | assumption | omega | decide | exact B_not (by omega)) ?_ | refine go_bind (by first | assumption) ?_ | dsimp only)); first | done | (with_reducible rfl) | simp (disch := omega) only [w64] | (show False; done)), .inr h⟩
theorem markCochain (m : Int) (xs : List Int) (a : Int) (h0 : 0 ≤ a) (h1 : a + xs.length ≤ 4611686018427387904) : laws_markCochain.f m xs a = some (a + xs.length, MkS a xs.length) := by
  have := markS xs a h0 h1
  rw [laws_markCochain.f_eq]; ((with_reducible repeat (first | refine go_pos (by first | assumption | omega | rfl | exact B_pos (by omega)) ?_ | refine go_neg (by first | assumption | omega | decide | exact B_not (by omega)) ?_ | refine go_bind (by first | assumption) ?_ | dsimp only)); first | done | (with_reducible rfl) | simp (disch := omega) only [w64] | (show False; done))
end Go.Proofs.YtacipknfhoadoaaDoor.V
set_option linter.unusedVariables false
namespace Go.Proofs.YtacipknfhoadoaaDoor.P
open Go Go.RowKit Go.Proofs.YtacipknfhoadoaaDoor.D
end Go.Proofs.YtacipknfhoadoaaDoor.P
set_option linter.unusedVariables false
set_option linter.unusedSimpArgs false
set_option maxHeartbeats 2000000
set_option maxRecDepth 20000
namespace Go.Proofs.YtacipknfhoadoaaDoor.V
open Go.RowKit Go.Proofs.YtacipknfhoadoaaDoor.D Go.Proofs.YtacipknfhoadoaaDoor.P
theorem areIn (n : Int) (xs : List Int) (hl : xs.length ≤ maxLen) : impl_areIn.f n xs = some (B (AllIn n xs)) := by
  have hm := maxLen_le
  rw [impl_areIn.f_eq]
  refine scanT xs.length (fun i => impl_areIn.l0 n xs (xs.length : Int) i) (fun i => 0 ≤ rd xs i ∧ rd xs i < n) (fun i h0 h1 _ => ?_) (fun _ => ?_)
  · refine ⟨fun h => ?_, fun h => ?_⟩ <;> (rw [impl_areIn.l0_eq])
    · ((with_reducible repeat (first | refine go_pos (by first | assumption | omega | rfl | exact B_pos (by omega)) ?_ | refine go_neg (by first | assumption | omega | decide | exact B_not (by omega)) ?_ | refine go_bind (by first | assumption) ?_ | dsimp only)); first | done | (with_reducible rfl) | simp (disch := omega) only [w64] | (show False; done))
    · by_cases h2 : rd xs i < 0 <;> ((with_reducible repeat (first | refine go_pos (by first | assumption | omega | rfl | exact B_pos (by omega)) ?_ | refine go_neg (by first | assumption | omega | decide | exact B_not (by omega)) ?_ | refine go_bind (by first | assumption) ?_ | dsimp only)); first | done | (with_reducible rfl) | simp (disch := omega) only [w64] | (show False; done))
  · (rw [impl_areIn.l0_eq])
    ((with_reducible repeat (first | refine go_pos (by first | assumption | omega | rfl | exact B_pos (by omega)) ?_ | refine go_neg (by first | assumption | omega | decide | exact B_not (by omega)) ?_ | refine go_bind (by first | assumption) ?_ | dsimp only)); first | done | (with_reducible rfl) | simp (disch := omega) only [w64] | (show False; done))
theorem index_ (xs : List Int) (x : Int) (hl : xs.length ≤ maxLen) :
    ((∀ i : Int, 0 ≤ i → i < xs.length → rd xs i ≠ x) ∧ slices_Index_int64.f xs x = some (-1)) ∨
    ∃ i : Int, 0 ≤ i ∧ i < xs.length ∧ (∀ j : Int, 0 ≤ j → j < i → rd xs j ≠ x) ∧ rd xs i = x ∧ slices_Index_int64.f xs x = some i := by
  have hm := maxLen_le
  rw [slices_Index_int64.f_eq]
  suffices H : ∀ d m : Nat, m + d = xs.length → (∀ j : Int, 0 ≤ j → j < m → rd xs j ≠ x) →
      ((∀ i : Int, 0 ≤ i → i < xs.length → rd xs i ≠ x) ∧ slices_Index_int64.l0 xs x (xs.length : Int) m = some (-1)) ∨
      ∃ i : Int, 0 ≤ i ∧ i < xs.length ∧ (∀ j : Int, 0 ≤ j → j < i → rd xs j ≠ x) ∧ rd xs i = x ∧ slices_Index_int64.l0 xs x (xs.length : Int) m = some i from
    H xs.length 0 (by omega) (fun j h0 h1 => by omega)
  intro d
  induction d with
  | zero =>
    intro m hd hp
    obtain rfl : m = xs.length := by omega
    refine .inl ⟨hp, ?_⟩
    (rw [slices_Index_int64.l0_eq])
    ((with_reducible repeat (first | refine go_pos (by first | assumption | omega | rfl | exact B_pos (by omega)) ?_ | refine go_neg (by first | assumption | omega | decide | exact B_not (by omega)) ?_ | refine go_bind (by first | assumption) ?_ | dsimp only)); first | done | (with_reducible rfl) | simp (disch := omega) only [w64] | (show False; done))
  | succ d ih =>
    intro m hd hp
    by_cases h2 : x = rd xs m
    · refine .inr ⟨m, by omega, by omega, hp, h2.symm, ?_⟩
      (rw [slices_Index_int64.l0_eq])
      ((with_reducible repeat (first | refine go_pos (by first | assumption | omega | rfl | exact B_pos (by omega)) ?_ | refine go_neg (by first | assumption | omega | decide | exact B_not (by omega)) ?_ | refine go_bind (by first | assumption) ?_ | dsimp only)); first | done | (with_reducible rfl) | simp (disch := omega) only [w64] | (show False; done))
    · have st : slices_Index_int64.l0 xs x (xs.length : Int) m = slices_Index_int64.l0 xs x (xs.length : Int) ((m + 1 : Nat) : Int) := by
        rw [Int.natCast_add, Int.natCast_one]
        (rw [slices_Index_int64.l0_eq])
        ((with_reducible repeat (first | refine go_pos (by first | assumption | omega | rfl | exact B_pos (by omega)) ?_ | refine go_neg (by first | assumption | omega | decide | exact B_not (by omega)) ?_ | refine go_bind (by first | assumption) ?_ | dsimp only)); first | done | (with_reducible rfl) | simp (disch := omega) only [w64] | (show False; done))
      rw [st]
      refine ih (m + 1) (by omega) fun j k0 k1 => ?_
      by_cases e : j = m
      · rw [e]; exact fun h => h2 h.symm
      · exact hp j k0 (by omega)
theorem contains_ (xs : List Int) (x : Int) (hl : xs.length ≤ maxLen) : slices_Contains_int64.f xs x = some (B (∃ i : Int, 0 ≤ i ∧ i < xs.length ∧ rd xs i = x)) := by
  rw [slices_Contains_int64.f_eq]
  rcases index_ xs x hl with ⟨h, e⟩ | ⟨i, h0, h1, _, h2, e⟩
  · rw [e, B_neg fun ⟨i, h0, h1, h2⟩ => h i h0 h1 h2]; rfl
  · rw [e, B_pos ⟨i, h0, h1, h2⟩]; simp [h0]
structure Grp (g : List (List Int)) : Prop where
  n1 : 1 ≤ g.length
  n8 : g.length ≤ 8
  row : ∀ a : Int, 0 ≤ a → a < g.length → (row g a).length = g.length
  ent : ∀ a b : Int, 0 ≤ a → a < g.length → 0 ≤ b → b < g.length → 0 ≤ T g a b ∧ T g a b < g.length
  one : ∀ a : Int, 0 ≤ a → a < g.length → T g 0 a = a
  one' : ∀ a : Int, 0 ≤ a → a < g.length → T g a 0 = a
  assoc : ∀ a b c : Int, 0 ≤ a → a < g.length → 0 ≤ b → b < g.length → 0 ≤ c → c < g.length → T g (T g a b) c = T g a (T g b c)
  inv : ∀ a : Int, 0 ≤ a → a < g.length → ∃ b : Int, 0 ≤ b ∧ b < g.length ∧ T g a b = 0
theorem Grp.inv2 {g : List (List Int)} (h : Grp g) {a : Int} (h0 : 0 ≤ a) (h1 : a < g.length) : ∃ b : Int, 0 ≤ b ∧ b < g.length ∧ T g a b = 0 ∧ T g b a = 0 := by
  obtain ⟨b, b0, b1, hb⟩ := h.inv a h0 h1
  obtain ⟨c, c0, c1, hc⟩ := h.inv b b0 b1
  refine ⟨b, b0, b1, hb, ?_⟩
  have hac : c = a := by
    have e1 := h.assoc a b c h0 h1 b0 b1 c0 c1
    rw [hb, hc, h.one c c0 c1, h.one' a h0 h1] at e1
    exact e1
  rw [← hac]; exact hc
theorem rows_len {g : List (List Int)} (hr : ∀ r ∈ g, r.length ≤ maxLen) {a : Int} (h0 : 0 ≤ a) (h1 : a < g.length) : (row g a).length ≤ maxLen := hr _ (row_mem h0 h1)
def Tab (g : List (List Int)) : Prop := ∀ a : Int, 0 ≤ a → a < g.length → (row g a).length = g.length ∧ AllIn g.length (row g a)
def Law (g : List (List Int)) (a : Int) : Prop := T g 0 a = a ∧ T g a 0 = a ∧ (∃ b : Int, 0 ≤ b ∧ b < g.length ∧ T g a b = 0) ∧ ∀ b : Int, 0 ≤ b → b < g.length → ∀ c : Int, 0 ≤ c → c < g.length → T g (T g a b) c = T g a (T g b c)
theorem grp_iff (g : List (List Int)) : Grp g ↔ (1 ≤ g.length ∧ g.length ≤ 8) ∧ Tab g ∧ ∀ a : Int, 0 ≤ a → a < g.length → Law g a := by
  constructor
  · intro h
    refine ⟨⟨h.n1, h.n8⟩, fun a h0 h1 => ⟨h.row a h0 h1, fun i i0 i1 => ?_⟩, fun a h0 h1 => ⟨h.one a h0 h1, h.one' a h0 h1, h.inv a h0 h1, fun b b0 b1 c c0 c1 => h.assoc a b c h0 h1 b0 b1 c0 c1⟩⟩
    have := h.row a h0 h1
    exact h.ent a i h0 h1 i0 (by omega)
  · rintro ⟨⟨h1, h8⟩, ht, hl⟩
    refine ⟨h1, h8, fun a a0 a1 => (ht a a0 a1).1, fun a b a0 a1 b0 b1 => ?_, fun a a0 a1 => (hl a a0 a1).1, fun a a0 a1 => (hl a a0 a1).2.1, fun a b c a0 a1 b0 b1 c0 c1 => (hl a a0 a1).2.2.2 b b0 b1 c c0 c1, fun a a0 a1 => (hl a a0 a1).2.2.1⟩
    have := (ht a a0 a1).1
    exact (ht a a0 a1).2 b b0 (by omega)
theorem isGroup (g : List (List Int)) (hl : g.length ≤ maxLen) (hr : ∀ r ∈ g, r.length ≤ maxLen) : impl_IsGroup.f g = some (B (Grp g)) := by
  have hm := maxLen_le
  rw [B_congr (grp_iff g)]
  (rw [impl_IsGroup.f_eq])
  by_cases c1 : (g.length : Int) < 1 ∨ (g.length : Int) > 8
  · rw [B_neg fun h => by omega]
    by_cases c2 : (g.length : Int) < 1 <;> ((with_reducible repeat (first | refine go_pos (by first | assumption | omega | rfl | exact B_pos (by omega)) ?_ | refine go_neg (by first | assumption | omega | decide | exact B_not (by omega)) ?_ | refine go_bind (by first | assumption | exact impl_order.f_eq _) ?_ | dsimp only)); first | done | (with_reducible rfl) | simp (disch := omega) only [w64] | (show False; done))
  rw [B_congr (show ((1 ≤ g.length ∧ g.length ≤ 8) ∧ Tab g ∧ ∀ a : Int, 0 ≤ a → a < g.length → Law g a) ↔ (Tab g ∧ ∀ a : Int, 0 ≤ a → a < g.length → Law g a) from ⟨fun h => h.2, fun h => ⟨by omega, h⟩⟩)]
  (with_reducible repeat (first | refine go_pos (by first | assumption | omega | rfl | exact B_pos (by omega)) ?_ | refine go_neg (by first | assumption | omega | decide | exact B_not (by omega)) ?_ | refine go_bind (by first | assumption | exact impl_order.f_eq _) ?_ | dsimp only))
  refine scanB g.length (fun i => impl_IsGroup.l0 (g.length : Int) g (g.length : Int) i g) (fun a => (row g a).length = g.length ∧ AllIn g.length (row g a)) _ (fun i h0 h1 _ => ?_) (fun ht => ?_)
  · have ha := areIn g.length (row g i) (rows_len hr h0 h1)
    refine ⟨fun h => ?_, fun h => ?_⟩ <;> (rw [impl_IsGroup.l0_eq])
    · have h1 := h.1
      rw [B_pos h.2] at ha
      ((with_reducible repeat (first | refine go_pos (by first | assumption | omega | rfl | exact B_pos (by omega)) ?_ | refine go_neg (by first | assumption | omega | decide | exact B_not (by omega)) ?_ | refine go_bind (by first | assumption) ?_ | dsimp only)); first | done | (with_reducible rfl) | simp (disch := omega) only [w64] | (show False; done))
    · by_cases h2 : ((row g i).length : Int) = g.length
      · rw [B_neg fun h3 => h ⟨by omega, h3⟩] at ha
        ((with_reducible repeat (first | refine go_pos (by first | assumption | omega | rfl | exact B_pos (by omega)) ?_ | refine go_neg (by first | assumption | omega | decide | exact B_not (by omega)) ?_ | refine go_bind (by first | assumption) ?_ | dsimp only)); first | done | (with_reducible rfl) | simp (disch := omega) only [w64] | (show False; done))
      · ((with_reducible repeat (first | refine go_pos (by first | assumption | omega | rfl | exact B_pos (by omega)) ?_ | refine go_neg (by first | assumption | omega | decide | exact B_not (by omega)) ?_ | refine go_bind (by first | assumption) ?_ | dsimp only)); first | done | (with_reducible rfl) | simp (disch := omega) only [w64] | (show False; done))
  (rw [impl_IsGroup.l0_eq])
  (with_reducible repeat (first | refine go_pos (by first | assumption | omega | rfl | exact B_pos (by omega)) ?_ | refine go_neg (by first | assumption | omega | decide | exact B_not (by omega)) ?_ | refine go_bind (by first | assumption) ?_ | dsimp only))
  refine scanT g.length (fun i => impl_IsGroup.l1 (g.length : Int) (g.length : Int) i g) (Law g) (fun a a0 a1 _ => ?_) (fun _ => ?_)
  rotate_left
  · (rw [impl_IsGroup.l1_eq])
    ((with_reducible repeat (first | refine go_pos (by first | assumption | omega | rfl | exact B_pos (by omega)) ?_ | refine go_neg (by first | assumption | omega | decide | exact B_not (by omega)) ?_ | refine go_bind (by first | assumption) ?_ | dsimp only)); first | done | (with_reducible rfl) | simp (disch := omega) only [w64] | (show False; done))
  have hlen : ∀ x : Int, 0 ≤ x → x < g.length → ((row g x).length : Int) = g.length := fun x x0 x1 => by rw [(ht x x0 x1).1]
  have hent : ∀ x y : Int, 0 ≤ x → x < g.length → 0 ≤ y → y < g.length → 0 ≤ T g x y ∧ T g x y < g.length := fun x y x0 x1 y0 y1 => (ht x x0 x1).2 y y0 (by rw [hlen x x0 x1]; exact y1)
  have l0 := hlen 0 (by omega) (by omega)
  have la := hlen a a0 a1
  have hc := contains_ (row g a) 0 (rows_len hr a0 a1)
  rw [B_congr (show (∃ i : Int, 0 ≤ i ∧ i < (row g a).length ∧ rd (row g a) i = 0) ↔ ∃ b : Int, 0 ≤ b ∧ b < g.length ∧ T g a b = 0 by rw [la]; exact Iff.rfl)] at hc
  by_cases h2 : T g 0 a = a
  rotate_left
  · refine ⟨fun h => absurd h.1 h2, fun _ => ?_⟩
    (rw [impl_IsGroup.l1_eq])
    ((with_reducible repeat (first | refine go_pos (by first | assumption | omega | rfl | exact B_pos (by omega)) ?_ | refine go_neg (by first | assumption | omega | decide | exact B_not (by omega)) ?_ | refine go_bind (by first | assumption) ?_ | dsimp only)); first | done | (with_reducible rfl) | simp (disch := omega) only [w64] | (show False; done))
  by_cases h3 : T g a 0 = a
  rotate_left
  · refine ⟨fun h => absurd h.2.1 h3, fun _ => ?_⟩
    (rw [impl_IsGroup.l1_eq])
    ((with_reducible repeat (first | refine go_pos (by first | assumption | omega | rfl | exact B_pos (by omega)) ?_ | refine go_neg (by first | assumption | omega | decide | exact B_not (by omega)) ?_ | refine go_bind (by first | assumption) ?_ | dsimp only)); first | done | (with_reducible rfl) | simp (disch := omega) only [w64] | (show False; done))
  by_cases h4 : ∃ b : Int, 0 ≤ b ∧ b < g.length ∧ T g a b = 0
  rotate_left
  · refine ⟨fun h => absurd h.2.2.1 h4, fun _ => ?_⟩
    rw [B_neg h4] at hc
    (rw [impl_IsGroup.l1_eq])
    ((with_reducible repeat (first | refine go_pos (by first | assumption | omega | rfl | exact B_pos (by omega)) ?_ | refine go_neg (by first | assumption | omega | decide | exact B_not (by omega)) ?_ | refine go_bind (by first | assumption) ?_ | dsimp only)); first | done | (with_reducible rfl) | simp (disch := omega) only [w64] | (show False; done))
  rw [B_pos h4] at hc
  have inner := scanI g.length (fun b => impl_IsGroup.l2 (g.length : Int) a (g.length : Int) a (g.length : Int) b g) (fun b => ∀ c : Int, 0 ≤ c → c < g.length → T g (T g a b) c = T g a (T g b c)) (some false) (impl_IsGroup.l1 (g.length : Int) (g.length : Int) (a + 1) g)
    (fun b b0 b1 _ => by
      obtain ⟨e0, e1⟩ := hent a b a0 a1 b0 b1
      have le := hlen _ e0 e1
      have lb := hlen b b0 b1
      have := scanI g.length (fun c => impl_IsGroup.l3 (g.length : Int) a b (g.length : Int) a (g.length : Int) b (g.length : Int) c g) (fun c => T g (T g a b) c = T g a (T g b c)) (some false) (impl_IsGroup.l2 (g.length : Int) a (g.length : Int) a (g.length : Int) (b + 1) g)
        (fun c c0 c1 _ => by
          obtain ⟨f0, f1⟩ := hent b c b0 b1 c0 c1
          refine ⟨fun h => ?_, fun h => ?_⟩ <;> (rw [impl_IsGroup.l3_eq]) <;> ((with_reducible repeat (first | refine go_pos (by first | assumption | omega | rfl | exact B_pos (by omega)) ?_ | refine go_neg (by first | assumption | omega | decide | exact B_not (by omega)) ?_ | refine go_bind (by first | assumption) ?_ | dsimp only)); first | done | (with_reducible rfl) | simp (disch := omega) only [w64] | (show False; done))) (fun _ => by (rw [impl_IsGroup.l3_eq]); ((with_reducible repeat (first | refine go_pos (by first | assumption | omega | rfl | exact B_pos (by omega)) ?_ | refine go_neg (by first | assumption | omega | decide | exact B_not (by omega)) ?_ | refine go_bind (by first | assumption) ?_ | dsimp only)); first | done | (with_reducible rfl) | simp (disch := omega) only [w64] | (show False; done)))
      refine ⟨fun h => ?_, fun h => ?_⟩ <;> (rw [impl_IsGroup.l2_eq])
      · (with_reducible repeat (first | refine go_pos (by first | assumption | omega | rfl | exact B_pos (by omega)) ?_ | refine go_neg (by first | assumption | omega | decide | exact B_not (by omega)) ?_ | refine go_bind (by first | assumption) ?_ | dsimp only))
        exact this.1 h
      · (with_reducible repeat (first | refine go_pos (by first | assumption | omega | rfl | exact B_pos (by omega)) ?_ | refine go_neg (by first | assumption | omega | decide | exact B_not (by omega)) ?_ | refine go_bind (by first | assumption) ?_ | dsimp only))
        exact this.2 h) (fun _ => by (rw [impl_IsGroup.l2_eq]); ((with_reducible repeat (first | refine go_pos (by first | assumption | omega | rfl | exact B_pos (by omega)) ?_ | refine go_neg (by first | assumption | omega | decide | exact B_not (by omega)) ?_ | refine go_bind (by first | assumption) ?_ | dsimp only)); first | done | (with_reducible rfl) | simp (disch := omega) only [w64] | (show False; done)))
  refine ⟨fun h => ?_, fun h => ?_⟩ <;> (rw [impl_IsGroup.l1_eq]) <;> (with_reducible repeat (first | refine go_pos (by first | assumption | omega | rfl | exact B_pos (by omega)) ?_ | refine go_neg (by first | assumption | omega | decide | exact B_not (by omega)) ?_ | refine go_bind (by first | assumption) ?_ | dsimp only))
  · exact inner.1 h.2.2.2
  · exact inner.2 fun k => h ⟨h2, h3, h4, k⟩
end Go.Proofs.YtacipknfhoadoaaDoor.V
set_option linter.unusedVariables false
set_option linter.unusedSimpArgs false
set_option maxHeartbeats 2000000
set_option maxRecDepth 20000
namespace Go.Proofs.YtacipknfhoadoaaDoor.V
open Go.RowKit Go.Proofs.YtacipknfhoadoaaDoor.D Go.Proofs.YtacipknfhoadoaaDoor.P
theorem In_ (x lo hi : Int) : spec_l01In.f x lo hi = some (B (lo ≤ x ∧ x ≤ hi)) := by
  rw [spec_l01In.f_eq]
  by_cases h : x ≥ lo
  · rw [if_pos h, B_decide, B_congr (show x ≤ hi ↔ (lo ≤ x ∧ x ≤ hi) from ⟨fun h' => ⟨h, h'⟩, fun h' => h'.2⟩)]
  · rw [if_neg h, B_neg (fun h' => h h'.1)]
def LawS (g : List (List Int)) (a : Int) : Prop := T g 0 a = a ∧ T g a 0 = a ∧ (∀ b : Int, 0 ≤ b → b < g.length → ∀ c : Int, 0 ≤ c → c < g.length → T g (T g a b) c = T g a (T g b c)) ∧ ∃ b : Int, 0 ≤ b ∧ b < g.length ∧ T g a b = 0 ∧ T g b a = 0
theorem grp_iffS (g : List (List Int)) : Grp g ↔ (1 ≤ g.length ∧ g.length ≤ 8) ∧ Tab g ∧ ∀ a : Int, 0 ≤ a → a < g.length → LawS g a := by
  rw [grp_iff]
  constructor
  · intro h
    have hg := (grp_iff g).2 h
    refine ⟨h.1, h.2.1, fun a a0 a1 => ?_⟩
    obtain ⟨h1, h2, _, h4⟩ := h.2.2 a a0 a1
    exact ⟨h1, h2, h4, hg.inv2 a0 a1⟩
  · rintro ⟨h1, h2, h3⟩
    refine ⟨h1, h2, fun a a0 a1 => ?_⟩
    obtain ⟨k1, k2, k3, b, b0, b1, hb, _⟩ := h3 a a0 a1
    exact ⟨k1, k2, ⟨b, b0, b1, hb⟩, k3⟩
theorem Is_ (g : List (List Int)) : spec_l01Is.f g = some (B (Grp g)) := by
  rw [B_congr (grp_iffS g)]
  (rw [spec_l01Is.f_eq])
  by_cases c1 : 1 ≤ (g.length : Int) ∧ (g.length : Int) ≤ 8
  rotate_left
  · rw [B_neg fun h => c1 (by omega)]
    ((with_reducible repeat (first | refine go_pos (by first | assumption | omega | rfl | exact B_pos (by omega)) ?_ | refine go_neg (by first | assumption | omega | decide | exact B_not (by omega)) ?_ | refine go_bind (by first | assumption | exact In_ _ _ _) ?_ | dsimp only)); first | done | (with_reducible rfl) | simp (disch := omega) only [w64] | (show False; done))
  rw [B_congr (show ((1 ≤ g.length ∧ g.length ≤ 8) ∧ Tab g ∧ ∀ a : Int, 0 ≤ a → a < g.length → LawS g a) ↔ (Tab g ∧ ∀ a : Int, 0 ≤ a → a < g.length → LawS g a) from ⟨fun h => h.2, fun h => ⟨by omega, h⟩⟩)]
  (with_reducible repeat (first | refine go_pos (by first | assumption | omega | rfl | exact B_pos (by omega)) ?_ | refine go_neg (by first | assumption | omega | decide | exact B_not (by omega)) ?_ | refine go_bind (by first | assumption | exact In_ _ _ _) ?_ | dsimp only))
  have hw1 : wrapI ((g.length : Int) - 1) = g.length - 1 := w64 (by omega) (by omega)
  refine scanB g.length (fun i => spec_l01Is.l0 (g.length : Int) i g) (fun a => (row g a).length = g.length ∧ AllIn g.length (row g a)) (∀ a : Int, 0 ≤ a → a < g.length → LawS g a) (fun a a0 a1 _ => ?_) (fun ht => ?_)
  · by_cases h2 : ((row g a).length : Int) = g.length
    rotate_left
    · refine ⟨fun h => absurd h.1 (by omega), fun _ => ?_⟩
      (rw [spec_l01Is.l0_eq])
      ((with_reducible repeat (first | refine go_pos (by first | assumption | omega | rfl | exact B_pos (by omega)) ?_ | refine go_neg (by first | assumption | omega | decide | exact B_not (by omega)) ?_ | refine go_bind (by first | assumption) ?_ | dsimp only)); first | done | (with_reducible rfl) | simp (disch := omega) only [w64] | (show False; done))
    have inner := scanI g.length (fun b => spec_l01Is.l1 (g.length : Int) a b g) (fun b => 0 ≤ T g a b ∧ T g a b < g.length) (some false) (spec_l01Is.l0 (g.length : Int) (a + 1) g)
      (fun b b0 b1 _ => by refine ⟨fun h => ?_, fun h => ?_⟩ <;> (rw [spec_l01Is.l1_eq, hw1]) <;> ((with_reducible repeat (first | refine go_pos (by first | assumption | omega | rfl | exact B_pos (by omega)) ?_ | refine go_neg (by first | assumption | omega | decide | exact B_not (by omega)) ?_ | refine go_bind (by first | assumption | exact In_ _ _ _) ?_ | dsimp only)); first | done | (with_reducible rfl) | simp (disch := omega) only [w64] | (show False; done))) (fun _ => by (rw [spec_l01Is.l1_eq]); ((with_reducible repeat (first | refine go_pos (by first | assumption | omega | rfl | exact B_pos (by omega)) ?_ | refine go_neg (by first | assumption | omega | decide | exact B_not (by omega)) ?_ | refine go_bind (by first | assumption) ?_ | dsimp only)); first | done | (with_reducible rfl) | simp (disch := omega) only [w64] | (show False; done)))
    refine ⟨fun h => ?_, fun h => ?_⟩ <;> (rw [spec_l01Is.l0_eq]) <;> (with_reducible repeat (first | refine go_pos (by first | assumption | omega | rfl | exact B_pos (by omega)) ?_ | refine go_neg (by first | assumption | omega | decide | exact B_not (by omega)) ?_ | refine go_bind (by first | assumption) ?_ | dsimp only))
    · exact inner.1 fun j j0 j1 => h.2 j j0 (by omega)
    · exact inner.2 fun k => h ⟨by omega, fun j j0 j1 => k j j0 (by omega)⟩
  (rw [spec_l01Is.l0_eq])
  (with_reducible repeat (first | refine go_pos (by first | assumption | omega | rfl | exact B_pos (by omega)) ?_ | refine go_neg (by first | assumption | omega | decide | exact B_not (by omega)) ?_ | refine go_bind (by first | assumption) ?_ | dsimp only))
  refine scanT g.length (fun i => spec_l01Is.l2 (g.length : Int) i g) (LawS g) (fun a a0 a1 _ => ?_) (fun _ => by (rw [spec_l01Is.l2_eq]); ((with_reducible repeat (first | refine go_pos (by first | assumption | omega | rfl | exact B_pos (by omega)) ?_ | refine go_neg (by first | assumption | omega | decide | exact B_not (by omega)) ?_ | refine go_bind (by first | assumption) ?_ | dsimp only)); first | done | (with_reducible rfl) | simp (disch := omega) only [w64] | (show False; done)))
  have hlen : ∀ x : Int, 0 ≤ x → x < g.length → ((row g x).length : Int) = g.length := fun x x0 x1 => by rw [(ht x x0 x1).1]
  have hent : ∀ x y : Int, 0 ≤ x → x < g.length → 0 ≤ y → y < g.length → 0 ≤ T g x y ∧ T g x y < g.length := fun x y x0 x1 y0 y1 => (ht x x0 x1).2 y y0 (by rw [hlen x x0 x1]; exact y1)
  have l0 := hlen 0 (by omega) (by omega)
  have la := hlen a a0 a1
  by_cases h2 : T g 0 a = a
  rotate_left
  · refine ⟨fun h => absurd h.1 h2, fun _ => ?_⟩
    (rw [spec_l01Is.l2_eq])
    ((with_reducible repeat (first | refine go_pos (by first | assumption | omega | rfl | exact B_pos (by omega)) ?_ | refine go_neg (by first | assumption | omega | decide | exact B_not (by omega)) ?_ | refine go_bind (by first | assumption) ?_ | dsimp only)); first | done | (with_reducible rfl) | simp (disch := omega) only [w64] | (show False; done))
  by_cases h3 : T g a 0 = a
  rotate_left
  · refine ⟨fun h => absurd h.2.1 h3, fun _ => ?_⟩
    (rw [spec_l01Is.l2_eq])
    ((with_reducible repeat (first | refine go_pos (by first | assumption | omega | rfl | exact B_pos (by omega)) ?_ | refine go_neg (by first | assumption | omega | decide | exact B_not (by omega)) ?_ | refine go_bind (by first | assumption) ?_ | dsimp only)); first | done | (with_reducible rfl) | simp (disch := omega) only [w64] | (show False; done))
  let Fd : Int → Prop := fun b => ∃ j : Int, 0 ≤ j ∧ j < b ∧ T g a j = 0 ∧ T g j a = 0
  have fd0 : B (Fd 0) = false := B_neg fun ⟨j, j0, j1, _⟩ => by omega
  have inner := scan g.length (fun b => spec_l01Is.l3 (g.length : Int) a (B (Fd b)) b g) (fun b => ∀ c : Int, 0 ≤ c → c < g.length → T g (T g a b) c = T g a (T g b c)) (some false) (fun b b0 b1 _ => by
    obtain ⟨e0, e1⟩ := hent a b a0 a1 b0 b1
    have le := hlen _ e0 e1
    have lb := hlen b b0 b1
    have toj : spec_l01Is.l3 (g.length : Int) a (B (Fd b)) b g = spec_l01Is.l4 (g.length : Int) a (B (Fd (b + 1))) b 0 g := by
      by_cases k1 : Fd b
      · rw [B_pos k1, B_pos (show Fd (b + 1) from by obtain ⟨j, j0, j1, h⟩ := k1; exact ⟨j, j0, by omega, h⟩)]
        (rw [spec_l01Is.l3_eq])
        ((with_reducible repeat (first | refine go_pos (by first | assumption | omega | rfl | exact B_pos (by omega)) ?_ | refine go_neg (by first | assumption | omega | decide | exact B_not (by omega)) ?_ | refine go_bind (by first | assumption) ?_ | dsimp only)); first | done | (with_reducible rfl) | simp (disch := omega) only [w64] | (show False; done))
      · rw [B_neg k1]
        by_cases k2 : T g a b = 0
        · have e : B (Fd (b + 1)) = decide (T g b a = 0) := by
            by_cases k3 : T g b a = 0
            · rw [B_pos ⟨b, b0, by omega, k2, k3⟩]; simp [k3]
            · rw [B_neg]
              · simp [k3]
              · rintro ⟨j, j0, j1, ja, jb⟩
                by_cases ej : j = b
                · subst ej; exact k3 jb
                · exact k1 ⟨j, j0, by omega, ja, jb⟩
          rw [e]
          (rw [spec_l01Is.l3_eq])
          ((with_reducible repeat (first | refine go_pos (by first | assumption | omega | rfl | exact B_pos (by omega)) ?_ | refine go_neg (by first | assumption | omega | decide | exact B_not (by omega)) ?_ | refine go_bind (by first | assumption) ?_ | dsimp only)); first | done | (with_reducible rfl) | simp (disch := omega) only [w64] | (show False; done))
        · rw [B_neg (show ¬ Fd (b + 1) from by
            rintro ⟨j, j0, j1, ja, jb⟩
            by_cases ej : j = b
            · subst ej; exact k2 ja
            · exact k1 ⟨j, j0, by omega, ja, jb⟩)]
          (rw [spec_l01Is.l3_eq])
          ((with_reducible repeat (first | refine go_pos (by first | assumption | omega | rfl | exact B_pos (by omega)) ?_ | refine go_neg (by first | assumption | omega | decide | exact B_not (by omega)) ?_ | refine go_bind (by first | assumption) ?_ | dsimp only)); first | done | (with_reducible rfl) | simp (disch := omega) only [w64] | (show False; done))
    have inner4 := scanI g.length (fun c => spec_l01Is.l4 (g.length : Int) a (B (Fd (b + 1))) b c g) (fun c => T g (T g a b) c = T g a (T g b c)) (some false) (spec_l01Is.l3 (g.length : Int) a (B (Fd (b + 1))) (b + 1) g) (fun c c0 c1 _ => by
      obtain ⟨f0, f1⟩ := hent b c b0 b1 c0 c1
      refine ⟨fun h => ?_, fun h => ?_⟩ <;> (rw [spec_l01Is.l4_eq]) <;> ((with_reducible repeat (first | refine go_pos (by first | assumption | omega | rfl | exact B_pos (by omega)) ?_ | refine go_neg (by first | assumption | omega | decide | exact B_not (by omega)) ?_ | refine go_bind (by first | assumption) ?_ | dsimp only)); first | done | (with_reducible rfl) | simp (disch := omega) only [w64] | (show False; done))) (fun _ => by (rw [spec_l01Is.l4_eq]); ((with_reducible repeat (first | refine go_pos (by first | assumption | omega | rfl | exact B_pos (by omega)) ?_ | refine go_neg (by first | assumption | omega | decide | exact B_not (by omega)) ?_ | refine go_bind (by first | assumption) ?_ | dsimp only)); first | done | (with_reducible rfl) | simp (disch := omega) only [w64] | (show False; done)))
    exact ⟨fun h => toj.trans (inner4.1 h), fun h => toj.trans (inner4.2 h)⟩)
  have st : spec_l01Is.l2 (g.length : Int) a g = spec_l01Is.l3 (g.length : Int) a (B (Fd 0)) 0 g := by
    rw [fd0]
    (rw [spec_l01Is.l2_eq])
    ((with_reducible repeat (first | refine go_pos (by first | assumption | omega | rfl | exact B_pos (by omega)) ?_ | refine go_neg (by first | assumption | omega | decide | exact B_not (by omega)) ?_ | refine go_bind (by first | assumption) ?_ | dsimp only)); first | done | (with_reducible rfl) | simp (disch := omega) only [w64] | (show False; done))
  rw [st]
  rcases inner with ⟨h5, h6⟩ | ⟨b, b0, b1, _, h5, _, h6⟩
  · simp only [h6]
    by_cases h7 : Fd g.length
    · refine ⟨fun _ => ?_, fun h => absurd ⟨h2, h3, h5, h7⟩ h⟩
      rw [B_pos h7]
      (rw [spec_l01Is.l3_eq])
      ((with_reducible repeat (first | refine go_pos (by first | assumption | omega | rfl | exact B_pos (by omega)) ?_ | refine go_neg (by first | assumption | omega | decide | exact B_not (by omega)) ?_ | refine go_bind (by first | assumption) ?_ | dsimp only)); first | done | (with_reducible rfl) | simp (disch := omega) only [w64] | (show False; done))
    · refine ⟨fun h => absurd h.2.2.2 h7, fun h => ?_⟩
      rw [B_neg h7]
      (rw [spec_l01Is.l3_eq])
      ((with_reducible repeat (first | refine go_pos (by first | assumption | omega | rfl | exact B_pos (by omega)) ?_ | refine go_neg (by first | assumption | omega | decide | exact B_not (by omega)) ?_ | refine go_bind (by first | assumption) ?_ | dsimp only)); first | done | (with_reducible rfl) | simp (disch := omega) only [w64] | (show False; done))
  · exact ⟨fun h => absurd (h.2.2.1 b b0 b1) h5, fun _ => h6⟩
theorem gcd0 (y : Nat) : ∀ x : Nat, impl_gcd.l0 (x : Int) (y : Int) = some ((Nat.gcd x y : Nat) : Int) := by
  induction y using Nat.strongRecOn with
  | _ y ih =>
    intro x
    (rw [impl_gcd.l0_eq])
    by_cases h : y = 0
    · subst h
      simp
    · have e : Int.tmod (x : Int) (y : Int) = ((x % y : Nat) : Int) := by rw [Int.ofNat_tmod]
      have := ih (x % y) (Nat.mod_lt _ (by omega)) y
      rw [show Nat.gcd y (x % y) = Nat.gcd x y by rw [Nat.gcd_comm x y, Nat.gcd_rec y x, Nat.gcd_comm]] at this
      rw [e]
      (with_reducible repeat (first | refine go_pos (by first | assumption | omega | rfl | exact B_pos (by omega)) ?_ | refine go_neg (by first | assumption | omega | decide | exact B_not (by omega)) ?_ | refine go_bind (by first | assumption) ?_ | dsimp only))
      exact this
theorem gcd_ {a b : Int} (ha : 0 ≤ a) (hb : 0 ≤ b) : impl_gcd.f a b = some ((Int.gcd a b : Nat) : Int) := by
  obtain ⟨x, rfl⟩ := Int.eq_ofNat_of_zero_le ha
  obtain ⟨y, rfl⟩ := Int.eq_ofNat_of_zero_le hb
  have := gcd0 y x
  rw [impl_gcd.f_eq]
  simpa [Int.gcd] using this
theorem Gcd0 (y : Nat) : ∀ x : Nat, x ≤ 9223372036854775807 → y ≤ 9223372036854775807 → spec_l01Gcd.l0 (x : Int) (y : Int) = some ((Nat.gcd x y : Nat) : Int) := by
  induction y using Nat.strongRecOn with
  | _ y ih =>
    intro x hx hy
    (rw [spec_l01Gcd.l0_eq])
    by_cases h : y = 0
    · subst h
      have hw : wrapI (0 - (x : Int)) = -(x : Int) := by rw [w64 (by omega) (by omega)]; omega
      rw [hw, if_pos (by simp), if_neg (by omega)]
      simp
    · have e : Int.tmod (x : Int) (y : Int) = ((x % y : Nat) : Int) := by rw [Int.ofNat_tmod]
      have hlt := Nat.mod_lt x (show y > 0 by omega)
      have := ih (x % y) hlt y hy (by omega)
      rw [show Nat.gcd y (x % y) = Nat.gcd x y by rw [Nat.gcd_comm x y, Nat.gcd_rec y x, Nat.gcd_comm]] at this
      rw [e]
      (with_reducible repeat (first | refine go_pos (by first | assumption | omega | rfl | exact B_pos (by omega)) ?_ | refine go_neg (by first | assumption | omega | decide | exact B_not (by omega)) ?_ | refine go_bind (by first | assumption) ?_ | dsimp only))
      exact this
theorem Gcd_ {a b : Int} (ha : 0 ≤ a) (hb : 0 ≤ b) (ha' : a ≤ 9223372036854775807) (hb' : b ≤ 9223372036854775807) : spec_l01Gcd.f a b = some ((Int.gcd a b : Nat) : Int) := by
  obtain ⟨x, rfl⟩ := Int.eq_ofNat_of_zero_le ha
  obtain ⟨y, rfl⟩ := Int.eq_ofNat_of_zero_le hb
  have := Gcd0 y x (by omega) (by omega)
  rw [spec_l01Gcd.f_eq]
  simpa [Int.gcd] using this
theorem Grp.foldl_in {g : List (List Int)} (hg : Grp g) : ∀ (xs : List Int) (x : Int), AllIn g.length xs → 0 ≤ x → x < g.length → 0 ≤ xs.foldl (T g) x ∧ xs.foldl (T g) x < g.length := by
  intro xs
  induction xs with
  | nil => exact fun x _ a b => ⟨a, b⟩
  | cons y ys ih =>
    intro x hx x0 x1
    obtain ⟨y0, y1⟩ := hx.mem (List.mem_cons_self ..)
    obtain ⟨z0, z1⟩ := hg.ent x y x0 x1 y0 y1
    exact ih _ (allIn_of fun z hz => hx.mem (List.mem_cons_of_mem _ hz)) z0 z1
theorem take_rd {xs : List Int} {m : Nat} (h : m < xs.length) : xs.take (m + 1) = xs.take m ++ [rd xs m] := by
  rw [List.take_succ_eq_append_getElem h, rd_get h]
theorem times {g : List (List Int)} (hg : Grp g) (xs : List Int) (hx : AllIn g.length xs) (hl : xs.length ≤ maxLen) : impl_Group_times.f g xs = some (xs.foldl (T g) 0) := by
  have hm := maxLen_le
  have n1 := hg.n1
  rw [impl_Group_times.f_eq]
  have := up xs.length (fun i => impl_Group_times.l0 ((xs.take i).foldl (T g) 0) xs (xs.length : Int) (i : Int) g) (fun i hi => by
    obtain ⟨z0, z1⟩ := hg.foldl_in (xs.take i) 0 (hx.take i) (by omega) (by omega)
    obtain ⟨y0, y1⟩ := hx i (by omega) (by omega)
    have hr : ((row g ((xs.take i).foldl (T g) 0)).length : Int) = g.length := by rw [hg.row _ z0 z1]
    have hw : wrapI ((i : Int) + 1) = ((i + 1 : Nat) : Int) := by rw [w64 (by omega) (by omega)]; omega
    rw [take_rd hi, List.foldl_append, List.foldl_cons, List.foldl_nil]
    (rw [impl_Group_times.l0_eq, hw])
    ((with_reducible repeat (first | refine go_pos (by first | assumption | omega | rfl | exact B_pos (by omega)) ?_ | refine go_neg (by first | assumption | omega | decide | exact B_not (by omega)) ?_ | refine go_bind (by first | assumption) ?_ | dsimp only)); first | done | (with_reducible rfl) | simp (disch := omega) only [w64] | (show False; done)))
  simp only [List.take_zero, List.foldl_nil, List.take_length, Int.natCast_zero] at this
  rw [this]
  (rw [impl_Group_times.l0_eq])
  ((with_reducible repeat (first | refine go_pos (by first | assumption | omega | rfl | exact B_pos (by omega)) ?_ | refine go_neg (by first | assumption | omega | decide | exact B_not (by omega)) ?_ | refine go_bind (by first | assumption) ?_ | dsimp only)); first | done | (with_reducible rfl) | simp (disch := omega) only [w64] | (show False; done))
theorem times2 {g : List (List Int)} (hg : Grp g) {x y : Int} (x0 : 0 ≤ x) (x1 : x < g.length) (y0 : 0 ≤ y) (y1 : y < g.length) : impl_Group_times.f g [x, y] = some (T g x y) := by
  have := times hg [x, y] (allIn_two x0 x1 y0 y1) (by unfold maxLen; simp)
  simpa [hg.one x x0 x1] using this
end Go.Proofs.YtacipknfhoadoaaDoor.V
set_option linter.unusedVariables false
set_option linter.unusedSimpArgs false
set_option maxHeartbeats 2000000
set_option maxRecDepth 20000
namespace Go.Proofs.YtacipknfhoadoaaDoor.V
open Go.RowKit Go.Proofs.YtacipknfhoadoaaDoor.D Go.Proofs.YtacipknfhoadoaaDoor.P
structure Mdl (g : List (List Int)) (m : Int) (u : List Int) : Prop where
  m2 : 2 ≤ m
  m12 : m ≤ 12
  len : u.length = g.length
  unit : ∀ i : Int, 0 ≤ i → i < u.length → 1 ≤ rd u i ∧ rd u i < m ∧ Int.gcd (rd u i) m = 1
  hom : ∀ i : Int, 0 ≤ i → i < u.length → ∀ j : Int, 0 ≤ j → j < u.length → rd u (T g i j) = rd u i * rd u j % m
theorem unit_one : ∀ m : Nat, m ≤ 12 → ∀ u : Nat, u < m → Nat.gcd u m = 1 → u = u * u % m → 1 ≤ u → u = 1 := by decide
theorem Mdl.one {g : List (List Int)} {m : Int} {u : List Int} (hg : Grp g) (h : Mdl g m u) : rd u 0 = 1 := by
  have n1 := hg.n1
  have hl := h.len
  obtain ⟨a1, a2, a3⟩ := h.unit 0 (by omega) (by omega)
  have e := h.hom 0 (by omega) (by omega) 0 (by omega) (by omega)
  rw [hg.one 0 (by omega) (by omega)] at e
  have m2 := h.m2; have m12 := h.m12
  obtain ⟨M, rfl⟩ := Int.eq_ofNat_of_zero_le (show 0 ≤ m by omega)
  obtain ⟨U, hU⟩ := Int.eq_ofNat_of_zero_le (show 0 ≤ rd u 0 by omega)
  rw [hU] at a1 a2 a3 e ⊢
  have := unit_one M (by omega) U (by omega) (by simpa [Int.gcd] using a3) (by exact_mod_cast e) (by omega)
  omega
theorem mul_lt_small {a b m : Int} (a0 : 0 ≤ a) (a1 : a < m) (b0 : 0 ≤ b) (b1 : b < m) (hm : m ≤ 1000) : 0 ≤ a * b ∧ a * b ≤ 1000000 := by
  refine ⟨Int.mul_nonneg a0 b0, ?_⟩
  have h1 : a * b ≤ 1000 * b := Int.mul_le_mul_of_nonneg_right (by omega) b0
  omega
theorem Mdl.at {g : List (List Int)} {m : Int} {u : List Int} (h : Mdl g m u) {x : Int} (x0 : 0 ≤ x) (x1 : x < g.length) : 1 ≤ rd u x ∧ rd u x < m := by
  have hl := h.len
  obtain ⟨a, b, _⟩ := h.unit x x0 (by omega)
  exact ⟨a, b⟩
theorem isUnit {m x : Int} (m0 : 0 ≤ m) : impl_isUnit.f m x = some (B (1 ≤ x ∧ x < m ∧ Int.gcd x m = 1)) := by
  rw [impl_isUnit.f_eq]
  by_cases h1 : 1 ≤ x ∧ x < m
  · have h := gcd_ m0 (show 0 ≤ x by omega)
    (with_reducible repeat (first | refine go_pos (by first | assumption | omega | rfl | exact B_pos (by omega)) ?_ | refine go_neg (by first | assumption | omega | decide | exact B_not (by omega)) ?_ | refine go_bind (by first | assumption) ?_ | dsimp only))
    rw [Int.gcd_comm]
    by_cases h3 : Int.gcd x m = 1
    · rw [B_pos ⟨h1.1, h1.2, h3⟩]; simp [h3]
    · rw [B_neg fun h => h3 h.2.2]
      simp; omega
  · rw [B_neg fun h => h1 ⟨h.1, h.2.1⟩]
    by_cases h2 : 1 ≤ x <;> ((with_reducible repeat (first | refine go_pos (by first | assumption | omega | rfl | exact B_pos (by omega)) ?_ | refine go_neg (by first | assumption | omega | decide | exact B_not (by omega)) ?_ | refine go_bind (by first | assumption) ?_ | dsimp only)); first | done | (with_reducible rfl) | simp (disch := omega) only [w64] | (show False; done))
theorem isModulus (m : Int) : impl_isModulus.f m = some (B (2 ≤ m ∧ m ≤ 12)) := by
  rw [impl_isModulus.f_eq]
  by_cases h : m ≥ 2
  · rw [if_pos h, B_decide, B_congr (show m ≤ 12 ↔ (2 ≤ m ∧ m ≤ 12) from ⟨fun h' => ⟨h, h'⟩, fun h' => h'.2⟩)]
  · rw [if_neg h, B_neg (fun h' => h h'.1)]
theorem mdl_iff (g : List (List Int)) (m : Int) (u : List Int) : Mdl g m u ↔ (2 ≤ m ∧ m ≤ 12) ∧ u.length = g.length ∧ (∀ i : Int, 0 ≤ i → i < u.length → 1 ≤ rd u i ∧ rd u i < m ∧ Int.gcd (rd u i) m = 1) ∧ ∀ i : Int, 0 ≤ i → i < u.length → ∀ j : Int, 0 ≤ j → j < u.length → rd u (T g i j) = rd u i * rd u j % m :=
  ⟨fun h => ⟨⟨h.m2, h.m12⟩, h.len, h.unit, h.hom⟩, fun ⟨⟨a, b⟩, c, d, e⟩ => ⟨a, b, c, d, e⟩⟩
theorem isModule {g : List (List Int)} (hg : Grp g) (m : Int) (u : List Int) (hl : u.length ≤ maxLen) : impl_isModule.f g m u = some (B (Mdl g m u)) := by
  have hm := maxLen_le
  have n1 := hg.n1
  (rw [impl_isModule.f_eq])
  by_cases h1 : 2 ≤ m ∧ m ≤ 12
  rotate_left
  · rw [B_neg fun h => h1 ⟨h.m2, h.m12⟩]
    ((with_reducible repeat (first | refine go_pos (by first | assumption | omega | rfl | exact B_pos (by omega)) ?_ | refine go_neg (by first | assumption | omega | decide | exact B_not (by omega)) ?_ | refine go_bind (by first | assumption | exact isModulus _ | exact impl_order.f_eq _) ?_ | dsimp only)); first | done | (with_reducible rfl) | simp (disch := omega) only [w64] | (show False; done))
  by_cases h3 : (u.length : Int) = g.length
  rotate_left
  · rw [B_neg fun h => h3 (by rw [h.len])]
    ((with_reducible repeat (first | refine go_pos (by first | assumption | omega | rfl | exact B_pos (by omega)) ?_ | refine go_neg (by first | assumption | omega | decide | exact B_not (by omega)) ?_ | refine go_bind (by first | assumption | exact isModulus _ | exact impl_order.f_eq _) ?_ | dsimp only)); first | done | (with_reducible rfl) | simp (disch := omega) only [w64] | (show False; done))
  by_cases h5 : rd u 0 = 1
  rotate_left
  · rw [B_neg fun h => h5 (h.one hg)]
    ((with_reducible repeat (first | refine go_pos (by first | assumption | omega | rfl | exact B_pos (by omega)) ?_ | refine go_neg (by first | assumption | omega | decide | exact B_not (by omega)) ?_ | refine go_bind (by first | assumption | exact isModulus _ | exact impl_order.f_eq _) ?_ | dsimp only)); first | done | (with_reducible rfl) | simp (disch := omega) only [w64] | (show False; done))
  (with_reducible repeat (first | refine go_pos (by first | assumption | omega | rfl | exact B_pos (by omega)) ?_ | refine go_neg (by first | assumption | omega | decide | exact B_not (by omega)) ?_ | refine go_bind (by first | assumption | exact isModulus _ | exact impl_order.f_eq _) ?_ | dsimp only))
  rw [B_congr (mdl_iff g m u), B_congr (show ((2 ≤ m ∧ m ≤ 12) ∧ u.length = g.length ∧ (∀ i : Int, 0 ≤ i → i < u.length → 1 ≤ rd u i ∧ rd u i < m ∧ Int.gcd (rd u i) m = 1) ∧ ∀ i : Int, 0 ≤ i → i < u.length → ∀ j : Int, 0 ≤ j → j < u.length → rd u (T g i j) = rd u i * rd u j % m) ↔ _ from ⟨fun h => h.2.2, fun h => ⟨h1, by omega, h⟩⟩)]
  refine scanB u.length (fun i => impl_isModule.l0 u (u.length : Int) i g m u) (fun i => 1 ≤ rd u i ∧ rd u i < m ∧ Int.gcd (rd u i) m = 1) _ (fun i i0 i1 _ => ?_) (fun hu => ?_)
  · have hu := isUnit (m := m) (x := rd u i) (by omega)
    refine ⟨fun h => ?_, fun h => ?_⟩ <;> (rw [impl_isModule.l0_eq]) <;> ((with_reducible repeat (first | refine go_pos (by first | assumption | omega | rfl | exact B_pos (by omega)) ?_ | refine go_neg (by first | assumption | omega | decide | exact B_not (by omega)) ?_ | refine go_bind (by first | assumption) ?_ | dsimp only)); first | done | (with_reducible rfl) | simp (disch := omega) only [w64] | (show False; done))
  (rw [impl_isModule.l0_eq])
  (with_reducible repeat (first | refine go_pos (by first | assumption | omega | rfl | exact B_pos (by omega)) ?_ | refine go_neg (by first | assumption | omega | decide | exact B_not (by omega)) ?_ | refine go_bind (by first | assumption | exact impl_order.f_eq _) ?_ | dsimp only))
  rw [← h3]
  refine scanT u.length (fun i => impl_isModule.l1 (u.length : Int) i g m u) (fun i => ∀ j : Int, 0 ≤ j → j < u.length → rd u (T g i j) = rd u i * rd u j % m) (fun i i0 i1 _ => ?_) (fun _ => by (rw [impl_isModule.l1_eq]); ((with_reducible repeat (first | refine go_pos (by first | assumption | omega | rfl | exact B_pos (by omega)) ?_ | refine go_neg (by first | assumption | omega | decide | exact B_not (by omega)) ?_ | refine go_bind (by first | assumption) ?_ | dsimp only)); first | done | (with_reducible rfl) | simp (disch := omega) only [w64] | (show False; done)))
  have inner := scanI u.length (fun j => impl_isModule.l2 i (u.length : Int) i (u.length : Int) j g m u) (fun j => rd u (T g i j) = rd u i * rd u j % m) (some false) (impl_isModule.l1 (u.length : Int) (i + 1) g m u) (fun j j0 j1 _ => by
    have ht := times2 hg i0 (by omega) j0 (by omega)
    obtain ⟨e0, e1⟩ := hg.ent i j i0 (by omega) j0 (by omega)
    obtain ⟨p0, p1⟩ := mul_lt_small (show 0 ≤ rd u i by have := (hu i i0 i1).1; omega) (hu i i0 i1).2.1 (show 0 ≤ rd u j by have := (hu j j0 j1).1; omega) (hu j j0 j1).2.1 (by omega)
    have hwp : wrapI (rd u i * rd u j) = rd u i * rd u j := w64 (by omega) (by omega)
    have e := tmod_nn (m := m) p0
    refine ⟨fun h => ?_, fun h => ?_⟩ <;> (rw [impl_isModule.l2_eq, hwp, e]) <;> ((with_reducible repeat (first | refine go_pos (by first | assumption | omega | rfl | exact B_pos (by omega)) ?_ | refine go_neg (by first | assumption | omega | decide | exact B_not (by omega)) ?_ | refine go_bind (by first | assumption) ?_ | dsimp only)); first | done | (with_reducible rfl) | simp (disch := omega) only [w64] | (show False; done))) (fun _ => by (rw [impl_isModule.l2_eq]); ((with_reducible repeat (first | refine go_pos (by first | assumption | omega | rfl | exact B_pos (by omega)) ?_ | refine go_neg (by first | assumption | omega | decide | exact B_not (by omega)) ?_ | refine go_bind (by first | assumption) ?_ | dsimp only)); first | done | (with_reducible rfl) | simp (disch := omega) only [w64] | (show False; done)))
  refine ⟨fun h => ?_, fun h => ?_⟩ <;> (rw [impl_isModule.l1_eq]) <;> (with_reducible repeat (first | refine go_pos (by first | assumption | omega | rfl | exact B_pos (by omega)) ?_ | refine go_neg (by first | assumption | omega | decide | exact B_not (by omega)) ?_ | refine go_bind (by first | assumption | exact impl_order.f_eq _) ?_ | dsimp only)) <;> rw [← h3]
  · exact inner.1 h
  · exact inner.2 h
theorem Is02 {g : List (List Int)} (hg : Grp g) (m : Int) (u : List Int) (hl : u.length ≤ maxLen) : spec_l02Is.f g m u = some (B (Mdl g m u)) := by
  have hm := maxLen_le
  have n1 := hg.n1
  (rw [spec_l02Is.f_eq])
  by_cases h1 : 2 ≤ m ∧ m ≤ 12
  rotate_left
  · rw [B_neg fun h => h1 ⟨h.m2, h.m12⟩]
    ((with_reducible repeat (first | refine go_pos (by first | assumption | omega | rfl | exact B_pos (by omega)) ?_ | refine go_neg (by first | assumption | omega | decide | exact B_not (by omega)) ?_ | refine go_bind (by first | assumption | exact In_ _ _ _) ?_ | dsimp only)); first | done | (with_reducible rfl) | simp (disch := omega) only [w64] | (show False; done))
  by_cases h3 : (u.length : Int) = g.length
  rotate_left
  · rw [B_neg fun h => h3 (by rw [h.len])]
    ((with_reducible repeat (first | refine go_pos (by first | assumption | omega | rfl | exact B_pos (by omega)) ?_ | refine go_neg (by first | assumption | omega | decide | exact B_not (by omega)) ?_ | refine go_bind (by first | assumption | exact In_ _ _ _) ?_ | dsimp only)); first | done | (with_reducible rfl) | simp (disch := omega) only [w64] | (show False; done))
  (with_reducible repeat (first | refine go_pos (by first | assumption | omega | rfl | exact B_pos (by omega)) ?_ | refine go_neg (by first | assumption | omega | decide | exact B_not (by omega)) ?_ | refine go_bind (by first | assumption | exact In_ _ _ _) ?_ | dsimp only))
  rw [B_congr (mdl_iff g m u), B_congr (show ((2 ≤ m ∧ m ≤ 12) ∧ u.length = g.length ∧ (∀ i : Int, 0 ≤ i → i < u.length → 1 ≤ rd u i ∧ rd u i < m ∧ Int.gcd (rd u i) m = 1) ∧ ∀ i : Int, 0 ≤ i → i < u.length → ∀ j : Int, 0 ≤ j → j < u.length → rd u (T g i j) = rd u i * rd u j % m) ↔ _ from ⟨fun h => h.2.2, fun h => ⟨h1, by omega, h⟩⟩)]
  have hw1 : wrapI (m - 1) = m - 1 := w64 (by omega) (by omega)
  refine scanB u.length (fun i => spec_l02Is.l0 i g m u) (fun i => 1 ≤ rd u i ∧ rd u i < m ∧ Int.gcd (rd u i) m = 1) _ (fun i i0 i1 _ => ?_) (fun hu => ?_)
  · refine ⟨fun h => ?_, fun h => ?_⟩ <;> (rw [spec_l02Is.l0_eq, hw1])
    · have hgc := Gcd_ (a := rd u i) (b := m) (by omega) (by omega) (by omega) (by omega)
      ((with_reducible repeat (first | refine go_pos (by first | assumption | omega | rfl | exact B_pos (by omega)) ?_ | refine go_neg (by first | assumption | omega | decide | exact B_not (by omega)) ?_ | refine go_bind (by first | assumption | exact In_ _ _ _) ?_ | dsimp only)); first | done | (with_reducible rfl) | simp (disch := omega) only [w64] | (show False; done))
    · by_cases h6 : 1 ≤ rd u i ∧ rd u i < m
      · have hgc := Gcd_ (a := rd u i) (b := m) (by omega) (by omega) (by omega) (by omega)
        ((with_reducible repeat (first | refine go_pos (by first | assumption | omega | rfl | exact B_pos (by omega)) ?_ | refine go_neg (by first | assumption | omega | decide | exact B_not (by omega)) ?_ | refine go_bind (by first | assumption | exact In_ _ _ _) ?_ | dsimp only)); first | done | (with_reducible rfl) | simp (disch := omega) only [w64] | (show False; done))
      · ((with_reducible repeat (first | refine go_pos (by first | assumption | omega | rfl | exact B_pos (by omega)) ?_ | refine go_neg (by first | assumption | omega | decide | exact B_not (by omega)) ?_ | refine go_bind (by first | assumption | exact In_ _ _ _) ?_ | dsimp only)); first | done | (with_reducible rfl) | simp (disch := omega) only [w64] | (show False; done))
  (rw [spec_l02Is.l0_eq])
  (with_reducible repeat (first | refine go_pos (by first | assumption | omega | rfl | exact B_pos (by omega)) ?_ | refine go_neg (by first | assumption | omega | decide | exact B_not (by omega)) ?_ | refine go_bind (by first | assumption) ?_ | dsimp only))
  refine scanT u.length (fun i => spec_l02Is.l1 i g m u) (fun i => ∀ j : Int, 0 ≤ j → j < u.length → rd u (T g i j) = rd u i * rd u j % m) (fun i i0 i1 _ => ?_) (fun _ => by (rw [spec_l02Is.l1_eq]); ((with_reducible repeat (first | refine go_pos (by first | assumption | omega | rfl | exact B_pos (by omega)) ?_ | refine go_neg (by first | assumption | omega | decide | exact B_not (by omega)) ?_ | refine go_bind (by first | assumption) ?_ | dsimp only)); first | done | (with_reducible rfl) | simp (disch := omega) only [w64] | (show False; done)))
  have ri := hg.row i i0 (by omega)
  have inner := scanI u.length (fun j => spec_l02Is.l2 i j g m u) (fun j => rd u (T g i j) = rd u i * rd u j % m) (some false) (spec_l02Is.l1 (i + 1) g m u) (fun j j0 j1 _ => by
    obtain ⟨e0, e1⟩ := hg.ent i j i0 (by omega) j0 (by omega)
    obtain ⟨p0, p1⟩ := mul_lt_small (show 0 ≤ rd u i by have := (hu i i0 i1).1; omega) (hu i i0 i1).2.1 (show 0 ≤ rd u j by have := (hu j j0 j1).1; omega) (hu j j0 j1).2.1 (by omega)
    have hwp : wrapI (rd u i * rd u j) = rd u i * rd u j := w64 (by omega) (by omega)
    have e := tmod_nn (m := m) p0
    refine ⟨fun h => ?_, fun h => ?_⟩ <;> (rw [spec_l02Is.l2_eq, hwp, e]) <;> ((with_reducible repeat (first | refine go_pos (by first | assumption | omega | rfl | exact B_pos (by omega)) ?_ | refine go_neg (by first | assumption | omega | decide | exact B_not (by omega)) ?_ | refine go_bind (by first | assumption) ?_ | dsimp only)); first | done | (with_reducible rfl) | simp (disch := omega) only [w64] | (show False; done))) (fun _ => by (rw [spec_l02Is.l2_eq]); ((with_reducible repeat (first | refine go_pos (by first | assumption | omega | rfl | exact B_pos (by omega)) ?_ | refine go_neg (by first | assumption | omega | decide | exact B_not (by omega)) ?_ | refine go_bind (by first | assumption) ?_ | dsimp only)); first | done | (with_reducible rfl) | simp (disch := omega) only [w64] | (show False; done)))
  refine ⟨fun h => ?_, fun h => ?_⟩ <;> (rw [spec_l02Is.l1_eq]) <;> (with_reducible repeat (first | refine go_pos (by first | assumption | omega | rfl | exact B_pos (by omega)) ?_ | refine go_neg (by first | assumption | omega | decide | exact B_not (by omega)) ?_ | refine go_bind (by first | assumption) ?_ | dsimp only))
  · exact inner.1 h
  · exact inner.2 h
def GM (g : List (List Int)) (m : Int) (u : List Int) : Prop := Grp g ∧ Mdl g m u
theorem areModules1 (g : List (List Int)) (hl : g.length ≤ maxLen) (hr : ∀ r ∈ g, r.length ≤ maxLen) (m : Int) (u : List Int) (hu : u.length ≤ maxLen) : impl_areModules.f g [(m, u)] = some (B (GM g m u)) := by
  have hG := isGroup g hl hr
  rw [impl_areModules.f_eq]
  have st : impl_areModules.l0 [(m, u)] (([(m, u)] : List (Int × List Int)).length : Int) 1 g = some true := by (rw [impl_areModules.l0_eq]); exact if_neg (by simp)
  (rw [impl_areModules.l0_eq])
  rw [if_pos (by simp), if_pos (by simp), if_pos (by simp), hG]
  by_cases h1 : Grp g
  · have hM := isModule h1 m u hu
    rw [B_pos h1]
    show (Option.bind (impl_isModule.f g m u) _) = _
    rw [hM]
    by_cases h2 : Mdl g m u
    · rw [B_pos h2, B_pos ⟨h1, h2⟩]
      simpa [show wrapI 1 = 1 from w64 (by omega) (by omega)] using st
    · rw [B_neg h2, B_neg fun h => h2 h.2]
      rfl
  · rw [B_neg h1, B_neg fun h => h1 h.1]
    rfl
end Go.Proofs.YtacipknfhoadoaaDoor.V
set_option linter.unusedVariables false
set_option linter.unusedSimpArgs false
set_option maxHeartbeats 2000000
set_option maxRecDepth 20000
namespace Go.Proofs.YtacipknfhoadoaaDoor.V
open Go.RowKit Go.Proofs.YtacipknfhoadoaaDoor.D Go.Proofs.YtacipknfhoadoaaDoor.P
theorem pow_nat : ∀ n : Nat, n ≤ 7 → ∀ i : Nat, i ≤ 5 → n ^ i ≤ 16807 := by decide
theorem pow_bd {a : Int} (h0 : 0 ≤ a) (h1 : a ≤ 7) (i : Nat) (hi : i ≤ 5) : 0 ≤ a ^ i ∧ a ^ i ≤ 16807 := by
  obtain ⟨n, rfl⟩ := Int.eq_ofNat_of_zero_le h0
  have h := pow_nat n (by omega) i hi
  rw [← Int.natCast_pow]
  omega
def cells (g : List (List Int)) (d : Int) : Int := ((g.length : Int) - 1) ^ d.toNat
theorem cells_bd {g : List (List Int)} (hg : Grp g) {d : Int} (h1 : d ≤ 5) : 0 ≤ cells g d ∧ cells g d ≤ 16807 := by
  have n8 := hg.n8; have n0 := hg.n1
  exact pow_bd (by omega) (by omega) _ (by omega)
theorem power {a d : Int} (h0 : 0 ≤ a) (h1 : a ≤ 7) (d0 : 0 ≤ d) (d1 : d ≤ 4) : impl_power.f a d = some (a ^ d.toNat) := by
  obtain ⟨n, rfl⟩ := Int.eq_ofNat_of_zero_le d0
  have := up n (fun j => impl_power.l0 a (a ^ j) (n : Int) (j : Int)) (fun j hj => by
    have hw : wrapI ((j : Int) + 1) = ((j + 1 : Nat) : Int) := by rw [w64 (by omega) (by omega)]; omega
    have b := pow_bd h0 h1 (j + 1) (by omega)
    have hp : wrapI (a ^ j * a) = a ^ (j + 1) := by rw [show a ^ j * a = a ^ (j + 1) from (Int.pow_succ a j).symm]; exact w64 (by omega) (by omega)
    rw [impl_power.l0_eq, hw, hp]
    ((with_reducible repeat (first | refine go_pos (by first | assumption | omega | rfl | exact B_pos (by omega)) ?_ | refine go_neg (by first | assumption | omega | decide | exact B_not (by omega)) ?_ | refine go_bind (by first | assumption) ?_ | dsimp only)); first | done | (with_reducible rfl) | simp (disch := omega) only [w64] | (show False; done)))
  simp only [Int.pow_zero, Int.natCast_zero] at this
  rw [impl_power.f_eq, this, impl_power.l0_eq, Int.toNat_natCast]
  ((with_reducible repeat (first | refine go_pos (by first | assumption | omega | rfl | exact B_pos (by omega)) ?_ | refine go_neg (by first | assumption | omega | decide | exact B_not (by omega)) ?_ | refine go_bind (by first | assumption) ?_ | dsimp only)); first | done | (with_reducible rfl) | simp (disch := omega) only [w64] | (show False; done))
theorem cells_ {g : List (List Int)} (hg : Grp g) {d : Int} (d0 : 0 ≤ d) (d1 : d ≤ 4) : impl_cells.f g d = some (cells g d) := by
  have n8 := hg.n8; have n0 := hg.n1
  have hw : wrapI ((g.length : Int) - 1) = g.length - 1 := w64 (by omega) (by omega)
  have hp := power (a := (g.length : Int) - 1) (by omega) (by omega) d0 d1
  show _ = some (((g.length : Int) - 1) ^ d.toNat)
  rw [impl_cells.f_eq, impl_order.f_eq, Option.bind_some, hw]
  ((with_reducible repeat (first | refine go_pos (by first | assumption | omega | rfl | exact B_pos (by omega)) ?_ | refine go_neg (by first | assumption | omega | decide | exact B_not (by omega)) ?_ | refine go_bind (by first | assumption) ?_ | dsimp only)); first | done | (with_reducible rfl) | simp (disch := omega) only [w64] | (show False; done))
theorem Cells_ {g : List (List Int)} (hg : Grp g) {d : Int} (d0 : 0 ≤ d) (d1 : d ≤ 4) : spec_l03Cells.f g d = some (cells g d) := by
  have n8 := hg.n8; have n0 := hg.n1
  unfold cells
  have hw : wrapI ((g.length : Int) - 1) = g.length - 1 := w64 (by omega) (by omega)
  obtain ⟨n, rfl⟩ := Int.eq_ofNat_of_zero_le d0
  suffices H : ∀ n j : Nat, n + j ≤ 4 → spec_l03Cells.l0 (n : Int) (((g.length : Int) - 1) ^ j) g = some (((g.length : Int) - 1) ^ (j + n)) by
    have := H n 0 (by omega)
    rw [spec_l03Cells.f_eq]
    simpa using this
  intro n
  induction n with
  | zero => intro j hj; rw [spec_l03Cells.l0_eq, Nat.add_zero]; ((with_reducible repeat (first | refine go_pos (by first | assumption | omega | rfl | exact B_pos (by omega)) ?_ | refine go_neg (by first | assumption | omega | decide | exact B_not (by omega)) ?_ | refine go_bind (by first | assumption) ?_ | dsimp only)); first | done | (with_reducible rfl) | simp (disch := omega) only [w64] | (show False; done))
  | succ n ih =>
    intro j hj
    have b := pow_bd (a := (g.length : Int) - 1) (by omega) (by omega) (j + 1) (by omega)
    have hp : wrapI (((g.length : Int) - 1) ^ j * ((g.length : Int) - 1)) = ((g.length : Int) - 1) ^ (j + 1) := by rw [show ((g.length : Int) - 1) ^ j * ((g.length : Int) - 1) = ((g.length : Int) - 1) ^ (j + 1) from (Int.pow_succ _ j).symm]; exact w64 (by omega) (by omega)
    have h1 : wrapI (((n + 1 : Nat) : Int) - 1) = (n : Int) := by rw [w64 (by omega) (by omega)]; omega
    have := ih (j + 1) (by omega)
    rw [show j + 1 + n = j + (n + 1) by omega] at this
    rw [spec_l03Cells.l0_eq, spec_l01N.f_eq, Option.bind_some, hw, hp, h1]
    (with_reducible repeat (first | refine go_pos (by first | assumption | omega | rfl | exact B_pos (by omega)) ?_ | refine go_neg (by first | assumption | omega | decide | exact B_not (by omega)) ?_ | refine go_bind (by first | assumption) ?_ | dsimp only))
    exact this
def Co (g : List (List Int)) (m d : Int) (v : List Int) : Prop := (0 ≤ d ∧ d ≤ 3) ∧ (v.length : Int) = cells g d ∧ AllIn m v
theorem isDegree (d : Int) : impl_isDegree.f d = some (B (0 ≤ d ∧ d ≤ 3)) := by
  rw [impl_isDegree.f_eq]
  by_cases h : d ≥ 0
  · rw [if_pos h, B_decide, B_congr (show d ≤ 3 ↔ (0 ≤ d ∧ d ≤ 3) from ⟨fun h' => ⟨h, h'⟩, fun h' => h'.2⟩)]
  · rw [if_neg h, B_neg (fun h' => h h'.1)]
theorem isCochain {g : List (List Int)} (hg : Grp g) (m : Int) (u : List Int) (d : Int) (v : List Int) (hv : v.length ≤ maxLen) : impl_isCochain.f g m u d v = some (B (Co g m d v)) := by
  rw [impl_isCochain.f_eq]
  by_cases h1 : 0 ≤ d ∧ d ≤ 3
  rotate_left
  · rw [B_neg fun h => h1 h.1]
    ((with_reducible repeat (first | refine go_pos (by first | assumption | omega | rfl | exact B_pos (by omega)) ?_ | refine go_neg (by first | assumption | omega | decide | exact B_not (by omega)) ?_ | refine go_bind (by first | assumption | exact isDegree _) ?_ | dsimp only)); first | done | (with_reducible rfl) | simp (disch := omega) only [w64] | (show False; done))
  have hc := cells_ hg h1.1 (by omega)
  have ha := areIn m v hv
  by_cases h2 : (v.length : Int) = cells g d
  rotate_left
  · rw [B_neg fun h => h2 h.2.1]
    ((with_reducible repeat (first | refine go_pos (by first | assumption | omega | rfl | exact B_pos (by omega)) ?_ | refine go_neg (by first | assumption | omega | decide | exact B_not (by omega)) ?_ | refine go_bind (by first | assumption | exact isDegree _) ?_ | dsimp only)); first | done | (with_reducible rfl) | simp (disch := omega) only [w64] | (show False; done))
  (with_reducible repeat (first | refine go_pos (by first | assumption | omega | rfl | exact B_pos (by omega)) ?_ | refine go_neg (by first | assumption | omega | decide | exact B_not (by omega)) ?_ | refine go_bind (by first | assumption | exact isDegree _) ?_ | dsimp only))
  rw [B_congr (show AllIn m v ↔ Co g m d v from ⟨fun h => ⟨h1, h2, h⟩, fun h => h.2.2⟩)]
  simp
theorem Is03 {g : List (List Int)} (hg : Grp g) {m : Int} {u : List Int} (hm : Mdl g m u) (d : Int) (v : List Int) (hv : v.length ≤ maxLen) : spec_l03Is.f g m u d v = some (B (Co g m d v)) := by
  have hml := maxLen_le
  have m2 := hm.m2; have m12 := hm.m12
  rw [spec_l03Is.f_eq]
  by_cases h1 : 0 ≤ d ∧ d ≤ 3
  rotate_left
  · rw [B_neg fun h => h1 h.1]
    ((with_reducible repeat (first | refine go_pos (by first | assumption | omega | rfl | exact B_pos (by omega)) ?_ | refine go_neg (by first | assumption | omega | decide | exact B_not (by omega)) ?_ | refine go_bind (by first | assumption | exact In_ _ _ _) ?_ | dsimp only)); first | done | (with_reducible rfl) | simp (disch := omega) only [w64] | (show False; done))
  have hc := Cells_ hg h1.1 (by omega)
  by_cases h2 : (v.length : Int) = cells g d
  rotate_left
  · rw [B_neg fun h => h2 h.2.1]
    ((with_reducible repeat (first | refine go_pos (by first | assumption | omega | rfl | exact B_pos (by omega)) ?_ | refine go_neg (by first | assumption | omega | decide | exact B_not (by omega)) ?_ | refine go_bind (by first | assumption | exact In_ _ _ _) ?_ | dsimp only)); first | done | (with_reducible rfl) | simp (disch := omega) only [w64] | (show False; done))
  (with_reducible repeat (first | refine go_pos (by first | assumption | omega | rfl | exact B_pos (by omega)) ?_ | refine go_neg (by first | assumption | omega | decide | exact B_not (by omega)) ?_ | refine go_bind (by first | assumption | exact In_ _ _ _) ?_ | dsimp only))
  rw [B_congr (show Co g m d v ↔ AllIn m v from ⟨fun h => h.2.2, fun h => ⟨h1, h2, h⟩⟩)]
  have hw : wrapI (m - 1) = m - 1 := w64 (by omega) (by omega)
  refine scanT v.length (fun i => spec_l03Is.l0 i m u d v) (fun i => 0 ≤ rd v i ∧ rd v i < m) (fun i i0 i1 _ => ?_) (fun _ => by (rw [spec_l03Is.l0_eq]); ((with_reducible repeat (first | refine go_pos (by first | assumption | omega | rfl | exact B_pos (by omega)) ?_ | refine go_neg (by first | assumption | omega | decide | exact B_not (by omega)) ?_ | refine go_bind (by first | assumption) ?_ | dsimp only)); first | done | (with_reducible rfl) | simp (disch := omega) only [w64] | (show False; done)))
  refine ⟨fun h => ?_, fun h => ?_⟩ <;> (rw [spec_l03Is.l0_eq, hw]) <;> ((with_reducible repeat (first | refine go_pos (by first | assumption | omega | rfl | exact B_pos (by omega)) ?_ | refine go_neg (by first | assumption | omega | decide | exact B_not (by omega)) ?_ | refine go_bind (by first | assumption | exact In_ _ _ _) ?_ | dsimp only)); first | done | (with_reducible rfl) | simp (disch := omega) only [w64] | (show False; done))
theorem co_codes (g : List (List Int)) (hl : g.length ≤ maxLen) (hr : ∀ r ∈ g, r.length ≤ maxLen) (m : Int) (u : List Int) (hu : u.length ≤ maxLen) (d : Int) (v : List Int) (hv : v.length ≤ maxLen) :
    (Grp g ∧ Mdl g m u ∧ Co g m d v ∧ impl_cochainCode.f g m u [(d, v)] = some 0 ∧ spec_l03Code.f g m u [(d, v)] = some 0) ∨
    (¬ (Grp g ∧ Mdl g m u ∧ Co g m d v) ∧ impl_cochainCode.f g m u [(d, v)] = some 1 ∧ spec_l03Code.f g m u [(d, v)] = some 1) := by
  have hA := areModules1 g hl hr m u hu
  have hS := Is_ g
  have w1 : wrapI (0 + 1) = 1 := w64 (by omega) (by omega)
  have stI : impl_cochainCode.l0 [(d, v)] (([(d, v)] : List (Int × List Int)).length : Int) 1 g m u = some 0 := by rw [impl_cochainCode.l0_eq]; exact if_neg (by simp)
  have stS : spec_l03Code.l0 [(d, v)] 1 g m u = some 0 := by rw [spec_l03Code.l0_eq]; exact if_neg (by simp)
  have r0 : Ty.rd (.pr (.int .i64) (.sl 2 (.int .i64))) [(d, v)] 0 = (d, v) := rfl
  rw [impl_cochainCode.f_eq, spec_l03Code.f_eq]
  by_cases h : GM g m u
  rotate_left
  · refine .inr ⟨fun k => h ⟨k.1, k.2.1⟩, ?_, ?_⟩
    · ((with_reducible repeat (first | refine go_pos (by first | assumption | omega | rfl | exact B_pos (by omega)) ?_ | refine go_neg (by first | assumption | omega | decide | exact B_not (by omega)) ?_ | refine go_bind (by first | assumption) ?_ | dsimp only)); first | done | (with_reducible rfl) | simp (disch := omega) only [w64] | (show False; done))
    · by_cases h1 : Grp g
      · have hM := Is02 h1 m u hu
        rw [B_neg fun k => h ⟨h1, k⟩] at hM
        ((with_reducible repeat (first | refine go_pos (by first | assumption | omega | rfl | exact B_pos (by omega)) ?_ | refine go_neg (by first | assumption | omega | decide | exact B_not (by omega)) ?_ | refine go_bind (by first | assumption) ?_ | dsimp only)); first | done | (with_reducible rfl) | simp (disch := omega) only [w64] | (show False; done))
      · ((with_reducible repeat (first | refine go_pos (by first | assumption | omega | rfl | exact B_pos (by omega)) ?_ | refine go_neg (by first | assumption | omega | decide | exact B_not (by omega)) ?_ | refine go_bind (by first | assumption) ?_ | dsimp only)); first | done | (with_reducible rfl) | simp (disch := omega) only [w64] | (show False; done))
  have hM := Is02 h.1 m u hu
  have hI := isCochain h.1 m u d v hv
  have hC := Is03 h.1 h.2 d v hv
  rw [impl_cochainCode.l0_eq, spec_l03Code.l0_eq, r0, w1]
  have k1 : (0 : Int) < (([(d, v)] : List (Int × List Int)).length : Int) := by simp
  have hB : B (GM g m u) = true := B_pos h
  have hGr := h.1
  have hMd := h.2
  by_cases h2 : Co g m d v
  · exact .inl ⟨h.1, h.2, h2, by (with_reducible repeat (first | refine go_pos (by first | assumption | omega | rfl | exact B_pos (by omega)) ?_ | refine go_neg (by first | assumption | omega | decide | exact B_not (by omega)) ?_ | refine go_bind (by first | assumption) ?_ | dsimp only)); exact stI, by (with_reducible repeat (first | refine go_pos (by first | assumption | omega | rfl | exact B_pos (by omega)) ?_ | refine go_neg (by first | assumption | omega | decide | exact B_not (by omega)) ?_ | refine go_bind (by first | assumption) ?_ | dsimp only)); exact stS⟩
  · exact .inr ⟨fun k => h2 k.2.2, by ((with_reducible repeat (first | refine go_pos (by first | assumption | omega | rfl | exact B_pos (by omega)) ?_ | refine go_neg (by first | assumption | omega | decide | exact B_not (by omega)) ?_ | refine go_bind (by first | assumption) ?_ | dsimp only)); first | done | (with_reducible rfl) | simp (disch := omega) only [w64] | (show False; done)), by ((with_reducible repeat (first | refine go_pos (by first | assumption | omega | rfl | exact B_pos (by omega)) ?_ | refine go_neg (by first | assumption | omega | decide | exact B_not (by omega)) ?_ | refine go_bind (by first | assumption) ?_ | dsimp only)); first | done | (with_reducible rfl) | simp (disch := omega) only [w64] | (show False; done))⟩
end Go.Proofs.YtacipknfhoadoaaDoor.V
set_option linter.unusedVariables false
set_option linter.unusedSimpArgs false
set_option maxHeartbeats 2000000
set_option maxRecDepth 20000
namespace Go.Proofs.YtacipknfhoadoaaDoor.V
open Go.RowKit Go.Proofs.YtacipknfhoadoaaDoor.D Go.Proofs.YtacipknfhoadoaaDoor.P
def Tx (n : Int) : ByteArray := if n < 10 then ⟨#[UInt8.ofNat (48 + n.toNat)]⟩ else ⟨#[UInt8.ofNat (48 + (n / 10).toNat), UInt8.ofNat (48 + (n % 10).toNat)]⟩
theorem bs1 (a : UInt8) : (⟨#[a]⟩ : ByteArray).size = 1 := rfl
theorem bs2 (a b : UInt8) : (⟨#[a, b]⟩ : ByteArray).size = 2 := rfl
theorem Tx_size (n : Int) : 1 ≤ (Tx n).size ∧ (Tx n).size ≤ 2 := by
  unfold Tx
  split
  · rw [bs1]; omega
  · rw [bs2]; omega
theorem digits10 : ∀ n : Nat, n < 10 → (⟨#[48, 49, 50, 51, 52, 53, 54, 55, 56, 57, 97, 98, 99, 100, 101, 102, 103, 104, 105, 106, 107, 108, 109, 110, 111, 112, 113, 114, 115, 116, 117, 118, 119, 120, 121, 122]⟩ : ByteArray).extract n (n + 1) = ⟨#[UInt8.ofNat (48 + n)]⟩ := by decide
theorem nat_of {n : Int} (h0 : 0 ≤ n) {b : Nat} (h1 : n < b) : ∃ k : Nat, k < b ∧ n = (k : Int) := ⟨n.toNat, by omega, by omega⟩
theorem small_ {n : Int} (h0 : 0 ≤ n) (h1 : n < 20) : istrconv_small.f n = some (Tx n) := by
  rw [istrconv_small.f_eq]
  by_cases h : n < 10
  · obtain ⟨k, hk, rfl⟩ := nat_of h0 (b := 10) h
    have e := digits10 k hk
    have hs : (⟨#[48, 49, 50, 51, 52, 53, 54, 55, 56, 57, 97, 98, 99, 100, 101, 102, 103, 104, 105, 106, 107, 108, 109, 110, 111, 112, 113, 114, 115, 116, 117, 118, 119, 120, 121, 122]⟩ : ByteArray).size = 36 := rfl
    rw [if_pos h, if_pos h0, wn (j := k) (by omega), if_pos (by omega), hs, if_pos (by omega), Int.toNat_natCast, Int.toNat_natCast, e]
    unfold Tx
    rw [if_pos h, Int.toNat_natCast]
  · have hs : ∀ l : List UInt8, (⟨List.toArray l⟩ : ByteArray).size = l.length := fun l => rfl
    rw [if_neg h]
    rw [w64 (x := n * 2) (by omega) (by omega), w64 (x := n * 2 + 2) (by omega) (by omega), if_pos (by omega), if_pos (by omega), hs, if_pos (by simp only [List.append_eq, List.length_append, List.length_cons, List.length_nil]; omega)]
    congr 1
    unfold Tx
    rw [if_neg h]
    obtain ⟨k, hk, rfl⟩ : ∃ k : Nat, k < 10 ∧ n = 10 + (k : Int) := ⟨(n - 10).toNat, by omega, by omega⟩
    have e1 : ((10 + (k : Int)) / 10).toNat = 1 := by omega
    have e2 : ((10 + (k : Int)) % 10).toNat = k := by omega
    have e3 : ((10 + (k : Int)) * 2).toNat = 20 + 2 * k := by omega
    have e4 : ((10 + (k : Int)) * 2 + 2).toNat = 20 + 2 * k + 2 := by omega
    rw [e1, e2, e3, e4]
    clear e1 e2 e3 e4 h h0 h1
    revert k
    decide
theorem decimal {n : Int} (h0 : 0 ≤ n) (h1 : n < 20) : impl_decimal.f n = some (Tx n) := by
  have hs := small_ h0 h1
  have e : istrconv_FormatInt.f n 10 = some (Tx n) := by rw [istrconv_FormatInt.f_eq, if_pos rfl, if_pos h0, if_pos (by omega), hs]; rfl
  have e2 : strconv_FormatInt.f n 10 = some (Tx n) := by rw [strconv_FormatInt.f_eq, e]; rfl
  rw [impl_decimal.f_eq, e2]; rfl
theorem wr8 {x : Int} (h0 : 0 ≤ x) (h1 : x < 256) : wr .u8 x = x := by
  show D.hid (IntKind.u8.wrap x) = x
  rw [D.hid_eq]
  have e : (2 ^ IntKind.u8.bits : Int) = 256 := by decide
  have s : IntKind.u8.signed = false := rfl
  simp only [IntKind.wrap, e, s, Bool.false_and, Bool.false_eq_true, if_false]
  omega
theorem bytes1 {n : Int} (h0 : 0 ≤ n) (h1 : n < 10) : bytesOf [wr .u8 (wrapI (48 + n))] = ⟨#[UInt8.ofNat (48 + n.toNat)]⟩ := by
  rw [bytesOf_eq, w64 (by omega) (by omega), wr8 (by omega) (by omega)]
  have e : (48 + n).toNat = 48 + n.toNat := by omega
  simp only [List.foldl_cons, List.foldl_nil, e]
  rfl
theorem szs_le {a b : ByteArray} (h : a.size + b.size ≤ 9223372036854775807) : szs a b ≤ 9223372036854775807 := by
  unfold szs
  rw [hid_eq]
  omega
theorem Dec_ {n : Int} (h0 : 0 ≤ n) (h1 : n < 100) : spec_l01Dec.f fuel n = some (Tx n) := by
  rw [fuel_eq]
  have one : ∀ (j : Nat) (k : Int), 0 ≤ k → k < 10 → spec_l01Dec.f (j + 1) k = some ⟨#[UInt8.ofNat (48 + k.toNat)]⟩ := fun j k k0 k1 => by
    rw [spec_l01Dec.f_eq, if_neg (by omega), if_pos k1, if_pos (by simp), bytes1 k0 k1]
  by_cases h : n < 10
  · rw [one 63 n h0 h]
    unfold Tx
    rw [if_pos h]
  · have e1 := one 62 (n / 10) (by omega) (by omega)
    have e2 : (n : Int).tdiv 10 = n / 10 := tdiv_nn h0
    have e3 : (n : Int).tmod 10 = n % 10 := tmod_nn h0
    rw [spec_l01Dec.f_eq, if_neg (by omega), if_neg h, e2, e3, w64 (x := n / 10) (by omega) (by omega), e1, Option.bind_some, bytes1 (n := n % 10) (by omega) (by omega), if_pos (by simp), if_pos (szs_le (by rw [bs1, bs1]; omega))]
    unfold Tx
    rw [if_neg h]
    congr 1
theorem joined_snoc (ys : List ByteArray) (y sep : ByteArray) : joined (ys ++ [y]) sep = if ys = [] then y else joined ys sep ++ sep ++ y := by
  cases ys with
  | nil =>
    rw [if_pos rfl]
    unfold joined
    simp [Lib.join_one]
  | cons x r =>
    rw [if_neg (by simp)]
    unfold joined
    apply ByteArray.ext
    rw [ByteArray.data_append, ByteArray.data_append]
    apply Array.toList_inj.1
    simp only [List.cons_append, List.map_cons, List.map_append, List.map_nil, Lib.join_cons, Lib.joinTail, List.flatten_append, List.flatten_cons, List.flatten_nil, List.append_nil, Array.toList_append, List.append_assoc]
theorem joined_size : ∀ (n : Nat) (ys : List ByteArray), ys.length = n → (∀ y ∈ ys, y.size ≤ 2) → (joined ys ⟨#[44]⟩).size ≤ 3 * n
  | 0, ys, hl, _ => by
    rw [List.length_eq_zero_iff.1 hl]
    exact Nat.le_refl _
  | n + 1, ys, hl, h => by
    obtain ⟨zs, z, rfl⟩ : ∃ zs z, ys = zs ++ [z] := ⟨ys.dropLast, ys.getLast (by intro e; rw [e] at hl; cases hl), (List.dropLast_concat_getLast _).symm⟩
    have ih := joined_size n zs (by simpa using hl) fun y hy => h y (List.mem_append_left _ hy)
    have hz := h z (by simp)
    rw [joined_snoc]
    split
    · omega
    · rw [ByteArray.size_append, ByteArray.size_append, bs1]
      omega
theorem join_length (ys : List ByteArray) (sep : ByteArray) : (Lib.join (ys.map (·.data.toList)) sep.data.toList).length = (joined ys sep).size := rfl
def Nx (v : List Int) : ByteArray := joined (v.map Tx) ⟨#[44]⟩
theorem Nx_size (v : List Int) : (Nx v).size ≤ 3 * v.length := joined_size v.length (v.map Tx) (by simp) fun y hy => by
  obtain ⟨x, _, rfl⟩ := List.mem_map.1 hy
  exact (Tx_size x).2
theorem Nx_step {v : List Int} {i : Nat} (h : i < v.length) : Nx (v.take (i + 1)) = if i = 0 then Tx (rd v (i : Int)) else Nx (v.take i) ++ ⟨#[44]⟩ ++ Tx (rd v (i : Int)) := by
  unfold Nx
  rw [take_rd h, List.map_append, List.map_singleton, joined_snoc]
  by_cases h0 : i = 0
  · subst h0
    rw [if_pos (by simp), if_pos rfl]
  · rw [if_neg (by simp [h0]; intro e; rw [e] at h; cases h), if_neg h0]
theorem numbersText {v : List Int} {m : Int} (hv : AllIn m v) (hm : m ≤ 20) (hl : v.length ≤ 100000) : impl_numbersText.f v = some (Nx v) := by
  rw [impl_numbersText.f_eq]
  have := up v.length (fun i => impl_numbersText.l0 v (v.length : Int) (i : Int) ((v.take i).map Tx)) (fun i hi => by
    obtain ⟨a0, a1⟩ := hv (i : Int) (by omega) (by omega)
    have hd := decimal (n := rd v (i : Int)) a0 (by omega)
    have l1 : ((v.take i).map Tx).length = i := by rw [List.length_map, List.length_take]; omega
    have l3 : ∀ y : ByteArray, ([y] : List ByteArray).length = 1 := fun _ => rfl
    rw [take_rd hi, List.map_append, List.map_singleton, impl_numbersText.l0_eq, hd, Option.bind_some, l1, l3, wn (j := i) (by omega)]
    ((with_reducible repeat (first | refine go_pos (by first | assumption | omega | rfl | exact B_pos (by omega)) ?_ | refine go_neg (by first | assumption | omega | decide | exact B_not (by omega)) ?_ | refine go_bind (by first | assumption) ?_ | dsimp only)); first | done | (with_reducible rfl) | simp (disch := omega) only [w64] | (show False; done)))
  simp only [Int.natCast_zero, List.take_zero, List.map_nil, List.take_length] at this
  have hs := Nx_size v
  have hj : joinF (v.map Tx) ⟨#[44]⟩ = some (Nx v) := by
    unfold joinF
    rw [if_pos ⟨by rw [List.length_map]; omega, by rw [join_length]; show (Nx v).size ≤ _; omega⟩]
    rfl
  rw [this, impl_numbersText.l0_eq, if_neg (by omega), strings_Join.f, hj]
  rfl
def Cx (d : Int) (v : List Int) : ByteArray := Tx d ++ ⟨#[58]⟩ ++ Nx v
theorem cochainText {d m : Int} {v : List Int} (d0 : 0 ≤ d) (d1 : d ≤ 3) (hv : AllIn m v) (hm : m ≤ 20) (hl : v.length ≤ 100000) : impl_cochainText.f d v = some (Cx d v) := by
  have h1 := decimal (n := d) d0 (by omega)
  have h2 := numbersText hv hm hl
  have s1 := Tx_size d
  have s2 := Nx_size v
  rw [impl_cochainText.f_eq, h1, Option.bind_some, if_pos (szs_le (by rw [bs1]; omega)), h2, Option.bind_some, if_pos (szs_le (by rw [ByteArray.size_append, bs1]; omega))]
  rfl
theorem Text_ {d m : Int} {v : List Int} (d0 : 0 ≤ d) (d1 : d ≤ 3) (hv : AllIn m v) (hm : m ≤ 20) (hl : v.length ≤ 100000) : spec_l03Text.f d v = some (Cx d v) := by
  have h1 := Dec_ (n := d) d0 (by omega)
  have s1 := Tx_size d
  rw [spec_l03Text.f_eq, h1, Option.bind_some, if_pos (szs_le (by rw [bs1]; omega))]
  have := up v.length (fun i => spec_l03Text.l0 (Tx d ++ ⟨#[58]⟩ ++ Nx (v.take i)) (i : Int) d v) (fun i hi => by
    obtain ⟨a0, a1⟩ := hv (i : Int) (by omega) (by omega)
    have hd := Dec_ (n := rd v (i : Int)) a0 (by omega)
    have s2 := Nx_size (v.take i)
    rw [List.length_take] at s2
    have s3 := Tx_size (rd v (i : Int))
    have s4 : (Tx d ++ (⟨#[58]⟩ : ByteArray) ++ Nx (v.take i)).size = (Tx d).size + 1 + (Nx (v.take i)).size := by rw [ByteArray.size_append, ByteArray.size_append, bs1]
    rw [Nx_step hi, spec_l03Text.l0_eq, hd, Option.bind_some, Option.bind_some, if_pos (by omega), wn (j := i) (by omega)]
    by_cases h0 : i = 0
    · subst h0
      have e : Nx (v.take 0) = ByteArray.empty := rfl
      rw [if_neg (by simp), if_pos rfl, if_pos (by omega), if_pos (by omega), if_pos (szs_le (by omega)), e, ByteArray.append_empty]
    · rw [if_pos (by omega), if_neg h0, if_pos (szs_le (by rw [s4, bs1]; omega)), if_pos (by omega), if_pos (by omega), if_pos (szs_le (by rw [ByteArray.size_append, s4, bs1]; omega))]
      simp only [ByteArray.append_assoc])
  simp only [Int.natCast_zero, List.take_zero, List.take_length] at this
  have e : Nx [] = ByteArray.empty := rfl
  rw [e, ByteArray.append_empty] at this
  rw [this, spec_l03Text.l0_eq, if_neg (by omega)]
  rfl
end Go.Proofs.YtacipknfhoadoaaDoor.V
set_option linter.unusedVariables false
set_option linter.unusedSimpArgs false
set_option maxHeartbeats 2000000
set_option maxRecDepth 20000
namespace Go.Proofs.YtacipknfhoadoaaDoor.V
open Go.RowKit Go.Proofs.YtacipknfhoadoaaDoor.D Go.Proofs.YtacipknfhoadoaaDoor.P
theorem same_CochainText (g : List (List Int)) (m : Int) (u : List Int) (d : Int) (v : List Int) (hl : g.length ≤ maxLen) (hr : ∀ r ∈ g, r.length ≤ maxLen) (hu : u.length ≤ maxLen) (hv : v.length ≤ maxLen) :
    ∃ (t : ByteArray) (c : Int), spec_CochainText.f g m u d v = some (t, c) ∧ impl_CochainText.f g m u d v = some (t, c) := by
  rcases co_codes g hl hr m u hu d v hv with ⟨hg, hm, hc, cI, cS⟩ | ⟨_, cI, cS⟩
  rotate_left
  · refine ⟨⟨#[]⟩, 1, ?_, ?_⟩
    · rw [spec_CochainText.f_eq]
      ((with_reducible repeat (first | refine go_pos (by first | assumption | omega | rfl | exact B_pos (by omega)) ?_ | refine go_neg (by first | assumption | omega | decide | exact B_not (by omega)) ?_ | refine go_bind (by first | assumption) ?_ | dsimp only)); first | done | (with_reducible rfl) | simp (disch := omega) only [w64] | (show False; done))
    · rw [impl_CochainText.f_eq]
      ((with_reducible repeat (first | refine go_pos (by first | assumption | omega | rfl | exact B_pos (by omega)) ?_ | refine go_neg (by first | assumption | omega | decide | exact B_not (by omega)) ?_ | refine go_bind (by first | assumption) ?_ | dsimp only)); first | done | (with_reducible rfl) | simp (disch := omega) only [w64] | (show False; done))
  have m2 := hm.m2; have m12 := hm.m12
  obtain ⟨d0, d1⟩ := hc.1
  have hb := cells_bd hg (d := d) (by omega)
  have hcl := hc.2.1
  have hi := cochainText (m := m) d0 d1 hc.2.2 (by omega) (by omega)
  have hs := Text_ (m := m) d0 d1 hc.2.2 (by omega) (by omega)
  refine ⟨Cx d v, 0, ?_, ?_⟩
  · rw [spec_CochainText.f_eq]
    ((with_reducible repeat (first | refine go_pos (by first | assumption | omega | rfl | exact B_pos (by omega)) ?_ | refine go_neg (by first | assumption | omega | decide | exact B_not (by omega)) ?_ | refine go_bind (by first | assumption) ?_ | dsimp only)); first | done | (with_reducible rfl) | simp (disch := omega) only [w64] | (show False; done))
  · rw [impl_CochainText.f_eq]
    ((with_reducible repeat (first | refine go_pos (by first | assumption | omega | rfl | exact B_pos (by omega)) ?_ | refine go_neg (by first | assumption | omega | decide | exact B_not (by omega)) ?_ | refine go_bind (by first | assumption) ?_ | dsimp only)); first | done | (with_reducible rfl) | simp (disch := omega) only [w64] | (show False; done))
end Go.Proofs.YtacipknfhoadoaaDoor.V
set_option linter.unusedVariables false
set_option linter.unusedSimpArgs false
set_option maxHeartbeats 4000000
set_option maxRecDepth 20000
namespace Go.Proofs.YtacipknfhoadoaaDoor.Pure
open Go.RowKit Go.Proofs.YtacipknfhoadoaaDoor.D Go.Proofs.YtacipknfhoadoaaDoor.P Go.Proofs.YtacipknfhoadoaaDoor.V
theorem FnExactCochainText_pure : ∀ (g0 : List (List Int)) (m1 : Int) (u1 : List Int) (m2 : Int) (u2 : List Int), g0.length ≤ maxLen → (∀ r ∈ g0, r.length ≤ maxLen ∧ ∀ x ∈ r, (Lit.int .i64 x).wf = true) → (Lit.int .i64 m1).wf = true → u1.length ≤ maxLen → (∀ x ∈ u1, (Lit.int .i64 x).wf = true) → (Lit.int .i64 m2).wf = true → u2.length ≤ maxLen → (∀ x ∈ u2, (Lit.int .i64 x).wf = true) → laws_FnExactCochainText.f g0 m1 u1 m2 u2 = some true := by
  intro g0 m1 u1 m2 u2 hl0 hq0 hw1 hu1 hx1 hw2 hu2 hx2
  have hr0 : ∀ r ∈ g0, r.length ≤ maxLen := fun r h => (hq0 r h).1
  rw [laws_FnExactCochainText.f_eq]
  obtain ⟨t0, e0, z0⟩ := szGroup g0 1048576 hl0 hr0 (by omega) (by omega)
  rcases z0 with z0 | ⟨ta0, tb0, kl0, kr0⟩
  · ((with_reducible repeat (first | refine go_pos (by first | assumption | omega | rfl | exact B_pos (by omega)) ?_ | refine go_neg (by first | assumption | omega | decide | exact B_not (by omega)) ?_ | refine go_bind (by first | assumption) ?_ | dsimp only)); first | done | (with_reducible rfl) | simp (disch := omega) only [w64] | (show False; done))
  obtain ⟨t1, e1, z1⟩ := szModule m1 u1 t0 hu1 (by omega) (by omega)
  rcases z1 with z1 | ⟨ta1, tb1, ku1⟩
  · ((with_reducible repeat (first | refine go_pos (by first | assumption | omega | rfl | exact B_pos (by omega)) ?_ | refine go_neg (by first | assumption | omega | decide | exact B_not (by omega)) ?_ | refine go_bind (by first | assumption) ?_ | dsimp only)); first | done | (with_reducible rfl) | simp (disch := omega) only [w64] | (show False; done))
  obtain ⟨t2, e2, z2⟩ := szCochain m2 u2 t1 hu2 (by omega) (by omega)
  rcases z2 with z2 | ⟨ta2, tb2, ku2⟩
  · ((with_reducible repeat (first | refine go_pos (by first | assumption | omega | rfl | exact B_pos (by omega)) ?_ | refine go_neg (by first | assumption | omega | decide | exact B_not (by omega)) ?_ | refine go_bind (by first | assumption) ?_ | dsimp only)); first | done | (with_reducible rfl) | simp (disch := omega) only [w64] | (show False; done))
  obtain ⟨c0, c1, hS, hI⟩ := same_CochainText g0 m1 u1 m2 u2 hl0 hr0 hu1 hu2
  have eT0 := toGroup g0 kl0 kr0
  have eS0 := same_Group g0 hl0 hr0
  have eN0 := tot_small kl0 kr0
  have eK0 := markGroup g0 (1) (by omega) (by omega) (by omega)
  have eT1 := toModule m1 u1 ku1
  have eS1 := same_Module m1 u1 hu1
  have eK1 := markModule m1 u1 (1 + tot g0) (by omega) (by omega)
  have eT2 := toCochain m2 u2 ku2
  have eS2 := same_Cochain m2 u2 hu2
  have eK2 := markCochain m2 u2 (1 + tot g0 + u1.length) (by omega) (by omega)
  ((with_reducible repeat (first | refine go_pos (by first | assumption | omega | rfl | exact B_pos (by omega)) ?_ | refine go_neg (by first | assumption | omega | decide | exact B_not (by omega)) ?_ | refine go_bind (by first | assumption) ?_ | dsimp only)); first | done | (with_reducible rfl) | simp (disch := omega) only [w64] | (show False; done))
end Go.Proofs.YtacipknfhoadoaaDoor.Pure
namespace Go.Proofs.YtacipknfhoadoaaDoor.shut
theorem mayEnter : Tryd.pinned.checked.prog.mayEnter = true := by kernel_rfl
theorem lifted : (Rows.fnExactCochainTextRow.lifted == Tryd.pinned.checked.prog.liftsFinal) = true := by kernel_rfl
theorem make : (Tryd.pinned.checked.prog.make == some Rows.fnExactCochainTextRow.make) = true := by kernel_rfl
end Go.Proofs.YtacipknfhoadoaaDoor.shut
