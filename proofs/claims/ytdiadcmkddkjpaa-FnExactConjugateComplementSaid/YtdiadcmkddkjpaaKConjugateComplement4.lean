/- What the proof of the law ConjugateComplement stands on, part 4: words, each Go function's Lean function, and that the Go code comes to its answers; no condition. (Packed by wip/myprint/pack.py out of what the kit's printer wrote, its words among it, partly by our patches of it, and out of texts of this session.) -/
import Derived.Test.YtdiadcmkddkjpaaKConjugateComplement3
set_option linter.unusedVariables false
namespace Go.Proofs.Ytdiadcmkddkjpaa.P
open Go Go.RowKit Go.Proofs.Ytdiadcmkddkjpaa.D
noncomputable def impl_ConjugateComplement_1.E : Env := { tt := TT, con := [(104, impl_pairProduct.con)], frz := [], rows := [], live := [], n := 16, pin := 4, nils := [] }
noncomputable def impl_ConjugateComplement_1.fn : D.Fn := { body := Try.f103.body.getD .skip, res := Try.f103.results.toList, ins := [.one (.v (.int .i64)), .ptr true 32 [.v (.sl 25 (.sl 2 (.int .i64)))], .ptr true 34 [.v (.int .i64), .v (.sl 2 (.int .i64))], .ptr true 2 [.v (.int .i64)], .ptr true 2 [.v (.int .i64)]], outs := [.one (.v (.int .i64))] }
def impl_ConjugateComplement_1.enc (y : lsd (flats impl_ConjugateComplement_1.fn.outs) × lsd (ios impl_ConjugateComplement_1.fn.ins)) : Int := y.1.1
noncomputable def impl_ConjugateComplement_1.f (a0 : Int) (l1 : List (List Int)) (a2_0 : Int) (l2_1 : List Int) (a3 : Int) (a4 : Int) : Option Int := denF impl_ConjugateComplement_1.E impl_ConjugateComplement_1.fn impl_ConjugateComplement_1.enc (a0, l1, a2_0, l2_1, a3, a4, ())
set_option maxRecDepth 100000 in
theorem impl_ConjugateComplement_1.f_eq (a0 : Int) (l1 : List (List Int)) (a2_0 : Int) (l2_1 : List Int) (a3 : Int) (a4 : Int) : impl_ConjugateComplement_1.f a0 l1 a2_0 l2_1 a3 a4 = (impl_pairProduct.f l1 a2_0 l2_1 a3 a0).bind fun t13 => (impl_pairProduct.f l1 a2_0 l2_1 t13 a4).bind fun t15 => some t15 := by kernel_rfl
noncomputable def impl_ConjugateComplement_1.con : Con := ⟨impl_ConjugateComplement_1.fn.ins, impl_ConjugateComplement_1.fn.outs, Int, fun x => impl_ConjugateComplement_1.f x.1 x.2.1 x.2.2.1 x.2.2.2.1 x.2.2.2.2.1 x.2.2.2.2.2.1, fun r => ((r, ()), (()))⟩
theorem impl_ConjugateComplement_1.valid : Valid Try.prog 103 impl_ConjugateComplement_1.con := fn_valid (f := impl_ConjugateComplement_1.fn) (E := impl_ConjugateComplement_1.E) (enc := impl_ConjugateComplement_1.enc) ⟨ttOk, (conCons impl_pairProduct.valid conNil)⟩ (Checked.mixed Try.checked) ⟨Try.func103, by kernel_rfl, by kernel_rfl, by kernel_rfl, by kernel_rfl, by decide, by kernel_rfl, by kernel_rfl⟩ (fun _ => rfl)
end Go.Proofs.Ytdiadcmkddkjpaa.P
set_option linter.unusedVariables false
namespace Go.Proofs.Ytdiadcmkddkjpaa.P
open Go Go.RowKit Go.Proofs.Ytdiadcmkddkjpaa.D
noncomputable def cmp_isNaN_int64.E : Env := { tt := TT, con := [], frz := [], rows := [], live := [], n := 6, pin := 0, nils := [] }
noncomputable def cmp_isNaN_int64.fn : D.Fn := { body := Try.f171.body.getD .skip, res := Try.f171.results.toList, ins := [.one (.v (.int .i64))], outs := [.one (.v .bool)] }
def cmp_isNaN_int64.enc (y : lsd (flats cmp_isNaN_int64.fn.outs) × lsd (ios cmp_isNaN_int64.fn.ins)) : Bool := y.1.1
noncomputable def cmp_isNaN_int64.f (a0 : Int) : Option Bool := denF cmp_isNaN_int64.E cmp_isNaN_int64.fn cmp_isNaN_int64.enc (a0, ())
set_option maxRecDepth 100000 in
theorem cmp_isNaN_int64.f_eq (a0 : Int) : cmp_isNaN_int64.f a0 = some (!decide (a0 = a0)) := by kernel_rfl
noncomputable def cmp_isNaN_int64.con : Con := ⟨cmp_isNaN_int64.fn.ins, cmp_isNaN_int64.fn.outs, Bool, fun x => cmp_isNaN_int64.f x.1, fun r => ((r, ()), (()))⟩
theorem cmp_isNaN_int64.valid : Valid Try.prog 171 cmp_isNaN_int64.con := fn_valid (f := cmp_isNaN_int64.fn) (E := cmp_isNaN_int64.E) (enc := cmp_isNaN_int64.enc) ⟨ttOk, conNil⟩ (Checked.mixed Try.checked) ⟨Try.func171, by kernel_rfl, by kernel_rfl, by kernel_rfl, by kernel_rfl, by decide, by kernel_rfl, by kernel_rfl⟩ (fun _ => rfl)
end Go.Proofs.Ytdiadcmkddkjpaa.P
set_option linter.unusedVariables false
namespace Go.Proofs.Ytdiadcmkddkjpaa.P
open Go Go.RowKit Go.Proofs.Ytdiadcmkddkjpaa.D
noncomputable def cmp_Less_int64.E : Env := { tt := TT, con := [(171, cmp_isNaN_int64.con)], frz := [], rows := [], live := [], n := 17, pin := 0, nils := [] }
noncomputable def cmp_Less_int64.fn : D.Fn := { body := Try.f157.body.getD .skip, res := Try.f157.results.toList, ins := [.one (.v (.int .i64)), .one (.v (.int .i64))], outs := [.one (.v .bool)] }
def cmp_Less_int64.enc (y : lsd (flats cmp_Less_int64.fn.outs) × lsd (ios cmp_Less_int64.fn.ins)) : Bool := y.1.1
noncomputable def cmp_Less_int64.f (a0 : Int) (a1 : Int) : Option Bool := denF cmp_Less_int64.E cmp_Less_int64.fn cmp_Less_int64.enc (a0, a1, ())
set_option maxRecDepth 100000 in
theorem cmp_Less_int64.f_eq (a0 : Int) (a1 : Int) : cmp_Less_int64.f a0 a1 = (cmp_isNaN_int64.f a0).bind fun t6 => if t6 = true then ((cmp_isNaN_int64.f a1).bind fun t9 => if t9 = true then (some (decide (a0 < a1))) else (some true)) else (some (decide (a0 < a1))) := by kernel_rfl
noncomputable def cmp_Less_int64.con : Con := ⟨cmp_Less_int64.fn.ins, cmp_Less_int64.fn.outs, Bool, fun x => cmp_Less_int64.f x.1 x.2.1, fun r => ((r, ()), (()))⟩
theorem cmp_Less_int64.valid : Valid Try.prog 157 cmp_Less_int64.con := fn_valid (f := cmp_Less_int64.fn) (E := cmp_Less_int64.E) (enc := cmp_Less_int64.enc) ⟨ttOk, (conCons cmp_isNaN_int64.valid conNil)⟩ (Checked.mixed Try.checked) ⟨Try.func157, by kernel_rfl, by kernel_rfl, by kernel_rfl, by kernel_rfl, by decide, by kernel_rfl, by kernel_rfl⟩ (fun _ => rfl)
end Go.Proofs.Ytdiadcmkddkjpaa.P
set_option linter.unusedVariables false
namespace Go.Proofs.Ytdiadcmkddkjpaa.P
open Go Go.RowKit Go.Proofs.Ytdiadcmkddkjpaa.D
noncomputable def slices_insertionSortOrdered_int64.E : Env := { tt := TT, con := [(157, cmp_Less_int64.con)], frz := [], rows := [], live := [(1, [0, 1, 2, 6]), (4, [0, 1, 2, 6, 7])], n := 49, pin := 1, nils := [] }
noncomputable def slices_insertionSortOrdered_int64.fn : D.Fn := { body := Try.f151.body.getD .skip, res := Try.f151.results.toList, ins := [.one (.own 2 true (.int .i64)), .one (.v (.int .i64)), .one (.v (.int .i64))], outs := [] }
def slices_insertionSortOrdered_int64.enc (y : lsd (flats slices_insertionSortOrdered_int64.fn.outs) × lsd (ios slices_insertionSortOrdered_int64.fn.ins)) : (List Int) := y.2.1
noncomputable def slices_insertionSortOrdered_int64.f (l0 : List Int) (a1 : Int) (a2 : Int) : Option (List Int) := denF slices_insertionSortOrdered_int64.E slices_insertionSortOrdered_int64.fn slices_insertionSortOrdered_int64.enc (l0, a1, a2, ())
noncomputable def slices_insertionSortOrdered_int64.l0 (x1 : Int) (x2 : Int) (x6 : Int) (r0 : List Int) : Option (List Int) := denAt slices_insertionSortOrdered_int64.E slices_insertionSortOrdered_int64.fn slices_insertionSortOrdered_int64.enc [1, 0] { fr := [(0, .lf (.own 0)), (1, .lf (.int .i64 x1)), (2, .lf (.int .i64 x2)), (6, .lf (.int .i64 x6))], ob := [(0, .row 2 true (.int .i64) r0)], nx := 1 }
noncomputable def slices_insertionSortOrdered_int64.l1 (x1 : Int) (x2 : Int) (x6 : Int) (x7 : Int) (r0 : List Int) : Option (List Int) := denAt slices_insertionSortOrdered_int64.E slices_insertionSortOrdered_int64.fn slices_insertionSortOrdered_int64.enc [1, 0, 0, 1, 0, 0, 1, 0] { fr := [(0, .lf (.own 0)), (1, .lf (.int .i64 x1)), (2, .lf (.int .i64 x2)), (6, .lf (.int .i64 x6)), (7, .lf (.int .i64 x7))], ob := [(0, .row 2 true (.int .i64) r0)], nx := 1 }
set_option maxRecDepth 100000 in
theorem slices_insertionSortOrdered_int64.f_eq (l0 : List Int) (a1 : Int) (a2 : Int) : slices_insertionSortOrdered_int64.f l0 a1 a2 = slices_insertionSortOrdered_int64.l0 a1 a2 (wrapI (a1 + 1)) l0 := by kernel_rfl
set_option maxRecDepth 100000 in
theorem slices_insertionSortOrdered_int64.l0_eq (x1 : Int) (x2 : Int) (x6 : Int) (r0 : List Int) : slices_insertionSortOrdered_int64.l0 x1 x2 x6 r0 = if x6 < x2 then (slices_insertionSortOrdered_int64.l1 x1 x2 x6 x6 r0) else (some r0) := (loop_unfold _ _ _ _).trans (by kernel_rfl)
set_option maxRecDepth 100000 in
theorem slices_insertionSortOrdered_int64.l1_eq (x1 : Int) (x2 : Int) (x6 : Int) (x7 : Int) (r0 : List Int) : slices_insertionSortOrdered_int64.l1 x1 x2 x6 x7 r0 = if x7 > x1 then (if 0 ≤ x7 then (if x7 < (r0.length : Int) then (if 0 ≤ x7 then (if x7 < (r0.length : Int) then (if 0 ≤ wrapI (x7 - 1) then (if wrapI (x7 - 1) < (r0.length : Int) then (if 0 ≤ wrapI (x7 - 1) then (if wrapI (x7 - 1) < (r0.length : Int) then ((cmp_Less_int64.f (rd r0 x7) (rd r0 (wrapI (x7 - 1)))).bind fun t29 => if t29 = true then (if 0 ≤ wrapI (x7 - 1) then (if wrapI (x7 - 1) < (r0.length : Int) then (if 0 ≤ wrapI (x7 - 1) then (if wrapI (x7 - 1) < (r0.length : Int) then (if 0 ≤ x7 then (if x7 < (r0.length : Int) then (if 0 ≤ x7 then (if x7 < (r0.length : Int) then (if 0 ≤ x7 then (if x7 < (r0.length : Int) then (if 0 ≤ x7 then (if x7 < (r0.length : Int) then (if 0 ≤ wrapI (x7 - 1) then (if wrapI (x7 - 1) < ((r0.set (x7 : Int).toNat (rd r0 (wrapI (x7 - 1)))).length : Int) then (if 0 ≤ wrapI (x7 - 1) then (if wrapI (x7 - 1) < ((r0.set (x7 : Int).toNat (rd r0 (wrapI (x7 - 1)))).length : Int) then (slices_insertionSortOrdered_int64.l1 x1 x2 x6 (wrapI (x7 - 1)) ((r0.set (x7 : Int).toNat (rd r0 (wrapI (x7 - 1)))).set (wrapI (x7 - 1) : Int).toNat (rd r0 x7))) else none) else none) else none) else none) else none) else none) else none) else none) else none) else none) else none) else none) else none) else none) else none) else none) else (slices_insertionSortOrdered_int64.l0 x1 x2 (wrapI (x6 + 1)) r0)) else none) else none) else none) else none) else none) else none) else none) else none) else (slices_insertionSortOrdered_int64.l0 x1 x2 (wrapI (x6 + 1)) r0) := (loop_unfold _ _ _ _).trans (by kernel_rfl)
noncomputable def slices_insertionSortOrdered_int64.con : Con := ⟨slices_insertionSortOrdered_int64.fn.ins, slices_insertionSortOrdered_int64.fn.outs, (List Int), fun x => slices_insertionSortOrdered_int64.f x.1 x.2.1 x.2.2.1, fun r => ((()), (r, ()))⟩
theorem slices_insertionSortOrdered_int64.valid : Valid Try.prog 151 slices_insertionSortOrdered_int64.con := fn_valid (f := slices_insertionSortOrdered_int64.fn) (E := slices_insertionSortOrdered_int64.E) (enc := slices_insertionSortOrdered_int64.enc) ⟨ttOk, (conCons cmp_Less_int64.valid conNil)⟩ (Checked.mixed Try.checked) ⟨Try.func151, by kernel_rfl, by kernel_rfl, by kernel_rfl, by kernel_rfl, by decide, by kernel_rfl, by kernel_rfl⟩ (fun _ => rfl)
end Go.Proofs.Ytdiadcmkddkjpaa.P
set_option linter.unusedVariables false
namespace Go.Proofs.Ytdiadcmkddkjpaa.P
open Go Go.RowKit Go.Proofs.Ytdiadcmkddkjpaa.D
noncomputable def slices_pdqsortOrdered_int64.E : Env := { tt := TT, con := [(151, slices_insertionSortOrdered_int64.con)], frz := [], rows := [], live := [(2, [0, 1, 2, 3, 8, 9])], n := 134, pin := 1, nils := [8, 9] }
noncomputable def slices_pdqsortOrdered_int64.fn : D.Fn := { body := Try.f138.body.getD .skip, res := Try.f138.results.toList, ins := [.one (.own 2 true (.int .i64)), .one (.v (.int .i64)), .one (.v (.int .i64)), .one (.v (.int .i64))], outs := [] }
def slices_pdqsortOrdered_int64.enc (y : lsd (flats slices_pdqsortOrdered_int64.fn.outs) × lsd (ios slices_pdqsortOrdered_int64.fn.ins)) : (List Int) := y.2.1
noncomputable def slices_pdqsortOrdered_int64.f (l0 : List Int) (a1 : Int) (a2 : Int) (a3 : Int) : Option (List Int) := denF slices_pdqsortOrdered_int64.E slices_pdqsortOrdered_int64.fn slices_pdqsortOrdered_int64.enc (l0, a1, a2, a3, ())
noncomputable def slices_pdqsortOrdered_int64.l0 (x1 : Int) (x2 : Int) (x3 : Int) (x8 : Bool) (x9 : Bool) (r0 : List Int) : Option (List Int) := denAt slices_pdqsortOrdered_int64.E slices_pdqsortOrdered_int64.fn slices_pdqsortOrdered_int64.enc [1, 1, 0] { fr := [(0, .lf (.own 0)), (1, .lf (.int .i64 x1)), (2, .lf (.int .i64 x2)), (3, .lf (.int .i64 x3)), (8, .lf (boolLf x8)), (9, .lf (boolLf x9))], ob := [(0, .row 2 true (.int .i64) r0)], nx := 1 }
set_option maxRecDepth 100000 in
theorem slices_pdqsortOrdered_int64.f_eq (l0 : List Int) (a1 : Int) (a2 : Int) (a3 : Int) : slices_pdqsortOrdered_int64.f l0 a1 a2 a3 = slices_pdqsortOrdered_int64.l0 a1 a2 a3 true true l0 := by kernel_rfl
set_option maxRecDepth 100000 in
theorem slices_pdqsortOrdered_int64.l0_eq (x1 : Int) (x2 : Int) (x3 : Int) (x8 : Bool) (x9 : Bool) (r0 : List Int) : slices_pdqsortOrdered_int64.l0 x1 x2 x3 x8 x9 r0 = if (wrapI (x2 - x1)) ≤ 12 then ((slices_insertionSortOrdered_int64.f r0 x1 x2).bind fun t27 => some t27) else (if x3 = 0 then none else (if x8 = true then none else none)) := (loop_unfold _ _ _ _).trans (by kernel_rfl)
noncomputable def slices_pdqsortOrdered_int64.con : Con := ⟨slices_pdqsortOrdered_int64.fn.ins, slices_pdqsortOrdered_int64.fn.outs, (List Int), fun x => slices_pdqsortOrdered_int64.f x.1 x.2.1 x.2.2.1 x.2.2.2.1, fun r => ((()), (r, ()))⟩
theorem slices_pdqsortOrdered_int64.valid : Valid Try.prog 138 slices_pdqsortOrdered_int64.con := fn_valid (f := slices_pdqsortOrdered_int64.fn) (E := slices_pdqsortOrdered_int64.E) (enc := slices_pdqsortOrdered_int64.enc) ⟨ttOk, (conCons slices_insertionSortOrdered_int64.valid conNil)⟩ (Checked.mixed Try.checked) ⟨Try.func138, by kernel_rfl, by kernel_rfl, by kernel_rfl, by kernel_rfl, by decide, by kernel_rfl, by kernel_rfl⟩ (fun _ => rfl)
end Go.Proofs.Ytdiadcmkddkjpaa.P
