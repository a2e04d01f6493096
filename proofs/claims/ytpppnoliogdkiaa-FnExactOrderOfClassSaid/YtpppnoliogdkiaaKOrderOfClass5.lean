/- What the proof of the law OrderOfClass stands on, part 5: words, each Go function's Lean function, and that the Go code comes to its answers; no condition. (Packed by wip/myprint/pack.py out of what the kit's printer wrote, its words among it, partly by our patches of it, and out of texts of this session.) -/
import Derived.ChangeSlices
import Derived.ChangeSame
import Derived.Deep.Matrix
import Derived.Lib.SmallJoins
import Derived.Test.YtpppnoliogdkiaaKOrderOfClass3
import Derived.Test.YtpppnoliogdkiaaKOrderOfClass4
set_option linter.unusedVariables false
namespace Go.Proofs.Ytpppnoliogdkiaa.P
open Go Go.RowKit Go.Proofs.Ytpppnoliogdkiaa.D
noncomputable def impl_isCocycle.E : Env := { tt := TT, con := [(112, impl_boundary.con)], frz := [], rows := [], live := [(2, [13, 14, 15])], n := 22, pin := 0, nils := [] }
noncomputable def impl_isCocycle.fn : D.Fn := { body := Try.f115.body.getD .skip, res := Try.f115.results.toList, ins := [.agg [.v (.sl 25 (.sl 2 (.int .i64)))], .agg [.v (.int .i64), .v (.sl 2 (.int .i64))], .agg [.v (.int .i64), .v (.sl 2 (.int .i64))]], outs := [.one (.v .bool)] }
def impl_isCocycle.enc (y : lsd (flats impl_isCocycle.fn.outs) × lsd (ios impl_isCocycle.fn.ins)) : Bool := y.1.1
noncomputable def impl_isCocycle.f (l0_0 : List (List Int)) (a1_0 : Int) (l1_1 : List Int) (a2_0 : Int) (l2_1 : List Int) : Option Bool := denF impl_isCocycle.E impl_isCocycle.fn impl_isCocycle.enc (l0_0, a1_0, l1_1, a2_0, l2_1, ())
noncomputable def impl_isCocycle.l0 (x14 : Int) (x15 : Int) (r0 : List Int) : Option Bool := denAt impl_isCocycle.E impl_isCocycle.fn impl_isCocycle.enc [1, 0, 1, 0] { fr := [(13, .lf (.own 0)), (14, .lf (.int .i64 x14)), (15, .lf (.int .i64 x15))], ob := [(0, .row 2 true (.int .i64) r0)], nx := 1 }
set_option maxRecDepth 100000 in
theorem impl_isCocycle.f_eq (l0_0 : List (List Int)) (a1_0 : Int) (l1_1 : List Int) (a2_0 : Int) (l2_1 : List Int) : impl_isCocycle.f l0_0 a1_0 l1_1 a2_0 l2_1 = (impl_boundary.f l0_0 a1_0 l1_1 a2_0 l2_1).bind fun t12 => impl_isCocycle.l0 (t12.2.length : Int) 0 t12.2 := by kernel_rfl
set_option maxRecDepth 100000 in
theorem impl_isCocycle.l0_eq (x14 : Int) (x15 : Int) (r0 : List Int) : impl_isCocycle.l0 x14 x15 r0 = if x15 < x14 then (if 0 ≤ x15 then (if x15 < (r0.length : Int) then (if 0 ≤ x15 then (if x15 < (r0.length : Int) then (if (rd r0 x15) = 0 then (impl_isCocycle.l0 x14 (wrapI (x15 + 1)) r0) else (some false)) else none) else none) else none) else none) else (some true) := (loop_unfold _ _ _ _).trans (by kernel_rfl)
noncomputable def impl_isCocycle.con : Con := ⟨impl_isCocycle.fn.ins, impl_isCocycle.fn.outs, Bool, fun x => impl_isCocycle.f x.1 x.2.1 x.2.2.1 x.2.2.2.1 x.2.2.2.2.1, fun r => ((r, ()), (()))⟩
theorem impl_isCocycle.valid : Valid Try.prog 115 impl_isCocycle.con := fn_valid (f := impl_isCocycle.fn) (E := impl_isCocycle.E) (enc := impl_isCocycle.enc) ⟨ttOk, (conCons impl_boundary.valid conNil)⟩ (Checked.mixed Try.checked) ⟨Try.func115, by kernel_rfl, by kernel_rfl, by kernel_rfl, by kernel_rfl, by decide, by kernel_rfl, by kernel_rfl⟩ (fun _ => rfl)
end Go.Proofs.Ytpppnoliogdkiaa.P
set_option linter.unusedVariables false
namespace Go.Proofs.Ytpppnoliogdkiaa.P
open Go Go.RowKit Go.Proofs.Ytpppnoliogdkiaa.D
noncomputable def impl_isRanked.E : Env := { tt := TT, con := [(129, impl_cells.con)], frz := [], rows := [], live := [], n := 9, pin := 0, nils := [] }
noncomputable def impl_isRanked.fn : D.Fn := { body := Try.f127.body.getD .skip, res := Try.f127.results.toList, ins := [.agg [.v (.sl 25 (.sl 2 (.int .i64)))], .one (.v (.int .i64))], outs := [.one (.v .bool)] }
def impl_isRanked.enc (y : lsd (flats impl_isRanked.fn.outs) × lsd (ios impl_isRanked.fn.ins)) : Bool := y.1.1
noncomputable def impl_isRanked.f (l0_0 : List (List Int)) (a1 : Int) : Option Bool := denF impl_isRanked.E impl_isRanked.fn impl_isRanked.enc (l0_0, a1, ())
set_option maxRecDepth 100000 in
theorem impl_isRanked.f_eq (l0_0 : List (List Int)) (a1 : Int) : impl_isRanked.f l0_0 a1 = (impl_cells.f l0_0 a1).bind fun t7 => some (decide (t7 ≤ 49)) := by kernel_rfl
noncomputable def impl_isRanked.con : Con := ⟨impl_isRanked.fn.ins, impl_isRanked.fn.outs, Bool, fun x => impl_isRanked.f x.1 x.2.1, fun r => ((r, ()), (()))⟩
theorem impl_isRanked.valid : Valid Try.prog 127 impl_isRanked.con := fn_valid (f := impl_isRanked.fn) (E := impl_isRanked.E) (enc := impl_isRanked.enc) ⟨ttOk, (conCons impl_cells.valid conNil)⟩ (Checked.mixed Try.checked) ⟨Try.func127, by kernel_rfl, by kernel_rfl, by kernel_rfl, by kernel_rfl, by decide, by kernel_rfl, by kernel_rfl⟩ (fun _ => rfl)
end Go.Proofs.Ytpppnoliogdkiaa.P
set_option linter.unusedVariables false
namespace Go.Proofs.Ytpppnoliogdkiaa.P
open Go Go.RowKit Go.Proofs.Ytpppnoliogdkiaa.D
noncomputable def impl_cocycleCode.E : Env := { tt := TT, con := [(111, impl_cochainCode.con), (127, impl_isRanked.con), (115, impl_isCocycle.con)], frz := [], rows := [], live := [(5, [2, 3, 4, 19, 20, 21]), (13, [3, 4, 40, 41, 42])], n := 52, pin := 0, nils := [] }
noncomputable def impl_cocycleCode.fn : D.Fn := { body := Try.f90.body.getD .skip, res := Try.f90.results.toList, ins := [.agg [.v (.sl 25 (.sl 2 (.int .i64)))], .agg [.v (.int .i64), .v (.sl 2 (.int .i64))], .one (.v (.sl 48 (.pr (.int .i64) (.sl 2 (.int .i64)))))], outs := [.one (.v (.int .i64))] }
def impl_cocycleCode.enc (y : lsd (flats impl_cocycleCode.fn.outs) × lsd (ios impl_cocycleCode.fn.ins)) : Int := y.1.1
noncomputable def impl_cocycleCode.f (l0_0 : List (List Int)) (a1_0 : Int) (l1_1 : List Int) (l2 : List (Int × (List Int))) : Option Int := denF impl_cocycleCode.E impl_cocycleCode.fn impl_cocycleCode.enc (l0_0, a1_0, l1_1, l2, ())
noncomputable def impl_cocycleCode.l0 (x2 : List (Int × (List Int))) (x19 : List (Int × (List Int))) (x20 : Int) (x21 : Int) (b0_0 : List (List Int)) (b1_0 : Int) (b1_1 : List Int) : Option Int := denAt impl_cocycleCode.E impl_cocycleCode.fn impl_cocycleCode.enc [1, 1, 0, 1, 0] { fr := [(2, .lf (.sl (.pr (.int .i64) (.sl 2 (.int .i64))) x2)), (3, .lf (.box 0 0)), (4, .lf (.box 1 0)), (19, .lf (.sl (.pr (.int .i64) (.sl 2 (.int .i64))) x19)), (20, .lf (.int .i64 x20)), (21, .lf (.int .i64 x21))], ob := [(0, .box 32 false [.sl (.sl 2 (.int .i64)) b0_0]), (1, .box 34 false [.int .i64 b1_0, .sl (.int .i64) b1_1])], nx := 2 }
noncomputable def impl_cocycleCode.l1 (x40 : List (Int × (List Int))) (x41 : Int) (x42 : Int) (b0_0 : List (List Int)) (b1_0 : Int) (b1_1 : List Int) : Option Int := denAt impl_cocycleCode.E impl_cocycleCode.fn impl_cocycleCode.enc [1, 1, 1, 1, 0, 1, 0] { fr := [(3, .lf (.box 0 0)), (4, .lf (.box 1 0)), (40, .lf (.sl (.pr (.int .i64) (.sl 2 (.int .i64))) x40)), (41, .lf (.int .i64 x41)), (42, .lf (.int .i64 x42))], ob := [(0, .box 32 false [.sl (.sl 2 (.int .i64)) b0_0]), (1, .box 34 false [.int .i64 b1_0, .sl (.int .i64) b1_1])], nx := 2 }
set_option maxRecDepth 100000 in
theorem impl_cocycleCode.f_eq (l0_0 : List (List Int)) (a1_0 : Int) (l1_1 : List Int) (l2 : List (Int × (List Int))) : impl_cocycleCode.f l0_0 a1_0 l1_1 l2 = (impl_cochainCode.f l0_0 a1_0 l1_1 l2).bind fun t15 => if t15 = 0 then (impl_cocycleCode.l0 l2 l2 (l2.length : Int) 0 l0_0 a1_0 l1_1) else (some t15) := by kernel_rfl
set_option maxRecDepth 100000 in
theorem impl_cocycleCode.l0_eq (x2 : List (Int × (List Int))) (x19 : List (Int × (List Int))) (x20 : Int) (x21 : Int) (b0_0 : List (List Int)) (b1_0 : Int) (b1_1 : List Int) : impl_cocycleCode.l0 x2 x19 x20 x21 b0_0 b1_0 b1_1 = if x21 < x20 then (if 0 ≤ x21 then (if x21 < (x19.length : Int) then (if 0 < (x2.length : Int) then (if ((Ty.rd (.pr (.int .i64) (.sl 2 (.int .i64))) x19 x21).1) = ((Ty.rd (.pr (.int .i64) (.sl 2 (.int .i64))) x2 0).1) then (impl_cocycleCode.l0 x2 x19 x20 (wrapI (x21 + 1)) b0_0 b1_0 b1_1) else (some 2)) else none) else none) else none) else (if 0 < (x2.length : Int) then ((impl_isRanked.f b0_0 ((Ty.rd (.pr (.int .i64) (.sl 2 (.int .i64))) x2 0).1)).bind fun t38 => if t38 = true then (impl_cocycleCode.l1 x2 (x2.length : Int) 0 b0_0 b1_0 b1_1) else (some 3)) else none) := (loop_unfold _ _ _ _).trans (by kernel_rfl)
set_option maxRecDepth 100000 in
theorem impl_cocycleCode.l1_eq (x40 : List (Int × (List Int))) (x41 : Int) (x42 : Int) (b0_0 : List (List Int)) (b1_0 : Int) (b1_1 : List Int) : impl_cocycleCode.l1 x40 x41 x42 b0_0 b1_0 b1_1 = if x42 < x41 then (if 0 ≤ x42 then (if x42 < (x40.length : Int) then ((impl_isCocycle.f b0_0 b1_0 b1_1 ((Ty.rd (.pr (.int .i64) (.sl 2 (.int .i64))) x40 x42).1) ((Ty.rd (.pr (.int .i64) (.sl 2 (.int .i64))) x40 x42).2)).bind fun t49 => if t49 = true then (impl_cocycleCode.l1 x40 x41 (wrapI (x42 + 1)) b0_0 b1_0 b1_1) else (some 5)) else none) else none) else (some 0) := (loop_unfold _ _ _ _).trans (by kernel_rfl)
noncomputable def impl_cocycleCode.con : Con := ⟨impl_cocycleCode.fn.ins, impl_cocycleCode.fn.outs, Int, fun x => impl_cocycleCode.f x.1 x.2.1 x.2.2.1 x.2.2.2.1, fun r => ((r, ()), (()))⟩
theorem impl_cocycleCode.valid : Valid Try.prog 90 impl_cocycleCode.con := fn_valid (f := impl_cocycleCode.fn) (E := impl_cocycleCode.E) (enc := impl_cocycleCode.enc) ⟨ttOk, (conCons impl_cochainCode.valid (conCons impl_isRanked.valid (conCons impl_isCocycle.valid conNil)))⟩ (Checked.mixed Try.checked) ⟨Try.func90, by kernel_rfl, by kernel_rfl, by kernel_rfl, by kernel_rfl, by decide, by kernel_rfl, by kernel_rfl⟩ (fun _ => rfl)
end Go.Proofs.Ytpppnoliogdkiaa.P
set_option linter.unusedVariables false
namespace Go.Proofs.Ytpppnoliogdkiaa.P
open Go Go.RowKit Go.Proofs.Ytpppnoliogdkiaa.D
noncomputable def slices_ContainsFunc_int64.E : Env := { tt := TT, con := [(177, slices_IndexFunc_int64.con)], frz := [], rows := [], live := [], n := 9, pin := 0, nils := [] }
noncomputable def slices_ContainsFunc_int64.fn : D.Fn := { body := Try.f138.body.getD .skip, res := Try.f138.results.toList, ins := [.one (.v (.sl 2 (.int .i64))), .one (.fn [(.int .i64)] .bool)], outs := [.one (.v .bool)] }
def slices_ContainsFunc_int64.enc (y : lsd (flats slices_ContainsFunc_int64.fn.outs) × lsd (ios slices_ContainsFunc_int64.fn.ins)) : Bool := y.1.1
noncomputable def slices_ContainsFunc_int64.f (l0 : List Int) (f1 : Int → Option Bool) : Option Bool := denF slices_ContainsFunc_int64.E slices_ContainsFunc_int64.fn slices_ContainsFunc_int64.enc (l0, fun x => f1 x.1, ())
set_option maxRecDepth 100000 in
theorem slices_ContainsFunc_int64.f_eq (l0 : List Int) (f1 : Int → Option Bool) : slices_ContainsFunc_int64.f l0 f1 = (slices_IndexFunc_int64.f l0 (fun z0 => (f1 z0).map fun z => z)).bind fun t7 => some (decide (t7 ≥ 0)) := by kernel_rfl
noncomputable def slices_ContainsFunc_int64.con : Con := ⟨slices_ContainsFunc_int64.fn.ins, slices_ContainsFunc_int64.fn.outs, Bool, fun x => slices_ContainsFunc_int64.f x.1 (fun z0 => x.2.1 (z0, ())), fun r => ((r, ()), (()))⟩
theorem slices_ContainsFunc_int64.valid : Valid Try.prog 138 slices_ContainsFunc_int64.con := fn_valid (f := slices_ContainsFunc_int64.fn) (E := slices_ContainsFunc_int64.E) (enc := slices_ContainsFunc_int64.enc) ⟨ttOk, (conCons slices_IndexFunc_int64.valid conNil)⟩ (Checked.mixed Try.checked) ⟨Try.func138, by kernel_rfl, by kernel_rfl, by kernel_rfl, by kernel_rfl, by decide, by kernel_rfl, by kernel_rfl⟩ (fun _ => rfl)
end Go.Proofs.Ytpppnoliogdkiaa.P
set_option linter.unusedVariables false
namespace Go.Proofs.Ytpppnoliogdkiaa.P
open Go Go.RowKit Go.Proofs.Ytpppnoliogdkiaa.D
noncomputable def impl_isZero_1.E : Env := { tt := TT, con := [], frz := [], rows := [], live := [], n := 5, pin := 0, nils := [] }
noncomputable def impl_isZero_1.fn : D.Fn := { body := Try.f139.body.getD .skip, res := Try.f139.results.toList, ins := [.one (.v (.int .i64))], outs := [.one (.v .bool)] }
def impl_isZero_1.enc (y : lsd (flats impl_isZero_1.fn.outs) × lsd (ios impl_isZero_1.fn.ins)) : Bool := y.1.1
noncomputable def impl_isZero_1.f (a0 : Int) : Option Bool := denF impl_isZero_1.E impl_isZero_1.fn impl_isZero_1.enc (a0, ())
set_option maxRecDepth 100000 in
theorem impl_isZero_1.f_eq (a0 : Int) : impl_isZero_1.f a0 = some (!decide (a0 = 0)) := by kernel_rfl
noncomputable def impl_isZero_1.con : Con := ⟨impl_isZero_1.fn.ins, impl_isZero_1.fn.outs, Bool, fun x => impl_isZero_1.f x.1, fun r => ((r, ()), (()))⟩
theorem impl_isZero_1.valid : Valid Try.prog 139 impl_isZero_1.con := fn_valid (f := impl_isZero_1.fn) (E := impl_isZero_1.E) (enc := impl_isZero_1.enc) ⟨ttOk, conNil⟩ (Checked.mixed Try.checked) ⟨Try.func139, by kernel_rfl, by kernel_rfl, by kernel_rfl, by kernel_rfl, by decide, by kernel_rfl, by kernel_rfl⟩ (fun _ => rfl)
end Go.Proofs.Ytpppnoliogdkiaa.P
set_option linter.unusedVariables false
namespace Go.Proofs.Ytpppnoliogdkiaa.P
open Go Go.RowKit Go.Proofs.Ytpppnoliogdkiaa.D
noncomputable def impl_isZero.E : Env := { tt := TT, con := [(138, slices_ContainsFunc_int64.con), (139, impl_isZero_1.con)], frz := [], rows := [], live := [], n := 6, pin := 0, nils := [] }
noncomputable def impl_isZero.fn : D.Fn := { body := Try.f91.body.getD .skip, res := Try.f91.results.toList, ins := [.one (.v (.sl 2 (.int .i64)))], outs := [.one (.v .bool)] }
def impl_isZero.enc (y : lsd (flats impl_isZero.fn.outs) × lsd (ios impl_isZero.fn.ins)) : Bool := y.1.1
noncomputable def impl_isZero.f (l0 : List Int) : Option Bool := denF impl_isZero.E impl_isZero.fn impl_isZero.enc (l0, ())
set_option maxRecDepth 100000 in
theorem impl_isZero.f_eq (l0 : List Int) : impl_isZero.f l0 = (slices_ContainsFunc_int64.f l0 (fun z0 => (impl_isZero_1.f z0).map fun z => z)).bind fun t4 => some (!decide (t4 = true)) := by kernel_rfl
noncomputable def impl_isZero.con : Con := ⟨impl_isZero.fn.ins, impl_isZero.fn.outs, Bool, fun x => impl_isZero.f x.1, fun r => ((r, ()), (()))⟩
theorem impl_isZero.valid : Valid Try.prog 91 impl_isZero.con := fn_valid (f := impl_isZero.fn) (E := impl_isZero.E) (enc := impl_isZero.enc) ⟨ttOk, (conCons slices_ContainsFunc_int64.valid (conCons impl_isZero_1.valid conNil))⟩ (Checked.mixed Try.checked) ⟨Try.func91, by kernel_rfl, by kernel_rfl, by kernel_rfl, by kernel_rfl, by decide, by kernel_rfl, by kernel_rfl⟩ (fun _ => rfl)
end Go.Proofs.Ytpppnoliogdkiaa.P
set_option linter.unusedVariables false
namespace Go.Proofs.Ytpppnoliogdkiaa.P
open Go Go.RowKit Go.Proofs.Ytpppnoliogdkiaa.D
noncomputable def impl_span_rest.E : Env := { tt := TT, con := [(179, impl_span_combined.con)], frz := [], rows := [], live := [(3, [0, 1, 6, 18, 19, 20])], n := 51, pin := 1, nils := [] }
noncomputable def impl_span_rest.fn : D.Fn := { body := Try.f140.body.getD .skip, res := Try.f140.results.toList, ins := [.ptr false 133 [.v (.int .i64), .own 25 false (.sl 1000002 (.int .i64))], .eat 2 true (.int .i64)], outs := [.one (.own 2 true (.int .i64)), .one (.own 2 true (.int .i64))] }
def impl_span_rest.enc (y : lsd (flats impl_span_rest.fn.outs) × lsd (ios impl_span_rest.fn.ins)) : (List Int) × (List Int) × Int × (List (List Int)) := (y.1.1, y.1.2.1, y.2.1, y.2.2.1)
noncomputable def impl_span_rest.f (a0_0 : Int) (l0_1 : List (List Int)) (l1 : List Int) : Option ((List Int) × (List Int) × Int × (List (List Int))) := denF impl_span_rest.E impl_span_rest.fn impl_span_rest.enc (a0_0, l0_1, l1, ())
noncomputable def impl_span_rest.l0 (x19 : Int) (x20 : Int) (b0_0 : Int) (r1 : List (List Int)) (r2 : List Int) (r3 : List Int) : Option ((List Int) × (List Int) × Int × (List (List Int))) := denAt impl_span_rest.E impl_span_rest.fn impl_span_rest.enc [1, 1, 0, 1, 0] { fr := [(0, .lf (.box 0 0)), (1, .lf (.own 2)), (6, .lf (.own 3)), (18, .lf (.own 1)), (19, .lf (.int .i64 x19)), (20, .lf (.int .i64 x20))], ob := [(0, .box 133 false [.int .i64 b0_0, .own 1]), (1, .row 25 false (.sl 1000002 (.int .i64)) r1), (2, .row 2 true (.int .i64) r2), (3, .row 2 true (.int .i64) r3)], nx := 4 }
set_option maxRecDepth 100000 in
theorem impl_span_rest.f_eq (a0_0 : Int) (l0_1 : List (List Int)) (l1 : List Int) : impl_span_rest.f a0_0 l0_1 l1 = if (l0_1.length : Int) = (l0_1.length : Int) then (if 0 ≤ (l0_1.length : Int) then (if ((l0_1.length : Int) : Int).toNat ≤ 17592186044416 then (impl_span_rest.l0 (l0_1.length : Int) 0 a0_0 l0_1 l1 (List.replicate ((l0_1.length : Int) : Int).toNat (0 : Int))) else none) else none) else none := by kernel_rfl
set_option maxRecDepth 100000 in
theorem impl_span_rest.l0_eq (x19 : Int) (x20 : Int) (b0_0 : Int) (r1 : List (List Int)) (r2 : List Int) (r3 : List Int) : impl_span_rest.l0 x19 x20 b0_0 r1 r2 r3 = if x20 < x19 then (if 0 ≤ x20 then (if x20 < (r1.length : Int) then (if 0 ≤ x20 then (if x20 < (r1.length : Int) then (if (row r1 x20).length = 0 then (impl_span_rest.l0 x19 (wrapI (x20 + 1)) b0_0 r1 r2 r3) else (if 0 < (row r1 x20).length then (if 0 ≤ x20 then (if x20 < (r2.length : Int) then (if 0 ≤ x20 then (if x20 < (r2.length : Int) then (if 0 ≤ x20 then (if x20 < ((row r1 x20).length : Int) then (if (T r1 x20 x20) = 0 then none else (if 0 ≤ x20 then (if x20 < (r3.length : Int) then (if 0 ≤ x20 then (if x20 < (r3.length : Int) then (if 0 ≤ x20 then (if x20 < ((r3.set (x20 : Int).toNat (wrapI ((rd r2 x20 : Int).tdiv (T r1 x20 x20)))).length : Int) then (if 0 ≤ x20 then (if x20 < ((r3.set (x20 : Int).toNat (wrapI ((rd r2 x20 : Int).tdiv (T r1 x20 x20)))).length : Int) then ((impl_span_combined.f b0_0 r1 1 r2 (wrapI (0 - (rd (r3.set (x20 : Int).toNat (wrapI ((rd r2 x20 : Int).tdiv (T r1 x20 x20)))) x20))) (row r1 x20)).bind fun t47 => impl_span_rest.l0 x19 (wrapI (x20 + 1)) b0_0 r1 t47 (r3.set (x20 : Int).toNat (wrapI ((rd r2 x20 : Int).tdiv (T r1 x20 x20))))) else none) else none) else none) else none) else none) else none) else none) else none)) else none) else none) else none) else none) else none) else none) else none)) else none) else none) else none) else none) else (some (r2, r3, b0_0, r1)) := (loop_unfold _ _ _ _).trans (by kernel_rfl)
noncomputable def impl_span_rest.con : Con := ⟨impl_span_rest.fn.ins, impl_span_rest.fn.outs, (List Int) × (List Int) × Int × (List (List Int)), fun x => impl_span_rest.f x.1 x.2.1 x.2.2.1, fun r => ((r.1, r.2.1, ()), (r.2.2.1, r.2.2.2, ()))⟩
theorem impl_span_rest.valid : Valid Try.prog 140 impl_span_rest.con := fn_valid (f := impl_span_rest.fn) (E := impl_span_rest.E) (enc := impl_span_rest.enc) ⟨ttOk, (conCons impl_span_combined.valid conNil)⟩ (Checked.mixed Try.checked) ⟨Try.func140, by kernel_rfl, by kernel_rfl, by kernel_rfl, by kernel_rfl, by decide, by kernel_rfl, by kernel_rfl⟩ (fun _ => rfl)
end Go.Proofs.Ytpppnoliogdkiaa.P
set_option linter.unusedVariables false
namespace Go.Proofs.Ytpppnoliogdkiaa.D
open Go Go.RowKit
theorem valid_view {P : Program} {g : FuncId} {c : Con} (hv : Valid P g c) {x : lsd (flats c.ins)} {r : c.R} (hx : c.f x = some r) {w : World} {vs : List Value} (ha : ASRs P (fun _ => False) (fun k => k < w.heap.size) w c.ins x vs (fun _ => False)) :
    Calls P g vs.toArray w fun e w' => ∃ u, e = .returned u ∧ Below w.heap.size w w' ∧ ∃ Z' Fo us, u = outV us ∧ ASRs P (fun _ => False) Z' w' c.outs (c.dec r).1 us Fo := by
  refine (hv.2 x r hx (fun k => k < w.heap.size) (fun _ => False) (fun _ => False) w vs ha (fun _ h => h.elim) (fun _ h => h) (fun _ h => h.elim)).mono ?_
  rintro e w' ⟨u, rfl, Z', Fi, Fo, hp⟩
  obtain ⟨us, hu, ho⟩ := hp.out
  exact ⟨u, rfl, ⟨hp.os, hp.tape, hp.output, hp.size, fun k hk => hp.old k hk fun h => h⟩, Z', Fo, us, hu, ho⟩
theorem cell_lt {w : World} {a : Addr} {v : Value} (h : w.cell? a = some v) : a.block < w.heap.size := by
  unfold World.cell? at h
  cases hb : w.heap[a.block]? with
  | none => rw [hb] at h; cases h
  | some o => exact (Array.getElem?_eq_some_iff.1 hb).1
theorem view_raw {α : Type} {w : World} {sz : Nat} {R : α → List Value → Prop} {A : Option Addr} {c : Nat} {xs : List α} (hz : 0 < sz) (hc : xs.length ≤ c) (hm : xs.length ≤ 9223372036854775807)
    (h : 0 < xs.length → ∃ ad, A = some ad ∧ ∀ (j : Nat) (p : α), xs[j]? = some p → ∃ cs, cs.length = sz ∧ R p cs ∧ ∀ (i : Nat) (u : Value), cs[i]? = some u → w.cell? (ad.add (j * sz + i)) = some u) : ViewRep (fun k => k < w.heap.size) w sz R A c xs := by
  refine ⟨hc, hm, fun hl => ?_⟩
  obtain ⟨ad, rfl, hcell⟩ := h hl
  refine ⟨ad, rfl, ?_, hcell⟩
  obtain ⟨cs, h1, h2, h3⟩ := hcell 0 xs[0] (List.getElem?_eq_getElem hl)
  have := cell_lt (h3 0 cs[0] (List.getElem?_eq_getElem (by omega)))
  rwa [add_block] at this
theorem law_true {P : Program} {g : FuncId} {c : Con} (hv : Valid P g c) {x : lsd (flats c.ins)} {r : c.R} (hx : c.f x = some r) {w : World} {vs : List Value} (ha : ASRs P (fun _ => False) (fun k => k < w.heap.size) w c.ins x vs (fun _ => False)) (ho : c.outs = [.one (.v .bool)]) (hr : ∀ y : lsd (flats [.one (.v .bool)]), HEq y (c.dec r).1 → y.1 = true) :
    Calls P g vs.toArray w fun e w' => e = .returned (.bool true) ∧ Below w.heap.size w w' := by
  refine (valid_view hv hx ha).mono ?_
  rintro e w' ⟨u, rfl, hb, Z', Fo, us, rfl, hh⟩
  refine ⟨?_, hb⟩
  obtain ⟨ins, outs, R, f, dec⟩ := c
  have ho : outs = [.one (.v .bool)] := ho
  subst ho
  obtain ⟨v, vs', F0, F1, rfl, h1, h2, _⟩ := hh
  cases h2
  have h1 : [v] = [.bool (dec r).1.1] := h1
  have hb1 : (dec r).1.1 = true := hr _ HEq.rfl
  cases h1
  rw [hb1]
  rfl
end Go.Proofs.Ytpppnoliogdkiaa.D
set_option linter.unusedVariables false
namespace Go.Proofs.Ytpppnoliogdkiaa.D
open Go Go.RowKit Go.ChangeShapes Go.WideShapes Go.Joins Go.Deep
section
variable {H : Type} {enc : TypeId × Value → H} {P : Program} {w : World} {base : Nat} {held : Bool}
abbrev Zw (w : World) : Nat → Prop := fun k => k < w.heap.size
abbrev No : Nat → Prop := fun _ => False
theorem rep_ints {q : TypeId} (hn : nf q = false) {k : IntKind} {a : Addr} {len cap : Nat} {zs : List Int} (hl : len ≤ cap) (hm : cap ≤ maxLen) (hz : zs.length = cap) (hc : ∀ i, i < zs.length → w.cell? (a.add i) = some (.int k (zs.getD i 0))) (hw : ∀ n ∈ zs, (Lit.int k n).wf = true) :
    ∃ l : List Int, len = l.length ∧ l.length ≤ maxLen ∧ (∀ x ∈ l, (Lit.int k x).wf = true) ∧ Rep (Zw w) w false (.sl q (.int k)) l [.slice (some a) len cap] No := by
  have hlen : (zs.take len).length = len := by rw [List.length_take]; omega
  refine ⟨zs.take len, hlen.symm, by omega, fun x hx => hw x (List.mem_of_mem_take hx), some a, cap, by rw [hlen], ?_, fun h => by rw [hn] at h; cases h⟩
  refine view_raw Nat.one_pos (by show (zs.take len).length ≤ _; omega) (by show (zs.take len).length ≤ _; simp only [maxLen] at hm; omega) fun _ => ⟨a, rfl, fun j p hj => ?_⟩
  have hj : (zs.take len)[j]? = some p := hj
  have hjl : j < len := by
    have := (List.getElem?_eq_some_iff.1 hj).1
    omega
  refine ⟨[.int k p], rfl, rfl, fun i u hu => ?_⟩
  cases i with
  | zero =>
    simp only [List.getElem?_cons_zero, Option.some.injEq] at hu
    subst hu
    have h := hc j (by omega)
    have hp : zs.getD j 0 = p := by
      rw [List.getElem?_take] at hj
      simp only [hjl, if_true] at hj
      simp [List.getD, hj]
    rw [hp] at h
    simpa [Ty.size] using h
  | succ i => simp at hu
theorem rep_none {q : TypeId} {t : Ty} : Rep (Zw w) w false (.sl q t) ([] : List t.den) [.slice none 0 0] No :=
  ⟨none, 0, rfl, ⟨Nat.le_refl _, Nat.zero_le _, fun h => absurd h (by simp)⟩, fun _ _ => rfl⟩
theorem come_ints {t e : TypeId} {k : IntKind} {fuel : Nat} {v : Value} {x : DataW H × List MemPlace} (ht : P.underlying t = some (.slice e)) (he : P.underlying e = some (.int k)) (hc : P.cellsOf e = 1)
    (h : DataW.trod enc P w base (fun _ => true) held fuel t [v] = some x) (hn : nf e = false := by rfl) :
    ∃ l : List Int, l.length ≤ maxLen ∧ (∀ x ∈ l, (Lit.int k x).wf = true) ∧ Rep (Zw w) w false (.sl e (.int k)) l [v] No := by
  rcases open_ints ht he hc h with ⟨hcs, _⟩ | ⟨a, len, cap, zs, hcs, _, hl, hm, hz, _, hcell, hw⟩
  · refine ⟨[], by simp, by simp, ?_⟩
    rw [hcs]
    exact rep_none
  · simp only [if_true] at hz
    obtain ⟨l, h1, h2, h3, h4⟩ := rep_ints (q := e) hn hl hm hz hcell hw
    exact ⟨l, h2, h3, by rw [hcs]; exact h4⟩
theorem come_rows {t e q : TypeId} {k : IntKind} {fuel : Nat} {v : Value} {x : DataW H × List MemPlace} (ht : P.underlying t = some (.slice e)) (he : P.underlying e = some (.slice q)) (hq : P.underlying q = some (.int k))
    (ce : P.cellsOf e = 1) (cq : P.cellsOf q = 1) (h : DataW.trod enc P w base (fun _ => true) held fuel t [v] = some x) (hne : nf e = false := by rfl) (hn : nf q = false := by rfl) :
    ∃ l : List (List Int), l.length ≤ maxLen ∧ (∀ r ∈ l, r.length ≤ maxLen ∧ ∀ x ∈ r, (Lit.int k x).wf = true) ∧ Rep (Zw w) w false (.sl e (.sl q (.int k))) l [v] No := by
  rcases open_int_rows ht he hq ce cq h with ⟨hcs, _⟩ | ⟨a, len, cap, A, L, C, Z, hcs, _, hl, hm, _, hr⟩
  · refine ⟨[], by simp, by simp, ?_⟩
    rw [hcs]
    exact rep_none
  · have each : ∀ r, r < cap → ∃ y : List Int, y.length ≤ maxLen ∧ (∀ x ∈ y, (Lit.int k x).wf = true) ∧ Rep (Zw w) w false (.sl q (.int k)) y [.slice (A r) (L r) (C r)] No := by
      intro r hrc
      obtain ⟨_, h1, h2, h3, h4, h5, h6⟩ := hr r hrc
      cases hA : A r with
      | none =>
        have hC := h5 hA
        refine ⟨[], by simp, by simp, ?_⟩
        have hL : L r = 0 := by omega
        rw [hL, hC]
        exact rep_none
      | some a' =>
        obtain ⟨l, _, h7, h8, h9⟩ := rep_ints (q := q) hn h1 h2 h3 (fun i hi => (h6 a' hA).2 i (by omega)) h4
        exact ⟨l, h7, h8, h9⟩
    obtain ⟨Y, hY⟩ := choose_lt each
    have hlen : ((List.range len).map Y).length = len := by simp
    refine ⟨(List.range len).map Y, by omega, fun r hr' => ?_, ?_⟩
    · obtain ⟨j, hj, rfl⟩ := List.mem_map.1 hr'
      obtain ⟨h1, h2, _⟩ := hY j (by have := List.mem_range.1 hj; omega)
      exact ⟨h1, h2⟩
    · rw [hcs]
      refine ⟨some a, cap, by rw [hlen], ?_, fun h => by rw [hne] at h; cases h⟩
      refine view_raw Nat.one_pos (by show ((List.range len).map Y).length ≤ _; omega) (by show ((List.range len).map Y).length ≤ _; simp only [maxLen] at hm; omega) fun _ => ⟨a, rfl, fun j p hj => ?_⟩
      have hj : ((List.range len).map Y)[j]? = some p := hj
      have hjl : j < len := by
        have := (List.getElem?_eq_some_iff.1 hj).1
        omega
      have hp : p = Y j := by simpa [hjl] using hj.symm
      subst hp
      obtain ⟨h1, h2, h3⟩ := hY j (by omega)
      refine ⟨[.slice (A j) (L j) (C j)], rfl, h3, fun i u hu => ?_⟩
      cases i with
      | zero =>
        simp only [List.getElem?_cons_zero, Option.some.injEq] at hu
        subst hu
        have := (hr j (by omega)).1
        simpa [Ty.size] using this
      | succ i => simp at hu
theorem come_int {t : TypeId} {k : IntKind} {fuel : Nat} {v : Value} {x : DataW H × List MemPlace} (ht : P.underlying t = some (.int k)) (h : DataW.trod enc P w base (fun _ => true) held fuel t [v] = some x) : ∃ n : Int, (Lit.int k n).wf = true ∧ Rep (Zw w) w false (.int k) n [v] No := by
  obtain ⟨n, h1, _, h2⟩ := DataW.trod_int ht h
  exact ⟨n, h2, h1⟩
theorem open_agg1 {r : Reach} {b0 : Nat} {t : TypeId} {f0 : Field} {v : Value} {d : DataW H} {p : List MemPlace} {spare : Nat → Bool} (hs : P.underlying t = some (.struct #[f0])) (hone : oneCellFields P #[f0] = true) (hC : P.cellsOf t = 1)
    (hv : Value.okWide P w r b0 t v) (h : DataW.Trod enc P w base spare held t v d p) :
    ∃ (v0 : Value) (y0 : DataW H × List MemPlace) (n : Nat), v = .agg #[v0] ∧ DataW.trod enc P w base spare held n f0.type [v0] = some y0 := by
  obtain ⟨cs, rfl, hsz⟩ := okWide_struct hs hv
  have hsz1 : cs.size = 1 := hsz.trans hC
  obtain ⟨c0, rfl⟩ : ∃ c0, cs = #[c0] := by
    obtain ⟨l⟩ := cs
    match l, hsz1 with
    | [c0], _ => exact ⟨c0, rfl⟩
  obtain ⟨fuel, hf⟩ := h
  obtain ⟨y0, n, hx, _, h0⟩ := trod_struct1 hs hf
  obtain ⟨o0, k0⟩ := hone_of hone 0 f0 rfl
  exact ⟨c0, y0, n, rfl, by simpa [Value.cells, o0, k0] using h0⟩
theorem args_nil : ASRs P No (Zw w) w [] () [] No := rfl
theorem args_agg1 {t : Ty} {x : t.den} {v : Value} {ins : List ASh} {y : lsd (flats ins)} {vs : List Value} (h : Rep (Zw w) w false t x [v] No) (hr : ASRs P No (Zw w) w ins y vs No) : ASRs P No (Zw w) w (.agg [.v t] :: ins) (x, y) (.agg #[v] :: vs) No :=
  ⟨.agg #[v], vs, No, No, rfl, ⟨[v], rfl, v, [], No, No, rfl, h, rfl, fun _ h => h, fun _ h => h, fun _ h => h.elim⟩, hr, fun _ h => h, fun _ h => h, fun _ h => h.elim⟩
theorem args_agg2 {t t' : Ty} {x : t.den} {x' : t'.den} {v v' : Value} {ins : List ASh} {y : lsd (flats ins)} {vs : List Value} (h : Rep (Zw w) w false t x [v] No) (h' : Rep (Zw w) w false t' x' [v'] No) (hr : ASRs P No (Zw w) w ins y vs No) : ASRs P No (Zw w) w (.agg [.v t, .v t'] :: ins) (x, x', y) (.agg #[v, v'] :: vs) No :=
  ⟨.agg #[v, v'], vs, No, No, rfl, ⟨[v, v'], rfl, v, [v'], No, No, rfl, h, ⟨v', [], No, No, rfl, h', rfl, fun _ h => h, fun _ h => h, fun _ h => h.elim⟩, fun _ h => h, fun _ h => h, fun _ h => h.elim⟩, hr, fun _ h => h, fun _ h => h, fun _ h => h.elim⟩
end
end Go.Proofs.Ytpppnoliogdkiaa.D
set_option linter.unusedVariables false
namespace Go.Proofs.Ytpppnoliogdkiaa.D
open Go Go.RowKit
end Go.Proofs.Ytpppnoliogdkiaa.D
set_option linter.unusedVariables false
set_option linter.unusedSimpArgs false
namespace Go.Proofs.Ytpppnoliogdkiaa.D
open Go Go.RowKit
noncomputable def denE {R : Type} (E : Env) (f : Fn) (enc : lsd (flats f.outs) × lsd (ios f.ins) → R) (σ : St) : Option R := denC E f.body σ (retG f enc E)
def empSt (b : Bool) : St := { fr := [(0, .lf (.emp b))], ob := [], nx := 0 }
theorem emp_valid {P : Program} {E : Env} (hE : EnvOk P E) (hm : P.follows .mixedOrders = true) {g : FuncId} {fn : Func} {body : Code} {res : List ResultVar} {e : TypeId} {t : Ty} {outs : List ASh} (h : FnOk P E g fn ⟨body, res, [.one (.v (.sl e t))], outs⟩) {R : Type}
    {enc : lsd (flats outs) × lsd (ios [.one (.v (.sl e t))]) → R} {dec : R → lsd (flats outs) × lsd (ios [.one (.v (.sl e t))])} (hde : ∀ y, dec (enc y) = y) {F : lsd (flats [.one (.v (.sl e t))]) → Option R} {r0 : R}
    (hb : ∀ b, denE E ⟨body, res, [.one (.v (.sl e t))], outs⟩ enc (empSt b) = some r0) (hv : Valid P g ⟨[.one (.v (.sl e t))], outs, R, F, dec⟩) :
    Valid P g ⟨[.one (.v (.sl e t))], outs, R, fun x => @ite _ (List.length x.1 = 0) (instDecidableEqNat _ _) (some r0) (F x), dec⟩ := by
  refine ⟨hv.1, fun x r hx Z B S w vs hargs hS hZ hB => ?_⟩
  by_cases h0 : List.length x.1 = 0
  rotate_left
  · exact hv.2 x r ((if_neg h0).symm.trans hx) Z B S w vs hargs hS hZ hB
  have hx : some r0 = some r := (if_pos h0).symm.trans hx
  cases hx
  obtain ⟨ρ0, e1, e2, e3⟩ := entry_at (E := E) (f := ⟨body, res, [.one (.v (.sl e t))], outs⟩) h.ro h.len hargs hS hZ hB
  refine calls_of_wp h.func h.body ?_
  rw [h.n]
  obtain ⟨v, vs', F0, F1, rfl, h2, h3, _⟩ := hargs
  have h3 : vs' = [] := h3
  subst h3
  have h2 : Rep Z w false (.sl e t) x.1 [v] F0 := h2
  obtain ⟨A, c, hv1, _, _⟩ := h2
  cases hv1
  have hemp : At P B E.n E.pin ρ0 Z (look (entry [.one (.v (.sl e t))] x).ob) w (empSt A.isNone) { tmps := #[Value.slice A (List.length x.1) c] ++ Array.replicate (E.n - 1) undef, defers := [] } w := by
    obtain ⟨ρ, Z', L, k1, k2, k3, k4, k5, k6, k7⟩ := e3
    refine ⟨ρ, Z', L, k1, k2, k3, fun u av hu => ?_, k5, k6, k7⟩
    by_cases e : u = 0
    · subst e
      have hu : some (AV.lf (.emp A.isNone)) = some av := hu
      cases hu
      refine ⟨A, c, ?_, rfl⟩
      simp only [Act.eval, Array.getD_eq_getD_getElem?, h0]
      rw [Array.getElem?_append_left (by simp)]
      rfl
    · simp [empSt, lk, beq_ne e] at hu
  have out : ∀ {yz}, (collect E ⟨body, res, [.one (.v (.sl e t))], outs⟩ yz).map enc = some r0 → ∃ y, collect E ⟨body, res, [.one (.v (.sl e t))], outs⟩ yz = some y ∧ dec r0 = y := fun {σ} h => by
    cases hc : collect E ⟨body, res, [.one (.v (.sl e t))], outs⟩ σ with
    | none => rw [hc] at h; cases h
    | some y =>
      rw [hc] at h
      cases h
      exact ⟨y, rfl, hde y⟩
  refine denC_sound hE hm body (retG ⟨body, res, [.one (.v (.sl e t))], outs⟩ enc E) r0 (empSt A.isNone) _ w _ (hb _) hemp fun ex σ' a' w' hk hat => ?_
  cases ex with
  | normal =>
    obtain ⟨y, hy, e⟩ := out hk
    obtain ⟨d, u, hr, hp⟩ := exit_post (fn := fn) hE h.res h.pin e1 e2 hat hy
    exact ⟨d, u, hr, u, rfl, by show ∃ Z' Fi Fo, PostR P B Z S w _ outs _ (dec r0).1 (dec r0).2 u w' Z' Fi Fo; rw [e]; exact hp⟩
  | exit i => cases hk
  | ret =>
    obtain ⟨y, hy, e⟩ := out hk
    obtain ⟨d, u, hr, hp⟩ := exit_post (fn := fn) hE h.res h.pin e1 e2 hat hy
    exact ⟨d, u, hr, u, rfl, by show ∃ Z' Fi Fo, PostR P B Z S w _ outs _ (dec r0).1 (dec r0).2 u w' Z' Fi Fo; rw [e]; exact hp⟩
end Go.Proofs.Ytpppnoliogdkiaa.D
set_option linter.unusedVariables false
namespace Go.Proofs.Ytpppnoliogdkiaa.P
open Go Go.RowKit Go.Proofs.Ytpppnoliogdkiaa.D
noncomputable def slices_Clone_int64_d.E : Env := { tt := TT, con := [], frz := [], rows := [], live := [], n := 8, pin := 0, nils := [] }
noncomputable def slices_Clone_int64_d.fn : D.Fn := { body := Try.f141.body.getD .skip, res := Try.f141.results.toList, ins := [.one (.v (.sl 2 (.int .i64)))], outs := [.one (.own 2 true (.int .i64))] }
def slices_Clone_int64_d.enc (y : lsd (flats slices_Clone_int64_d.fn.outs) × lsd (ios slices_Clone_int64_d.fn.ins)) : (List Int) := y.1.1
noncomputable def slices_Clone_int64_d.f (l0 : List Int) : Option (List Int) := denF slices_Clone_int64_d.E slices_Clone_int64_d.fn slices_Clone_int64_d.enc (l0, ())
set_option maxRecDepth 100000 in
theorem slices_Clone_int64_d.f_eq (l0 : List Int) : slices_Clone_int64_d.f l0 = if 0 < l0.length then (if ([] : List Int).length + l0.length ≤ 17592186044416 then (some (([] : List Int) ++ l0)) else none) else none := by kernel_rfl
noncomputable def slices_Clone_int64_d.con : Con := ⟨slices_Clone_int64_d.fn.ins, slices_Clone_int64_d.fn.outs, (List Int), fun x => slices_Clone_int64_d.f x.1, fun r => ((r, ()), (()))⟩
theorem slices_Clone_int64_d.valid : Valid Try.prog 141 slices_Clone_int64_d.con := fn_valid (f := slices_Clone_int64_d.fn) (E := slices_Clone_int64_d.E) (enc := slices_Clone_int64_d.enc) ⟨ttOk, conNil⟩ (Checked.mixed Try.checked) ⟨Try.func141, by kernel_rfl, by kernel_rfl, by kernel_rfl, by kernel_rfl, by decide, by kernel_rfl, by kernel_rfl⟩ (fun _ => rfl)
theorem slices_Clone_int64.emp_eq : ∀ b, denE slices_Clone_int64_d.E slices_Clone_int64_d.fn slices_Clone_int64_d.enc (empSt b) = some ([] : List Int) := fun b => by cases b <;> kernel_rfl
noncomputable def slices_Clone_int64.f (l0 : List Int) : Option (List Int) := if l0.length = 0 then some [] else slices_Clone_int64_d.f l0
theorem slices_Clone_int64.f_eq (l0 : List Int) : slices_Clone_int64.f l0 = if l0.length = 0 then some [] else (if 0 < l0.length then (if ([] : List Int).length + l0.length ≤ 17592186044416 then (some (([] : List Int) ++ l0)) else none) else none) := by unfold slices_Clone_int64.f; rw [slices_Clone_int64_d.f_eq]
noncomputable def slices_Clone_int64.con : Con := ⟨slices_Clone_int64_d.fn.ins, slices_Clone_int64_d.fn.outs, (List Int), fun x => slices_Clone_int64.f x.1, fun r => ((r, ()), (()))⟩
theorem slices_Clone_int64.valid : Valid Try.prog 141 slices_Clone_int64.con := emp_valid (E := slices_Clone_int64_d.E) (enc := slices_Clone_int64_d.enc) ⟨ttOk, conNil⟩ (Checked.mixed Try.checked) ⟨Try.func141, by kernel_rfl, by kernel_rfl, by kernel_rfl, by kernel_rfl, by decide, by kernel_rfl, by kernel_rfl⟩ (fun _ => rfl) slices_Clone_int64.emp_eq slices_Clone_int64_d.valid
end Go.Proofs.Ytpppnoliogdkiaa.P
set_option linter.unusedVariables false
namespace Go.Proofs.Ytpppnoliogdkiaa.P
open Go Go.RowKit Go.Proofs.Ytpppnoliogdkiaa.D
noncomputable def impl_span_least.E : Env := { tt := TT, con := [(141, slices_Clone_int64.con), (140, impl_span_rest.con)], frz := [], rows := [], live := [], n := 19, pin := 1, nils := [] }
noncomputable def impl_span_least.fn : D.Fn := { body := Try.f92.body.getD .skip, res := Try.f92.results.toList, ins := [.ptr false 133 [.v (.int .i64), .own 25 false (.sl 1000002 (.int .i64))], .agg [.v (.int .i64), .v (.sl 2 (.int .i64))]], outs := [.agg [.v (.int .i64), .own 2 true (.int .i64)]] }
def impl_span_least.enc (y : lsd (flats impl_span_least.fn.outs) × lsd (ios impl_span_least.fn.ins)) : Int × (List Int) × Int × (List (List Int)) := (y.1.1, y.1.2.1, y.2.1, y.2.2.1)
noncomputable def impl_span_least.f (a0_0 : Int) (l0_1 : List (List Int)) (a1_0 : Int) (l1_1 : List Int) : Option (Int × (List Int) × Int × (List (List Int))) := denF impl_span_least.E impl_span_least.fn impl_span_least.enc (a0_0, l0_1, a1_0, l1_1, ())
set_option maxRecDepth 100000 in
theorem impl_span_least.f_eq (a0_0 : Int) (l0_1 : List (List Int)) (a1_0 : Int) (l1_1 : List Int) : impl_span_least.f a0_0 l0_1 a1_0 l1_1 = (slices_Clone_int64.f l1_1).bind fun t11 => (impl_span_rest.f a0_0 l0_1 t11).bind fun t12 => some (a1_0, t12.1, t12.2.2.1, t12.2.2.2) := by kernel_rfl
noncomputable def impl_span_least.con : Con := ⟨impl_span_least.fn.ins, impl_span_least.fn.outs, Int × (List Int) × Int × (List (List Int)), fun x => impl_span_least.f x.1 x.2.1 x.2.2.1 x.2.2.2.1, fun r => ((r.1, r.2.1, ()), (r.2.2.1, r.2.2.2, ()))⟩
theorem impl_span_least.valid : Valid Try.prog 92 impl_span_least.con := fn_valid (f := impl_span_least.fn) (E := impl_span_least.E) (enc := impl_span_least.enc) ⟨ttOk, (conCons slices_Clone_int64.valid (conCons impl_span_rest.valid conNil))⟩ (Checked.mixed Try.checked) ⟨Try.func92, by kernel_rfl, by kernel_rfl, by kernel_rfl, by kernel_rfl, by decide, by kernel_rfl, by kernel_rfl⟩ (fun _ => rfl)
end Go.Proofs.Ytpppnoliogdkiaa.P
set_option linter.unusedVariables false
namespace Go.Proofs.Ytpppnoliogdkiaa.P
open Go Go.RowKit Go.Proofs.Ytpppnoliogdkiaa.D
noncomputable def impl_added.E : Env := { tt := TT, con := [], frz := [], rows := [], live := [(3, [0, 3, 6, 8, 9, 16, 17, 18])], n := 45, pin := 0, nils := [8, 9, 14] }
noncomputable def impl_added.fn : D.Fn := { body := Try.f93.body.getD .skip, res := Try.f93.results.toList, ins := [.one (.v (.int .i64)), .agg [.v (.int .i64), .v (.sl 2 (.int .i64))], .agg [.v (.int .i64), .v (.sl 2 (.int .i64))], .one (.v (.int .i64))], outs := [.agg [.v (.int .i64), .own 2 true (.int .i64)]] }
def impl_added.enc (y : lsd (flats impl_added.fn.outs) × lsd (ios impl_added.fn.ins)) : Int × (List Int) := (y.1.1, y.1.2.1)
noncomputable def impl_added.f (a0 : Int) (a1_0 : Int) (l1_1 : List Int) (a2_0 : Int) (l2_1 : List Int) (a3 : Int) : Option (Int × (List Int)) := denF impl_added.E impl_added.fn impl_added.enc (a0, a1_0, l1_1, a2_0, l2_1, a3, ())
noncomputable def impl_added.l0 (x0 : Int) (x3 : Int) (x16 : List Int) (x17 : Int) (x18 : Int) (b0_0 : Int) (b0_1 : List Int) (b1_0 : Int) (b2_0 : Int) (r3 : List Int) (r4 : List Int) : Option (Int × (List Int)) := denAt impl_added.E impl_added.fn impl_added.enc [1, 1, 0, 1, 0] { fr := [(0, .lf (.int .i64 x0)), (3, .lf (.int .i64 x3)), (6, .lf (.box 0 0)), (8, .lf (.box 1 0)), (9, .lf (.box 2 0)), (16, .lf (.sl (.int .i64) x16)), (17, .lf (.int .i64 x17)), (18, .lf (.int .i64 x18))], ob := [(0, .box 48 false [.int .i64 b0_0, .sl (.int .i64) b0_1]), (1, .box 48 false [.int .i64 b1_0, .own 3]), (2, .box 48 false [.int .i64 b2_0, .own 4]), (3, .row 2 true (.int .i64) r3), (4, .row 2 true (.int .i64) r4)], nx := 5 }
set_option maxRecDepth 100000 in
theorem impl_added.f_eq (a0 : Int) (a1_0 : Int) (l1_1 : List Int) (a2_0 : Int) (l2_1 : List Int) (a3 : Int) : impl_added.f a0 a1_0 l1_1 a2_0 l2_1 a3 = impl_added.l0 a0 a3 l1_1 (l1_1.length : Int) 0 a2_0 l2_1 0 a1_0 ([] : List Int) ([] : List Int) := by kernel_rfl
set_option maxRecDepth 100000 in
theorem impl_added.l0_eq (x0 : Int) (x3 : Int) (x16 : List Int) (x17 : Int) (x18 : Int) (b0_0 : Int) (b0_1 : List Int) (b1_0 : Int) (b2_0 : Int) (r3 : List Int) (r4 : List Int) : impl_added.l0 x0 x3 x16 x17 x18 b0_0 b0_1 b1_0 b2_0 r3 r4 = if x18 < x17 then (if 0 ≤ x18 then (if x18 < (x16.length : Int) then (if 0 ≤ x18 then (if x18 < (b0_1.length : Int) then (if x0 = 0 then none else (if x0 = 0 then none else (if r4.length + ([(wrapI (((wrapI ((rd x16 x18) + (wrapI (x3 * (rd b0_1 x18)))) : Int).tmod x0) + x0) : Int).tmod x0] : List Int).length ≤ 17592186044416 then (impl_added.l0 x0 x3 x16 x17 (wrapI (x18 + 1)) b0_0 b0_1 b1_0 b2_0 r3 (r4 ++ ([(wrapI (((wrapI ((rd x16 x18) + (wrapI (x3 * (rd b0_1 x18)))) : Int).tmod x0) + x0) : Int).tmod x0] : List Int))) else none))) else none) else none) else none) else none) else (some (b2_0, r4)) := (loop_unfold _ _ _ _).trans (by kernel_rfl)
noncomputable def impl_added.con : Con := ⟨impl_added.fn.ins, impl_added.fn.outs, Int × (List Int), fun x => impl_added.f x.1 x.2.1 x.2.2.1 x.2.2.2.1 x.2.2.2.2.1 x.2.2.2.2.2.1, fun r => ((r.1, r.2, ()), (()))⟩
theorem impl_added.valid : Valid Try.prog 93 impl_added.con := fn_valid (f := impl_added.fn) (E := impl_added.E) (enc := impl_added.enc) ⟨ttOk, conNil⟩ (Checked.mixed Try.checked) ⟨Try.func93, by kernel_rfl, by kernel_rfl, by kernel_rfl, by kernel_rfl, by decide, by kernel_rfl, by kernel_rfl⟩ (fun _ => rfl)
end Go.Proofs.Ytpppnoliogdkiaa.P
set_option linter.unusedVariables false
namespace Go.Proofs.Ytpppnoliogdkiaa.P
open Go Go.RowKit Go.Proofs.Ytpppnoliogdkiaa.D
noncomputable def impl_OrderOfClass.E : Env := { tt := TT, con := [(90, impl_cocycleCode.con), (76, impl_boundings.con), (92, impl_span_least.con), (91, impl_isZero.con), (93, impl_added.con)], frz := [38], rows := [15], live := [(7, [4, 5, 9, 10, 11])], n := 39, pin := 0, nils := [] }
noncomputable def impl_OrderOfClass.fn : D.Fn := { body := Try.f41.body.getD .skip, res := Try.f41.results.toList, ins := [.agg [.v (.sl 25 (.sl 2 (.int .i64)))], .agg [.v (.int .i64), .v (.sl 2 (.int .i64))], .agg [.v (.int .i64), .v (.sl 2 (.int .i64))]], outs := [.one (.v (.int .i64)), .one (.v (.int .i64))] }
def impl_OrderOfClass.enc (y : lsd (flats impl_OrderOfClass.fn.outs) × lsd (ios impl_OrderOfClass.fn.ins)) : Int × Int := (y.1.1, y.1.2.1)
noncomputable def impl_OrderOfClass.f (l0_0 : List (List Int)) (a1_0 : Int) (l1_1 : List Int) (a2_0 : Int) (l2_1 : List Int) : Option (Int × Int) := denF impl_OrderOfClass.E impl_OrderOfClass.fn impl_OrderOfClass.enc (l0_0, a1_0, l1_1, a2_0, l2_1, ())
noncomputable def impl_OrderOfClass.l0 (x11 : Int) (b0_0 : Int) (b0_1 : List Int) (b1_0 : Int) (b1_1 : List Int) (b2_0 : Int) (b3_0 : Int) (b3_1 : List Int) (r4 : List (List Int)) : Option (Int × Int) := denAt impl_OrderOfClass.E impl_OrderOfClass.fn impl_OrderOfClass.enc [1, 1, 1, 1, 0] { fr := [(4, .lf (.box 0 0)), (5, .lf (.box 1 0)), (9, .lf (.box 2 0)), (10, .lf (.box 3 0)), (11, .lf (.int .i64 x11))], ob := [(0, .box 34 false [.int .i64 b0_0, .sl (.int .i64) b0_1]), (1, .box 48 false [.int .i64 b1_0, .sl (.int .i64) b1_1]), (2, .box 133 false [.int .i64 b2_0, .own 4]), (3, .box 48 false [.int .i64 b3_0, .sl (.int .i64) b3_1]), (4, .row 25 false (.sl 1000002 (.int .i64)) r4)], nx := 5 }
set_option maxRecDepth 100000 in
theorem impl_OrderOfClass.f_eq (l0_0 : List (List Int)) (a1_0 : Int) (l1_1 : List Int) (a2_0 : Int) (l2_1 : List Int) : impl_OrderOfClass.f l0_0 a1_0 l1_1 a2_0 l2_1 = (impl_cocycleCode.f l0_0 a1_0 l1_1 ([(a2_0, l2_1)] : List (Int × (List Int)))).bind fun t16 => if t16 = 0 then ((impl_boundings.f l0_0 a1_0 l1_1 a2_0).bind fun t24 => impl_OrderOfClass.l0 1 a1_0 l1_1 a2_0 l2_1 t24.1 a2_0 l2_1 t24.2) else (some (0, t16)) := by kernel_rfl
set_option maxRecDepth 100000 in
theorem impl_OrderOfClass.l0_eq (x11 : Int) (b0_0 : Int) (b0_1 : List Int) (b1_0 : Int) (b1_1 : List Int) (b2_0 : Int) (b3_0 : Int) (b3_1 : List Int) (r4 : List (List Int)) : impl_OrderOfClass.l0 x11 b0_0 b0_1 b1_0 b1_1 b2_0 b3_0 b3_1 r4 = (impl_span_least.f b2_0 r4 b3_0 b3_1).bind fun t30 => (impl_isZero.f t30.2.1).bind fun t32 => if t32 = true then (some (x11, 0)) else ((impl_added.f b0_0 b3_0 b3_1 b1_0 b1_1 1).bind fun t38 => impl_OrderOfClass.l0 (wrapI (x11 + 1)) b0_0 b0_1 b1_0 b1_1 t30.2.2.1 t38.1 t38.2 t30.2.2.2) := (loop_unfold _ _ _ _).trans (by kernel_rfl)
noncomputable def impl_OrderOfClass.con : Con := ⟨impl_OrderOfClass.fn.ins, impl_OrderOfClass.fn.outs, Int × Int, fun x => impl_OrderOfClass.f x.1 x.2.1 x.2.2.1 x.2.2.2.1 x.2.2.2.2.1, fun r => ((r.1, r.2, ()), (()))⟩
theorem impl_OrderOfClass.valid : Valid Try.prog 41 impl_OrderOfClass.con := fn_valid (f := impl_OrderOfClass.fn) (E := impl_OrderOfClass.E) (enc := impl_OrderOfClass.enc) ⟨ttOk, (conCons impl_cocycleCode.valid (conCons impl_boundings.valid (conCons impl_span_least.valid (conCons impl_isZero.valid (conCons impl_added.valid conNil)))))⟩ (Checked.mixed Try.checked) ⟨Try.func41, by kernel_rfl, by kernel_rfl, by kernel_rfl, by kernel_rfl, by decide, by kernel_rfl, by kernel_rfl⟩ (fun _ => rfl)
end Go.Proofs.Ytpppnoliogdkiaa.P
set_option linter.unusedVariables false
namespace Go.Proofs.Ytpppnoliogdkiaa.P
open Go Go.RowKit Go.Proofs.Ytpppnoliogdkiaa.D
noncomputable def laws_FnExactOrderOfClass.E : Env := { tt := TT, con := [(15, laws_szGroup.con), (16, laws_szModule.con), (28, laws_szCochain.con), (18, laws_toGroup.con), (19, laws_toModule.con), (30, laws_toCochain.con), (40, spec_OrderOfClass.con), (41, impl_OrderOfClass.con), (22, laws_eqGroup.con), (23, laws_eqModule.con), (32, laws_eqCochain.con)], frz := [], rows := [], live := [], n := 76, pin := 0, nils := [] }
noncomputable def laws_FnExactOrderOfClass.fn : D.Fn := { body := Try.f8.body.getD .skip, res := Try.f8.results.toList, ins := [.agg [.v (.sl 25 (.sl 2 (.int .i64)))], .agg [.v (.int .i64), .v (.sl 2 (.int .i64))], .agg [.v (.int .i64), .v (.sl 2 (.int .i64))]], outs := [.one (.v .bool)] }
def laws_FnExactOrderOfClass.enc (y : lsd (flats laws_FnExactOrderOfClass.fn.outs) × lsd (ios laws_FnExactOrderOfClass.fn.ins)) : Bool := y.1.1
noncomputable def laws_FnExactOrderOfClass.f (l0_0 : List (List Int)) (a1_0 : Int) (l1_1 : List Int) (a2_0 : Int) (l2_1 : List Int) : Option Bool := denF laws_FnExactOrderOfClass.E laws_FnExactOrderOfClass.fn laws_FnExactOrderOfClass.enc (l0_0, a1_0, l1_1, a2_0, l2_1, ())
set_option maxRecDepth 100000 in
theorem laws_FnExactOrderOfClass.f_eq (l0_0 : List (List Int)) (a1_0 : Int) (l1_1 : List Int) (a2_0 : Int) (l2_1 : List Int) : laws_FnExactOrderOfClass.f l0_0 a1_0 l1_1 a2_0 l2_1 = (laws_szGroup.f l0_0 1048576).bind fun t17 => if t17 < 0 then (some true) else ((laws_szModule.f a1_0 l1_1 t17).bind fun t22 => if t22 < 0 then (some true) else ((laws_szCochain.f a2_0 l2_1 t22).bind fun t27 => if t27 < 0 then (some true) else ((laws_toGroup.f l0_0).bind fun t32 => (laws_toModule.f a1_0 l1_1).bind fun t34 => (laws_toCochain.f a2_0 l2_1).bind fun t36 => (spec_OrderOfClass.f t32 t34.1 t34.2 t36.1 t36.2).bind fun t37 => (laws_toGroup.f l0_0).bind fun t41 => (laws_toModule.f a1_0 l1_1).bind fun t43 => (laws_toCochain.f a2_0 l2_1).bind fun t45 => (impl_OrderOfClass.f t41 t43.1 t43.2 t45.1 t45.2).bind fun t50 => if t50.1 = t37.1 then (if t50.2 = t37.2 then ((laws_toGroup.f l0_0).bind fun t63 => (laws_eqGroup.f t41 t63).bind fun t64 => if t64 = true then ((laws_toModule.f a1_0 l1_1).bind fun t68 => (laws_eqModule.f t43.1 t43.2 t68.1 t68.2).bind fun t69 => if t69 = true then ((laws_toCochain.f a2_0 l2_1).bind fun t73 => (laws_eqCochain.f t45.1 t45.2 t73.1 t73.2).bind fun t74 => if t74 = true then (some true) else (some false)) else (some false)) else (some false)) else (some false)) else (some false)))) := by kernel_rfl
noncomputable def laws_FnExactOrderOfClass.con : Con := ⟨laws_FnExactOrderOfClass.fn.ins, laws_FnExactOrderOfClass.fn.outs, Bool, fun x => laws_FnExactOrderOfClass.f x.1 x.2.1 x.2.2.1 x.2.2.2.1 x.2.2.2.2.1, fun r => ((r, ()), (()))⟩
theorem laws_FnExactOrderOfClass.valid : Valid Try.prog 8 laws_FnExactOrderOfClass.con := fn_valid (f := laws_FnExactOrderOfClass.fn) (E := laws_FnExactOrderOfClass.E) (enc := laws_FnExactOrderOfClass.enc) ⟨ttOk, (conCons laws_szGroup.valid (conCons laws_szModule.valid (conCons laws_szCochain.valid (conCons laws_toGroup.valid (conCons laws_toModule.valid (conCons laws_toCochain.valid (conCons spec_OrderOfClass.valid (conCons impl_OrderOfClass.valid (conCons laws_eqGroup.valid (conCons laws_eqModule.valid (conCons laws_eqCochain.valid conNil)))))))))))⟩ (Checked.mixed Try.checked) ⟨Try.func8, by kernel_rfl, by kernel_rfl, by kernel_rfl, by kernel_rfl, by decide, by kernel_rfl, by kernel_rfl⟩ (fun _ => rfl)
end Go.Proofs.Ytpppnoliogdkiaa.P
set_option linter.unusedVariables false
namespace Go.Proofs.Ytpppnoliogdkiaa.P
open Go Go.RowKit Go.Proofs.Ytpppnoliogdkiaa.D
noncomputable def laws_markInt64S.E : Env := { tt := TT, con := [], frz := [], rows := [], live := [(2, [0, 1, 5])], n := 19, pin := 1, nils := [] }
noncomputable def laws_markInt64S.fn : D.Fn := { body := Try.f26.body.getD .skip, res := Try.f26.results.toList, ins := [.one (.own 2 true (.int .i64)), .one (.v (.int .i64))], outs := [.one (.v (.int .i64))] }
def laws_markInt64S.enc (y : lsd (flats laws_markInt64S.fn.outs) × lsd (ios laws_markInt64S.fn.ins)) : Int × (List Int) := (y.1.1, y.2.1)
noncomputable def laws_markInt64S.f (l0 : List Int) (a1 : Int) : Option (Int × (List Int)) := denF laws_markInt64S.E laws_markInt64S.fn laws_markInt64S.enc (l0, a1, ())
noncomputable def laws_markInt64S.l0 (x1 : Int) (x5 : Int) (r0 : List Int) : Option (Int × (List Int)) := denAt laws_markInt64S.E laws_markInt64S.fn laws_markInt64S.enc [1, 0, 1, 0] { fr := [(0, .lf (.own 0)), (1, .lf (.int .i64 x1)), (5, .lf (.int .i64 x5))], ob := [(0, .row 2 true (.int .i64) r0)], nx := 1 }
set_option maxRecDepth 100000 in
theorem laws_markInt64S.f_eq (l0 : List Int) (a1 : Int) : laws_markInt64S.f l0 a1 = laws_markInt64S.l0 a1 0 l0 := by kernel_rfl
set_option maxRecDepth 100000 in
theorem laws_markInt64S.l0_eq (x1 : Int) (x5 : Int) (r0 : List Int) : laws_markInt64S.l0 x1 x5 r0 = if x5 < (r0.length : Int) then (if 0 ≤ x5 then (if x5 < (r0.length : Int) then (if 0 ≤ x5 then (if x5 < (r0.length : Int) then (laws_markInt64S.l0 (wrapI (x1 + 1)) (wrapI (x5 + 1)) (r0.set (x5 : Int).toNat x1)) else none) else none) else none) else none) else (some (x1, r0)) := (loop_unfold _ _ _ _).trans (by kernel_rfl)
noncomputable def laws_markInt64S.con : Con := ⟨laws_markInt64S.fn.ins, laws_markInt64S.fn.outs, Int × (List Int), fun x => laws_markInt64S.f x.1 x.2.1, fun r => ((r.1, ()), (r.2, ()))⟩
end Go.Proofs.Ytpppnoliogdkiaa.P
set_option linter.unusedVariables false
namespace Go.Proofs.Ytpppnoliogdkiaa.P
open Go Go.RowKit Go.Proofs.Ytpppnoliogdkiaa.D
noncomputable def laws_markInt64SS.E : Env := { tt := TT, con := [(26, laws_markInt64S.con)], frz := [], rows := [], live := [(2, [0, 1, 5])], n := 19, pin := 1, nils := [] }
noncomputable def laws_markInt64SS.fn : D.Fn := { body := Try.f64.body.getD .skip, res := Try.f64.results.toList, ins := [.one (.own 25 true (.sl 2 (.int .i64))), .one (.v (.int .i64))], outs := [.one (.v (.int .i64))] }
def laws_markInt64SS.enc (y : lsd (flats laws_markInt64SS.fn.outs) × lsd (ios laws_markInt64SS.fn.ins)) : Int × (List (List Int)) := (y.1.1, y.2.1)
noncomputable def laws_markInt64SS.f (l0 : List (List Int)) (a1 : Int) : Option (Int × (List (List Int))) := denF laws_markInt64SS.E laws_markInt64SS.fn laws_markInt64SS.enc (l0, a1, ())
noncomputable def laws_markInt64SS.l0 (x1 : Int) (x5 : Int) (r0 : List (List Int)) : Option (Int × (List (List Int))) := denAt laws_markInt64SS.E laws_markInt64SS.fn laws_markInt64SS.enc [1, 0, 1, 0] { fr := [(0, .lf (.own 0)), (1, .lf (.int .i64 x1)), (5, .lf (.int .i64 x5))], ob := [(0, .row 25 true (.sl 2 (.int .i64)) r0)], nx := 1 }
set_option maxRecDepth 100000 in
theorem laws_markInt64SS.f_eq (l0 : List (List Int)) (a1 : Int) : laws_markInt64SS.f l0 a1 = laws_markInt64SS.l0 a1 0 l0 := by kernel_rfl
set_option maxRecDepth 100000 in
theorem laws_markInt64SS.l0_eq (x1 : Int) (x5 : Int) (r0 : List (List Int)) : laws_markInt64SS.l0 x1 x5 r0 = if x5 < (r0.length : Int) then (if 0 ≤ x5 then (if x5 < (r0.length : Int) then (if 0 ≤ x5 then (if x5 < (r0.length : Int) then ((laws_markInt64S.f (row r0 x5) x1).bind fun t17 => laws_markInt64SS.l0 t17.1 (wrapI (x5 + 1)) (r0.set (x5 : Int).toNat t17.2)) else none) else none) else none) else none) else (some (x1, r0)) := (loop_unfold _ _ _ _).trans (by kernel_rfl)
noncomputable def laws_markInt64SS.con : Con := ⟨laws_markInt64SS.fn.ins, laws_markInt64SS.fn.outs, Int × (List (List Int)), fun x => laws_markInt64SS.f x.1 x.2.1, fun r => ((r.1, ()), (r.2, ()))⟩
end Go.Proofs.Ytpppnoliogdkiaa.P
set_option linter.unusedVariables false
namespace Go.Proofs.Ytpppnoliogdkiaa.P
open Go Go.RowKit Go.Proofs.Ytpppnoliogdkiaa.D
noncomputable def laws_markGroup.E : Env := { tt := TT, con := [(64, laws_markInt64SS.con)], frz := [], rows := [], live := [], n := 10, pin := 1, nils := [] }
noncomputable def laws_markGroup.fn : D.Fn := { body := Try.f24.body.getD .skip, res := Try.f24.results.toList, ins := [.agg [.own 25 true (.sl 2 (.int .i64))], .one (.v (.int .i64))], outs := [.one (.v (.int .i64))] }
def laws_markGroup.enc (y : lsd (flats laws_markGroup.fn.outs) × lsd (ios laws_markGroup.fn.ins)) : Int × (List (List Int)) := (y.1.1, y.2.1)
noncomputable def laws_markGroup.f (l0_0 : List (List Int)) (a1 : Int) : Option (Int × (List (List Int))) := denF laws_markGroup.E laws_markGroup.fn laws_markGroup.enc (l0_0, a1, ())
set_option maxRecDepth 100000 in
theorem laws_markGroup.f_eq (l0_0 : List (List Int)) (a1 : Int) : laws_markGroup.f l0_0 a1 = (laws_markInt64SS.f l0_0 a1).bind fun t8 => some (t8.1, t8.2) := by kernel_rfl
end Go.Proofs.Ytpppnoliogdkiaa.P
set_option linter.unusedVariables false
namespace Go.Proofs.Ytpppnoliogdkiaa.P
open Go Go.RowKit Go.Proofs.Ytpppnoliogdkiaa.D
noncomputable def laws_markModule.E : Env := { tt := TT, con := [(26, laws_markInt64S.con)], frz := [], rows := [], live := [], n := 10, pin := 1, nils := [] }
noncomputable def laws_markModule.fn : D.Fn := { body := Try.f25.body.getD .skip, res := Try.f25.results.toList, ins := [.agg [.v (.int .i64), .own 2 true (.int .i64)], .one (.v (.int .i64))], outs := [.one (.v (.int .i64))] }
def laws_markModule.enc (y : lsd (flats laws_markModule.fn.outs) × lsd (ios laws_markModule.fn.ins)) : Int × (List Int) := (y.1.1, y.2.1)
noncomputable def laws_markModule.f (a0_0 : Int) (l0_1 : List Int) (a1 : Int) : Option (Int × (List Int)) := denF laws_markModule.E laws_markModule.fn laws_markModule.enc (a0_0, l0_1, a1, ())
set_option maxRecDepth 100000 in
theorem laws_markModule.f_eq (a0_0 : Int) (l0_1 : List Int) (a1 : Int) : laws_markModule.f a0_0 l0_1 a1 = (laws_markInt64S.f l0_1 a1).bind fun t8 => some (t8.1, t8.2) := by kernel_rfl
end Go.Proofs.Ytpppnoliogdkiaa.P
set_option linter.unusedVariables false
namespace Go.Proofs.Ytpppnoliogdkiaa.P
open Go Go.RowKit Go.Proofs.Ytpppnoliogdkiaa.D
end Go.Proofs.Ytpppnoliogdkiaa.P
set_option linter.unusedVariables false
namespace Go.Proofs.Ytpppnoliogdkiaa.P
open Go Go.RowKit Go.Proofs.Ytpppnoliogdkiaa.D
end Go.Proofs.Ytpppnoliogdkiaa.P
set_option linter.unusedVariables false
namespace Go.Proofs.Ytpppnoliogdkiaa.V
open Go Go.RowKit Go.Proofs.Ytpppnoliogdkiaa.D
theorem w64 {x : Int} (h0 : -9223372036854775808 ≤ x) (h1 : x ≤ 9223372036854775807) : wrapI x = x := by unfold wrapI; rw [hid_eq]; unfold wrap64; omega
theorem wn {j : Nat} (h : j < 4611686018427387904) : wrapI ((j : Int) + 1) = ((j + 1 : Nat) : Int) := by rw [w64 (by omega) (by omega)]; omega
theorem go_pos {α : Type} {p : Prop} {inst : Decidable p} {a b r : α} (h : p) (k : a = r) : (if p then a else b) = r := by rw [if_pos h]; exact k
theorem go_neg {α : Type} {p : Prop} {inst : Decidable p} {a b r : α} (h : ¬ p) (k : b = r) : (if p then a else b) = r := by rw [if_neg h]; exact k
theorem go_bind {α β : Type} {c : Option α} {f : α → Option β} {a : α} {r : Option β} (h : c = some a) (k : f a = r) : c.bind f = r := by rw [h]; exact k
theorem maxLen_le : maxLen ≤ 9223372036854775807 := by unfold maxLen; omega
noncomputable def ite_ {α : Type} (p : Prop) (a b : α) : α := @ite α p (Classical.propDecidable p) a b
theorem ite_pos {α : Type} {p : Prop} (h : p) (a b : α) : ite_ p a b = a := by unfold ite_; simp [h]
theorem ite_neg {α : Type} {p : Prop} (h : ¬ p) (a b : α) : ite_ p a b = b := by unfold ite_; simp [h]
noncomputable def B (p : Prop) : Bool := @decide p (Classical.propDecidable p)
theorem B_pos {p : Prop} (h : p) : B p = true := by unfold B; simp [h]
theorem B_neg {p : Prop} (h : ¬ p) : B p = false := by unfold B; simp [h]
theorem B_not {p : Prop} (h : ¬ p) : ¬ (B p = true) := by rw [B_neg h]; decide
theorem B_congr {p q : Prop} (h : p ↔ q) : B p = B q := by rw [show p = q from propext h]
theorem B_decide (p : Prop) {inst : Decidable p} : decide p = B p := by by_cases h : p <;> simp [h, B]
theorem B_true : B True = true := B_pos trivial
theorem scan {R : Type} (n : Nat) (L : Int → R) (P : Int → Prop) (bad : R)
    (hs : ∀ i : Int, 0 ≤ i → i < n → (∀ j : Int, 0 ≤ j → j < i → P j) → (P i → L i = L (i + 1)) ∧ (¬ P i → L i = bad)) :
    ((∀ j : Int, 0 ≤ j → j < n → P j) ∧ L 0 = L n) ∨ (∃ m : Int, 0 ≤ m ∧ m < n ∧ (∀ j : Int, 0 ≤ j → j < m → P j) ∧ ¬ P m ∧ L 0 = L m ∧ L 0 = bad) := by
  suffices H : ∀ d m : Nat, m + d = n → (∀ j : Int, 0 ≤ j → j < m → P j) →
      ((∀ j : Int, 0 ≤ j → j < n → P j) ∧ L m = L n) ∨ (∃ i : Int, 0 ≤ i ∧ i < n ∧ (∀ j : Int, 0 ≤ j → j < i → P j) ∧ ¬ P i ∧ L m = L i ∧ L m = bad) by
    simpa using H n 0 (by omega) (fun j h0 h1 => by omega)
  intro d
  induction d with
  | zero =>
    intro m hm hp
    have : (m : Int) = n := by omega
    rw [this] at hp ⊢
    exact .inl ⟨hp, rfl⟩
  | succ d ih =>
    intro m hm hp
    obtain ⟨h1, h2⟩ := hs m (by omega) (by omega) hp
    by_cases h : P m
    · have hp' : ∀ j : Int, 0 ≤ j → j < ((m + 1 : Nat) : Int) → P j := fun j h0 hj => by
        by_cases e : j = m
        · rw [e]; exact h
        · exact hp j h0 (by omega)
      have := ih (m + 1) (by omega) hp'
      rwa [Int.natCast_add, Int.natCast_one, ← h1 h] at this
    · exact .inr ⟨m, by omega, by omega, hp, h, rfl, h2 h⟩
theorem scanB (n : Nat) (L : Int → Option Bool) (P : Int → Prop) (Q : Prop)
    (hs : ∀ i : Int, 0 ≤ i → i < n → (∀ j : Int, 0 ≤ j → j < i → P j) → (P i → L i = L (i + 1)) ∧ (¬ P i → L i = some false))
    (he : (∀ j : Int, 0 ≤ j → j < n → P j) → L n = some (B Q)) : L 0 = some (B ((∀ j : Int, 0 ≤ j → j < n → P j) ∧ Q)) := by
  rcases scan n L P (some false) hs with ⟨h1, h2⟩ | ⟨j, h0, h1, _, h2, _, h3⟩
  · rw [B_congr (show ((∀ j : Int, 0 ≤ j → j < n → P j) ∧ Q) ↔ Q from ⟨fun h => h.2, fun h => ⟨h1, h⟩⟩), h2]
    exact he h1
  · rw [B_neg fun h => h2 (h.1 j h0 h1)]
    exact h3
theorem scanT (n : Nat) (L : Int → Option Bool) (P : Int → Prop)
    (hs : ∀ i : Int, 0 ≤ i → i < n → (∀ j : Int, 0 ≤ j → j < i → P j) → (P i → L i = L (i + 1)) ∧ (¬ P i → L i = some false))
    (he : (∀ j : Int, 0 ≤ j → j < n → P j) → L n = some true) : L 0 = some (B (∀ j : Int, 0 ≤ j → j < n → P j)) := by
  have := scanB n L P True hs (fun h => by rw [B_true]; exact he h)
  rwa [B_congr (show ((∀ j : Int, 0 ≤ j → j < n → P j) ∧ True) ↔ _ from ⟨fun h => h.1, fun h => ⟨h, trivial⟩⟩)] at this
theorem scanI {R : Type} (n : Nat) (L : Int → R) (P : Int → Prop) (bad go : R)
    (hs : ∀ i : Int, 0 ≤ i → i < n → (∀ j : Int, 0 ≤ j → j < i → P j) → (P i → L i = L (i + 1)) ∧ (¬ P i → L i = bad)) (he : (∀ j : Int, 0 ≤ j → j < n → P j) → L n = go) :
    ((∀ j : Int, 0 ≤ j → j < n → P j) → L 0 = go) ∧ (¬ (∀ j : Int, 0 ≤ j → j < n → P j) → L 0 = bad) := by
  rcases scan n L P bad hs with ⟨h1, h2⟩ | ⟨j, h0, h1, _, h2, _, h3⟩
  · exact ⟨fun _ => h2.trans (he h1), fun h => absurd h1 h⟩
  · exact ⟨fun h => absurd (h j h0 h1) h2, fun _ => h3⟩
theorem up {R : Type} (n : Nat) (L : Nat → R) (h : ∀ i, i < n → L i = L (i + 1)) : L 0 = L n := by
  suffices H : ∀ m, m ≤ n → L 0 = L m from H n (Nat.le_refl _)
  intro m
  induction m with
  | zero => exact fun _ => rfl
  | succ m ih => exact fun hm => (ih (by omega)).trans (h m (by omega))
theorem rd_get {xs : List Int} {j : Nat} (h : j < xs.length) : rd xs (j : Int) = xs[j] := by simp [rd, List.getD_eq_getElem?_getD, List.getElem?_eq_getElem h]
theorem rd_at {xs : List Int} {i : Int} (h0 : 0 ≤ i) (h1 : i < xs.length) : xs[i.toNat]? = some (rd xs i) := by
  have h : i.toNat < xs.length := by omega
  simp [rd, List.getD_eq_getElem?_getD, List.getElem?_eq_getElem h]
theorem rd_mem {xs : List Int} {i : Int} (h0 : 0 ≤ i) (h1 : i < xs.length) : rd xs i ∈ xs := List.mem_of_getElem? (rd_at h0 h1)
theorem ext_rd {xs ys : List Int} (hl : xs.length = ys.length) (h : ∀ i : Int, 0 ≤ i → i < xs.length → rd xs i = rd ys i) : xs = ys := by
  apply List.ext_getElem hl
  intro i h1 h2
  have := h i (by omega) (by omega)
  simpa [rd, List.getD_eq_getElem?_getD, List.getElem?_eq_getElem h1, List.getElem?_eq_getElem h2] using this
theorem row_get {g : List (List Int)} {j : Nat} (h : j < g.length) : row g (j : Int) = g[j] := by simp [row, List.getD_eq_getElem?_getD, List.getElem?_eq_getElem h]
theorem row_mem {g : List (List Int)} {a : Int} (h0 : 0 ≤ a) (h1 : a < g.length) : row g a ∈ g := by
  have h : a.toNat < g.length := by omega
  unfold row
  rw [List.getD_eq_getElem?_getD, List.getElem?_eq_getElem h]
  exact List.getElem_mem h
theorem mem_row {g : List (List Int)} {r : List Int} (h : r ∈ g) : ∃ i : Int, 0 ≤ i ∧ i < g.length ∧ row g i = r := by
  obtain ⟨i, hi, rfl⟩ := List.mem_iff_getElem.1 h
  exact ⟨i, by omega, by omega, row_get hi⟩
theorem ext_row {xs ys : List (List Int)} (hl : xs.length = ys.length) (h : ∀ i : Int, 0 ≤ i → i < xs.length → row xs i = row ys i) : xs = ys := by
  apply List.ext_getElem hl
  intro i h1 h2
  have := h i (by omega) (by omega)
  rwa [row_get h1, row_get h2] at this
def AllIn (n : Int) (xs : List Int) : Prop := ∀ i : Int, 0 ≤ i → i < xs.length → 0 ≤ rd xs i ∧ rd xs i < n
theorem allIn_one {n x : Int} (h0 : 0 ≤ x) (h1 : x < n) : AllIn n [x] := by
  intro i i0 i1
  have : i = 0 := by simp at i1; omega
  subst this; simp [rd, *]
theorem allIn_two {n x y : Int} (h0 : 0 ≤ x) (h1 : x < n) (h2 : 0 ≤ y) (h3 : y < n) : AllIn n [x, y] := by
  intro i i0 i1
  have : i = 0 ∨ i = 1 := by simp at i1; omega
  rcases this with rfl | rfl <;> simp [rd, *]
theorem AllIn.mem {n : Int} {xs : List Int} (h : AllIn n xs) {x : Int} (hx : x ∈ xs) : 0 ≤ x ∧ x < n := by
  obtain ⟨i, hi, rfl⟩ := List.mem_iff_getElem.1 hx
  have := h i (by omega) (by omega)
  rwa [rd_get hi] at this
theorem allIn_of {n : Int} {xs : List Int} (h : ∀ x ∈ xs, 0 ≤ x ∧ x < n) : AllIn n xs := fun i i0 i1 => h _ (rd_mem i0 i1)
theorem AllIn.drop {n : Int} {xs : List Int} (h : AllIn n xs) (j : Nat) : AllIn n (xs.drop j) := allIn_of fun x hx => h.mem (List.mem_of_mem_drop hx)
theorem AllIn.take {n : Int} {xs : List Int} (h : AllIn n xs) (j : Nat) : AllIn n (xs.take j) := allIn_of fun x hx => h.mem (List.mem_of_mem_take hx)
theorem AllIn.append {n : Int} {xs ys : List Int} (h : AllIn n xs) (k : AllIn n ys) : AllIn n (xs ++ ys) := allIn_of fun x hx => by
  rcases List.mem_append.1 hx with h' | h'
  · exact h.mem h'
  · exact k.mem h'
theorem tmod_nn {a m : Int} (h : 0 ≤ a) : Int.tmod a m = a % m := Int.tmod_eq_emod_of_nonneg h
theorem tdiv_nn {a m : Int} (h : 0 ≤ a) : Int.tdiv a m = a / m := Int.tdiv_eq_ediv_of_nonneg h
end Go.Proofs.Ytpppnoliogdkiaa.V
set_option linter.unusedVariables false
set_option linter.unusedSimpArgs false
set_option maxHeartbeats 2000000
set_option maxRecDepth 20000
namespace Go.Proofs.Ytpppnoliogdkiaa.V
open Go.RowKit Go.Proofs.Ytpppnoliogdkiaa.D Go.Proofs.Ytpppnoliogdkiaa.P
theorem copy_step {α : Type} (xs : List α) (d : α) (m : Nat) (hm : m < xs.length) :
    (xs.take m ++ List.replicate (xs.length - m) d).set m xs[m] = xs.take (m + 1) ++ List.replicate (xs.length - (m + 1)) d := by
  have h1 : (xs.take m).length = m := by rw [List.length_take]; omega
  rw [List.set_append, if_neg (by omega), h1, Nat.sub_self]
  rw [show xs.length - m = (xs.length - (m + 1)) + 1 by omega, List.replicate_succ, List.set_cons_zero]
  rw [List.take_succ_eq_append_getElem hm, List.append_assoc]; rfl
theorem copy_len {α : Type} (xs : List α) (d : α) (m : Nat) (hm : m ≤ xs.length) : (xs.take m ++ List.replicate (xs.length - m) d).length = xs.length := by
  rw [List.length_append, List.length_take, List.length_replicate]; omega
theorem toInt64S (xs : List Int) (hl : xs.length ≤ 1048576) : laws_toInt64S.f xs = some xs := by
  rw [laws_toInt64S.f_eq, Int.toNat_natCast]
  (with_reducible repeat (first | refine go_pos (by first | assumption | omega | rfl | exact B_pos (by omega)) ?_ | refine go_neg (by first | assumption | omega | decide | exact B_not (by omega)) ?_ | refine go_bind (by first | assumption) ?_ | dsimp only))
  have := up xs.length (fun m => laws_toInt64S.l0 xs (m : Int) (xs.take m ++ List.replicate (xs.length - m) 0)) (fun m hm => by
    have hw : wrapI ((m : Int) + 1) = ((m + 1 : Nat) : Int) := by rw [w64 (by omega) (by omega)]; omega
    have l1 := copy_len xs (0 : Int) m (by omega)
    rw [← copy_step xs 0 m hm, laws_toInt64S.l0_eq, hw, Int.toNat_natCast, rd_get hm]
    ((with_reducible repeat (first | refine go_pos (by first | assumption | omega | rfl | exact B_pos (by omega)) ?_ | refine go_neg (by first | assumption | omega | decide | exact B_not (by omega)) ?_ | refine go_bind (by first | assumption) ?_ | dsimp only)); first | done | (with_reducible rfl) | simp (disch := omega) only [w64] | (show False; done)))
  simp only [List.take_zero, List.nil_append, Nat.sub_zero, List.take_length, Nat.sub_self, List.replicate_zero, List.append_nil, Int.natCast_zero] at this
  rw [this, laws_toInt64S.l0_eq]
  ((with_reducible repeat (first | refine go_pos (by first | assumption | omega | rfl | exact B_pos (by omega)) ?_ | refine go_neg (by first | assumption | omega | decide | exact B_not (by omega)) ?_ | refine go_bind (by first | assumption) ?_ | dsimp only)); first | done | (with_reducible rfl) | simp (disch := omega) only [w64] | (show False; done))
theorem toInt64SS (g : List (List Int)) (hl : g.length ≤ 1048576) (hr : ∀ r ∈ g, r.length ≤ 1048576) : laws_toInt64SS.f g = some g := by
  rw [laws_toInt64SS.f_eq, Int.toNat_natCast]
  (with_reducible repeat (first | refine go_pos (by first | assumption | omega | rfl | exact B_pos (by omega)) ?_ | refine go_neg (by first | assumption | omega | decide | exact B_not (by omega)) ?_ | refine go_bind (by first | assumption) ?_ | dsimp only))
  have := up g.length (fun m => laws_toInt64SS.l0 g (m : Int) (g.take m ++ List.replicate (g.length - m) [])) (fun m hm => by
    have hw : wrapI ((m : Int) + 1) = ((m + 1 : Nat) : Int) := by rw [w64 (by omega) (by omega)]; omega
    have l1 := copy_len g ([] : List Int) m (by omega)
    have ht := toInt64S g[m] (hr _ (List.getElem_mem hm))
    rw [← copy_step g [] m hm, laws_toInt64SS.l0_eq, hw, Int.toNat_natCast, row_get hm]
    ((with_reducible repeat (first | refine go_pos (by first | assumption | omega | rfl | exact B_pos (by omega)) ?_ | refine go_neg (by first | assumption | omega | decide | exact B_not (by omega)) ?_ | refine go_bind (by first | assumption) ?_ | dsimp only)); first | done | (with_reducible rfl) | simp (disch := omega) only [w64] | (show False; done)))
  simp only [List.take_zero, List.nil_append, Nat.sub_zero, List.take_length, Nat.sub_self, List.replicate_zero, List.append_nil, Int.natCast_zero] at this
  rw [this, laws_toInt64SS.l0_eq]
  ((with_reducible repeat (first | refine go_pos (by first | assumption | omega | rfl | exact B_pos (by omega)) ?_ | refine go_neg (by first | assumption | omega | decide | exact B_not (by omega)) ?_ | refine go_bind (by first | assumption) ?_ | dsimp only)); first | done | (with_reducible rfl) | simp (disch := omega) only [w64] | (show False; done))
theorem toGroup (g : List (List Int)) (hl : g.length ≤ 1048576) (hr : ∀ r ∈ g, r.length ≤ 1048576) : laws_toGroup.f g = some g := by
  rw [laws_toGroup.f_eq]; ((with_reducible repeat (first | refine go_pos (by first | assumption | omega | rfl | exact B_pos (by omega)) ?_ | refine go_neg (by first | assumption | omega | decide | exact B_not (by omega)) ?_ | refine go_bind (by first | assumption | exact toInt64SS _ hl hr) ?_ | dsimp only)); first | done | (with_reducible rfl) | simp (disch := omega) only [w64] | (show False; done))
theorem toModule (m : Int) (u : List Int) (hl : u.length ≤ 1048576) : laws_toModule.f m u = some (m, u) := by
  rw [laws_toModule.f_eq]; ((with_reducible repeat (first | refine go_pos (by first | assumption | omega | rfl | exact B_pos (by omega)) ?_ | refine go_neg (by first | assumption | omega | decide | exact B_not (by omega)) ?_ | refine go_bind (by first | assumption | exact toInt64S _ hl) ?_ | dsimp only)); first | done | (with_reducible rfl) | simp (disch := omega) only [w64] | (show False; done))
theorem eqInt64S (xs ys : List Int) (hl : xs.length ≤ maxLen) : laws_eqInt64S.f xs ys = some (B (xs = ys)) := by
  have hm := maxLen_le
  rw [laws_eqInt64S.f_eq]
  by_cases h : (xs.length : Int) = ys.length
  rotate_left
  · rw [B_neg fun e => h (by rw [e])]
    ((with_reducible repeat (first | refine go_pos (by first | assumption | omega | rfl | exact B_pos (by omega)) ?_ | refine go_neg (by first | assumption | omega | decide | exact B_not (by omega)) ?_ | refine go_bind (by first | assumption) ?_ | dsimp only)); first | done | (with_reducible rfl) | simp (disch := omega) only [w64] | (show False; done))
  (with_reducible repeat (first | refine go_pos (by first | assumption | omega | rfl | exact B_pos (by omega)) ?_ | refine go_neg (by first | assumption | omega | decide | exact B_not (by omega)) ?_ | refine go_bind (by first | assumption) ?_ | dsimp only))
  rw [B_congr (show xs = ys ↔ ∀ i : Int, 0 ≤ i → i < xs.length → rd xs i = rd ys i from ⟨fun e i _ _ => by rw [e], fun e => ext_rd (by omega) e⟩)]
  refine scanT xs.length (fun i => laws_eqInt64S.l0 xs ys i) (fun i => rd xs i = rd ys i) (fun i i0 i1 _ => ?_) (fun _ => by (rw [laws_eqInt64S.l0_eq]); ((with_reducible repeat (first | refine go_pos (by first | assumption | omega | rfl | exact B_pos (by omega)) ?_ | refine go_neg (by first | assumption | omega | decide | exact B_not (by omega)) ?_ | refine go_bind (by first | assumption) ?_ | dsimp only)); first | done | (with_reducible rfl) | simp (disch := omega) only [w64] | (show False; done)))
  refine ⟨fun h => ?_, fun h => ?_⟩ <;> (rw [laws_eqInt64S.l0_eq]) <;> ((with_reducible repeat (first | refine go_pos (by first | assumption | omega | rfl | exact B_pos (by omega)) ?_ | refine go_neg (by first | assumption | omega | decide | exact B_not (by omega)) ?_ | refine go_bind (by first | assumption) ?_ | dsimp only)); first | done | (with_reducible rfl) | simp (disch := omega) only [w64] | (show False; done))
theorem eqInt64SS (xs ys : List (List Int)) (hl : xs.length ≤ maxLen) (hr : ∀ r ∈ xs, r.length ≤ maxLen) : laws_eqInt64SS.f xs ys = some (B (xs = ys)) := by
  have hm := maxLen_le
  rw [laws_eqInt64SS.f_eq]
  by_cases h : (xs.length : Int) = ys.length
  rotate_left
  · rw [B_neg fun e => h (by rw [e])]
    ((with_reducible repeat (first | refine go_pos (by first | assumption | omega | rfl | exact B_pos (by omega)) ?_ | refine go_neg (by first | assumption | omega | decide | exact B_not (by omega)) ?_ | refine go_bind (by first | assumption) ?_ | dsimp only)); first | done | (with_reducible rfl) | simp (disch := omega) only [w64] | (show False; done))
  (with_reducible repeat (first | refine go_pos (by first | assumption | omega | rfl | exact B_pos (by omega)) ?_ | refine go_neg (by first | assumption | omega | decide | exact B_not (by omega)) ?_ | refine go_bind (by first | assumption) ?_ | dsimp only))
  rw [B_congr (show xs = ys ↔ ∀ i : Int, 0 ≤ i → i < xs.length → row xs i = row ys i from ⟨fun e i _ _ => by rw [e], fun e => ext_row (by omega) e⟩)]
  refine scanT xs.length (fun i => laws_eqInt64SS.l0 xs ys i) (fun i => row xs i = row ys i) (fun i i0 i1 _ => ?_) (fun _ => by (rw [laws_eqInt64SS.l0_eq]); ((with_reducible repeat (first | refine go_pos (by first | assumption | omega | rfl | exact B_pos (by omega)) ?_ | refine go_neg (by first | assumption | omega | decide | exact B_not (by omega)) ?_ | refine go_bind (by first | assumption) ?_ | dsimp only)); first | done | (with_reducible rfl) | simp (disch := omega) only [w64] | (show False; done)))
  have he := eqInt64S (row xs i) (row ys i) (hr _ (row_mem i0 i1))
  refine ⟨fun h => ?_, fun h => ?_⟩
  · rw [B_pos h] at he
    (rw [laws_eqInt64SS.l0_eq])
    ((with_reducible repeat (first | refine go_pos (by first | assumption | omega | rfl | exact B_pos (by omega)) ?_ | refine go_neg (by first | assumption | omega | decide | exact B_not (by omega)) ?_ | refine go_bind (by first | assumption) ?_ | dsimp only)); first | done | (with_reducible rfl) | simp (disch := omega) only [w64] | (show False; done))
  · rw [B_neg h] at he
    (rw [laws_eqInt64SS.l0_eq])
    ((with_reducible repeat (first | refine go_pos (by first | assumption | omega | rfl | exact B_pos (by omega)) ?_ | refine go_neg (by first | assumption | omega | decide | exact B_not (by omega)) ?_ | refine go_bind (by first | assumption) ?_ | dsimp only)); first | done | (with_reducible rfl) | simp (disch := omega) only [w64] | (show False; done))
theorem eqGroup (xs ys : List (List Int)) (hl : xs.length ≤ maxLen) (hr : ∀ r ∈ xs, r.length ≤ maxLen) : laws_eqGroup.f xs ys = some (B (xs = ys)) := by
  have he := eqInt64SS xs ys hl hr
  rw [laws_eqGroup.f_eq, he]
  by_cases h : xs = ys
  · rw [B_pos h]; rfl
  · rw [B_neg h]; rfl
theorem eqModule (m n : Int) (u v : List Int) (hl : u.length ≤ maxLen) : laws_eqModule.f m u n v = some (B (m = n ∧ u = v)) := by
  have he := eqInt64S u v hl
  rw [laws_eqModule.f_eq]
  by_cases h : m = n ∧ u = v
  · rw [B_pos h.2] at he; rw [B_pos h]; ((with_reducible repeat (first | refine go_pos (by first | assumption | omega | rfl | exact B_pos (by omega)) ?_ | refine go_neg (by first | assumption | omega | decide | exact B_not (by omega)) ?_ | refine go_bind (by first | assumption) ?_ | dsimp only)); first | done | (with_reducible rfl) | simp (disch := omega) only [w64] | (show False; done))
  · rw [B_neg h]
    by_cases h1 : m = n
    · rw [B_neg fun k => h ⟨h1, k⟩] at he; ((with_reducible repeat (first | refine go_pos (by first | assumption | omega | rfl | exact B_pos (by omega)) ?_ | refine go_neg (by first | assumption | omega | decide | exact B_not (by omega)) ?_ | refine go_bind (by first | assumption) ?_ | dsimp only)); first | done | (with_reducible rfl) | simp (disch := omega) only [w64] | (show False; done))
    · ((with_reducible repeat (first | refine go_pos (by first | assumption | omega | rfl | exact B_pos (by omega)) ?_ | refine go_neg (by first | assumption | omega | decide | exact B_not (by omega)) ?_ | refine go_bind (by first | assumption) ?_ | dsimp only)); first | done | (with_reducible rfl) | simp (disch := omega) only [w64] | (show False; done))
theorem same_Group (xs : List (List Int)) (hl : xs.length ≤ maxLen) (hr : ∀ r ∈ xs, r.length ≤ maxLen) : laws_eqGroup.f xs xs = some true := by rw [eqGroup xs xs hl hr, B_pos rfl]
theorem same_Module (m : Int) (u : List Int) (hl : u.length ≤ maxLen) : laws_eqModule.f m u m u = some true := by rw [eqModule m m u u hl, B_pos ⟨rfl, rfl⟩]
theorem szInt64S (xs : List Int) (left : Int) (hl : xs.length ≤ maxLen) (l0 : 0 ≤ left) (l1 : left ≤ 1048576) :
    ∃ t, laws_szInt64S.f xs left = some t ∧ (t < 0 ∨ (0 ≤ t ∧ t ≤ 1048576 ∧ xs.length ≤ 1048576)) := by
  have hm := maxLen_le
  rw [laws_szInt64S.f_eq, w64 (by omega) (by omega)]
  by_cases h : left - (xs.length : Int) < 0
  · exact ⟨_, if_pos h, .inl (by omega)⟩
  · exact ⟨_, if_neg h, .inr (by omega)⟩
theorem szInt64SS (g : List (List Int)) (left : Int) (hl : g.length ≤ maxLen) (hr : ∀ r ∈ g, r.length ≤ maxLen) (l0 : 0 ≤ left) (l1 : left ≤ 1048576) :
    ∃ t, laws_szInt64SS.f g left = some t ∧ (t < 0 ∨ (0 ≤ t ∧ t ≤ 1048576 ∧ g.length ≤ 1048576 ∧ ∀ r ∈ g, r.length ≤ 1048576)) := by
  have hm := maxLen_le
  rw [laws_szInt64SS.f_eq, w64 (by omega) (by omega)]
  by_cases h : left - (g.length : Int) < 0
  · exact ⟨_, if_pos h, .inl (by omega)⟩
  rw [if_neg h]
  have H : ∀ d m : Nat, m + d = g.length → ∀ s : Int, 0 ≤ s → s ≤ 1048576 → (∀ j, j < m → (row g j).length ≤ 1048576) → ∃ t, laws_szInt64SS.l0 g s (m : Int) = some t ∧ (t < 0 ∨ (0 ≤ t ∧ t ≤ 1048576 ∧ g.length ≤ 1048576 ∧ ∀ r ∈ g, r.length ≤ 1048576)) := by
    intro d
    induction d with
    | zero =>
      intro m hd s s0 s1 hs
      obtain rfl : m = g.length := by omega
      refine ⟨s, by (rw [laws_szInt64SS.l0_eq]); ((with_reducible repeat (first | refine go_pos (by first | assumption | omega | rfl | exact B_pos (by omega)) ?_ | refine go_neg (by first | assumption | omega | decide | exact B_not (by omega)) ?_ | refine go_bind (by first | assumption) ?_ | dsimp only)); first | done | (with_reducible rfl) | simp (disch := omega) only [w64] | (show False; done)), .inr ⟨s0, s1, by omega, fun r hr' => ?_⟩⟩
      obtain ⟨i, i0, i1, rfl⟩ := mem_row hr'
      have := hs i.toNat (by omega)
      rwa [show ((i.toNat : Nat) : Int) = i by omega] at this
    | succ d ih =>
      intro m hd s s0 s1 hs
      obtain ⟨t, ht, h⟩ := szInt64S (row g m) s (hr _ (row_mem (by omega) (by omega))) s0 s1
      have hw : wrapI ((m : Int) + 1) = ((m + 1 : Nat) : Int) := by rw [w64 (by omega) (by omega)]; omega
      rcases h with h | ⟨h0, h1, h2⟩
      · refine ⟨-1, ?_, .inl (by omega)⟩
        (rw [laws_szInt64SS.l0_eq])
        ((with_reducible repeat (first | refine go_pos (by first | assumption | omega | rfl | exact B_pos (by omega)) ?_ | refine go_neg (by first | assumption | omega | decide | exact B_not (by omega)) ?_ | refine go_bind (by first | assumption) ?_ | dsimp only)); first | done | (with_reducible rfl) | simp (disch := omega) only [w64] | (show False; done))
      · obtain ⟨t', ht', h'⟩ := ih (m + 1) (by omega) t h0 h1 (fun j hj => by
          by_cases e : j = m
          · rw [e]; exact h2
          · exact hs j (by omega))
        refine ⟨t', ?_, h'⟩
        (rw [laws_szInt64SS.l0_eq, hw])
        (with_reducible repeat (first | refine go_pos (by first | assumption | omega | rfl | exact B_pos (by omega)) ?_ | refine go_neg (by first | assumption | omega | decide | exact B_not (by omega)) ?_ | refine go_bind (by first | assumption) ?_ | dsimp only))
        exact ht'
  have := H g.length 0 (by omega) (left - g.length) (by omega) (by omega) (fun j hj => by omega)
  exact this
theorem szGroup (g : List (List Int)) (left : Int) (hl : g.length ≤ maxLen) (hr : ∀ r ∈ g, r.length ≤ maxLen) (l0 : 0 ≤ left) (l1 : left ≤ 1048576) :
    ∃ t, laws_szGroup.f g left = some t ∧ (t < 0 ∨ (0 ≤ t ∧ t ≤ 1048576 ∧ g.length ≤ 1048576 ∧ ∀ r ∈ g, r.length ≤ 1048576)) := by
  obtain ⟨t, ht, h⟩ := szInt64SS g left hl hr l0 l1
  rw [laws_szGroup.f_eq]
  rcases h with h | h
  · exact ⟨-1, by ((with_reducible repeat (first | refine go_pos (by first | assumption | omega | rfl | exact B_pos (by omega)) ?_ | refine go_neg (by first | assumption | omega | decide | exact B_not (by omega)) ?_ | refine go_bind (by first | assumption) ?_ | dsimp only)); first | done | (with_reducible rfl) | simp (disch := omega) only [w64] | (show False; done)), .inl (by omega)⟩
  · have := h.1
    exact ⟨t, by ((with_reducible repeat (first | refine go_pos (by first | assumption | omega | rfl | exact B_pos (by omega)) ?_ | refine go_neg (by first | assumption | omega | decide | exact B_not (by omega)) ?_ | refine go_bind (by first | assumption) ?_ | dsimp only)); first | done | (with_reducible rfl) | simp (disch := omega) only [w64] | (show False; done)), .inr h⟩
theorem szModule (m : Int) (u : List Int) (left : Int) (hl : u.length ≤ maxLen) (l0 : 0 ≤ left) (l1 : left ≤ 1048576) :
    ∃ t, laws_szModule.f m u left = some t ∧ (t < 0 ∨ (0 ≤ t ∧ t ≤ 1048576 ∧ u.length ≤ 1048576)) := by
  obtain ⟨t, ht, h⟩ := szInt64S u left hl l0 l1
  rw [laws_szModule.f_eq]
  rcases h with h | h
  · exact ⟨-1, by ((with_reducible repeat (first | refine go_pos (by first | assumption | omega | rfl | exact B_pos (by omega)) ?_ | refine go_neg (by first | assumption | omega | decide | exact B_not (by omega)) ?_ | refine go_bind (by first | assumption) ?_ | dsimp only)); first | done | (with_reducible rfl) | simp (disch := omega) only [w64] | (show False; done)), .inl (by omega)⟩
  · have := h.1
    exact ⟨t, by ((with_reducible repeat (first | refine go_pos (by first | assumption | omega | rfl | exact B_pos (by omega)) ?_ | refine go_neg (by first | assumption | omega | decide | exact B_not (by omega)) ?_ | refine go_bind (by first | assumption) ?_ | dsimp only)); first | done | (with_reducible rfl) | simp (disch := omega) only [w64] | (show False; done)), .inr h⟩
def MkS (a : Int) (n : Nat) : List Int := (List.range n).map fun (i : Nat) => a + (i : Int)
theorem MkS_length (a : Int) (n : Nat) : (MkS a n).length = n := by simp [MkS]
theorem MkS_step (a : Int) (xs : List Int) (m : Nat) (hm : m < xs.length) : (MkS a m ++ xs.drop m).set m (a + m) = MkS a (m + 1) ++ xs.drop (m + 1) := by
  rw [List.set_append, if_neg (by rw [MkS_length]; omega), MkS_length, Nat.sub_self, List.drop_eq_getElem_cons hm, List.set_cons_zero]
  simp [MkS, List.range_succ]
theorem markS (xs : List Int) (a : Int) (h0 : 0 ≤ a) (h1 : a + xs.length ≤ 4611686018427387904) : laws_markInt64S.f xs a = some (a + xs.length, MkS a xs.length) := by
  rw [laws_markInt64S.f_eq]
  have := up xs.length (fun m => laws_markInt64S.l0 (a + (m : Int)) (m : Int) (MkS a m ++ xs.drop m)) (fun m hm => by
    have hw : wrapI ((m : Int) + 1) = ((m + 1 : Nat) : Int) := by rw [w64 (by omega) (by omega)]; omega
    have hw2 : wrapI (a + (m : Int) + 1) = a + ((m + 1 : Nat) : Int) := by rw [w64 (by omega) (by omega)]; omega
    have l1 : (MkS a m ++ xs.drop m).length = xs.length := by rw [List.length_append, MkS_length, List.length_drop]; omega
    rw [← MkS_step a xs m hm, laws_markInt64S.l0_eq, hw, hw2, Int.toNat_natCast]
    ((with_reducible repeat (first | refine go_pos (by first | assumption | omega | rfl | exact B_pos (by omega)) ?_ | refine go_neg (by first | assumption | omega | decide | exact B_not (by omega)) ?_ | refine go_bind (by first | assumption) ?_ | dsimp only)); first | done | (with_reducible rfl) | simp (disch := omega) only [w64] | (show False; done)))
  simp only [Int.natCast_zero, Int.add_zero, List.drop_zero, List.drop_length, List.append_nil, show MkS a 0 = [] from rfl, List.nil_append] at this
  have hl := MkS_length a xs.length
  rw [this, laws_markInt64S.l0_eq]
  ((with_reducible repeat (first | refine go_pos (by first | assumption | omega | rfl | exact B_pos (by omega)) ?_ | refine go_neg (by first | assumption | omega | decide | exact B_not (by omega)) ?_ | refine go_bind (by first | assumption) ?_ | dsimp only)); first | done | (with_reducible rfl) | simp (disch := omega) only [w64] | (show False; done))
def tot : List (List Int) → Nat
  | [] => 0
  | r :: g => r.length + tot g
def MkSS (a : Int) : List (List Int) → List (List Int)
  | [] => []
  | r :: g => MkS a r.length :: MkSS (a + r.length) g
theorem tot_le (b : Nat) (g : List (List Int)) (h : ∀ r ∈ g, r.length ≤ b) : tot g ≤ g.length * b := by
  induction g with
  | nil => simp [tot]
  | cons r g ih =>
    have h1 := ih fun r hr => h r (List.mem_cons_of_mem _ hr)
    have h2 := h r (List.mem_cons_self ..)
    rw [List.length_cons, Nat.succ_mul, tot]
    omega
theorem tot_small {g : List (List Int)} (h1 : g.length ≤ 1048576) (h2 : ∀ r ∈ g, r.length ≤ 1048576) : tot g ≤ 1099511627776 :=
  Nat.le_trans (tot_le 1048576 g h2) (Nat.mul_le_mul_right 1048576 h1)
theorem markSS (g : List (List Int)) (a : Int) (h0 : 0 ≤ a) (h1 : a + tot g ≤ 4611686018427387904) (hl : g.length ≤ 4611686018427387904) : laws_markInt64SS.f g a = some (a + tot g, MkSS a g) := by
  rw [laws_markInt64SS.f_eq]
  suffices H : ∀ (g done : List (List Int)) (b : Int), 0 ≤ b → b + tot g ≤ 4611686018427387904 → done.length + g.length ≤ 4611686018427387904 → laws_markInt64SS.l0 b (done.length : Int) (done ++ g) = some (b + tot g, done ++ MkSS b g) from by
    simpa using H g [] a h0 h1 (by simpa using hl)
  intro g
  induction g with
  | nil =>
    intro done b b0 b1 hd
    rw [laws_markInt64SS.l0_eq, List.append_nil]
    have : b + ((tot [] : Nat) : Int) = b := by simp [tot]
    rw [this, MkSS, List.append_nil]
    ((with_reducible repeat (first | refine go_pos (by first | assumption | omega | rfl | exact B_pos (by omega)) ?_ | refine go_neg (by first | assumption | omega | decide | exact B_not (by omega)) ?_ | refine go_bind (by first | assumption) ?_ | dsimp only)); first | done | (with_reducible rfl) | simp (disch := omega) only [w64] | (show False; done))
  | cons r g ih =>
    intro done b b0 b1 hd
    simp only [tot, List.length_cons] at b1 hd
    have m1 : (done ++ r :: g).length = done.length + g.length + 1 := by rw [List.length_append, List.length_cons]; omega
    have hw : wrapI ((done.length : Int) + 1) = (((done ++ [MkS b r.length]).length : Nat) : Int) := by
      rw [w64 (by omega) (by omega), List.length_append, List.length_singleton]; omega
    have e : row (done ++ r :: g) (done.length : Int) = r := by simp [row, List.getD_eq_getElem?_getD]
    have e2 : (done ++ r :: g).set done.length (MkS b r.length) = (done ++ [MkS b r.length]) ++ g := by
      rw [List.set_append, if_neg (by omega), Nat.sub_self, List.set_cons_zero]; simp
    have hm := markS r b b0 (by omega)
    rw [laws_markInt64SS.l0_eq, hw, e, Int.toNat_natCast]
    (with_reducible repeat (first | refine go_pos (by first | assumption | omega | rfl | exact B_pos (by omega)) ?_ | refine go_neg (by first | assumption | omega | decide | exact B_not (by omega)) ?_ | refine go_bind (by first | assumption) ?_ | dsimp only))
    have := ih (done ++ [MkS b r.length]) (b + r.length) (by omega) (by omega) (by rw [List.length_append, List.length_singleton]; omega)
    rw [e2, this]
    simp only [MkSS, tot, List.append_assoc, List.singleton_append, Int.natCast_add, Int.add_assoc]
theorem markGroup (g : List (List Int)) (a : Int) (h0 : 0 ≤ a) (h1 : a + tot g ≤ 4611686018427387904) (hl : g.length ≤ 4611686018427387904) : laws_markGroup.f g a = some (a + tot g, MkSS a g) := by
  have := markSS g a h0 h1 hl
  rw [laws_markGroup.f_eq]; ((with_reducible repeat (first | refine go_pos (by first | assumption | omega | rfl | exact B_pos (by omega)) ?_ | refine go_neg (by first | assumption | omega | decide | exact B_not (by omega)) ?_ | refine go_bind (by first | assumption) ?_ | dsimp only)); first | done | (with_reducible rfl) | simp (disch := omega) only [w64] | (show False; done))
theorem markModule (m : Int) (xs : List Int) (a : Int) (h0 : 0 ≤ a) (h1 : a + xs.length ≤ 4611686018427387904) : laws_markModule.f m xs a = some (a + xs.length, MkS a xs.length) := by
  have := markS xs a h0 h1
  rw [laws_markModule.f_eq]; ((with_reducible repeat (first | refine go_pos (by first | assumption | omega | rfl | exact B_pos (by omega)) ?_ | refine go_neg (by first | assumption | omega | decide | exact B_not (by omega)) ?_ | refine go_bind (by first | assumption) ?_ | dsimp only)); first | done | (with_reducible rfl) | simp (disch := omega) only [w64] | (show False; done))
end Go.Proofs.Ytpppnoliogdkiaa.V
set_option linter.unusedVariables false
namespace Go.Proofs.Ytpppnoliogdkiaa.P
open Go Go.RowKit Go.Proofs.Ytpppnoliogdkiaa.D
noncomputable def laws_markCochain.E : Env := { tt := TT, con := [(26, laws_markInt64S.con)], frz := [], rows := [], live := [], n := 10, pin := 1, nils := [] }
noncomputable def laws_markCochain.fn : D.Fn := { body := Try.f37.body.getD .skip, res := Try.f37.results.toList, ins := [.agg [.v (.int .i64), .own 2 true (.int .i64)], .one (.v (.int .i64))], outs := [.one (.v (.int .i64))] }
def laws_markCochain.enc (y : lsd (flats laws_markCochain.fn.outs) × lsd (ios laws_markCochain.fn.ins)) : Int × (List Int) := (y.1.1, y.2.1)
noncomputable def laws_markCochain.f (a0_0 : Int) (l0_1 : List Int) (a1 : Int) : Option (Int × (List Int)) := denF laws_markCochain.E laws_markCochain.fn laws_markCochain.enc (a0_0, l0_1, a1, ())
set_option maxRecDepth 100000 in
theorem laws_markCochain.f_eq (a0_0 : Int) (l0_1 : List Int) (a1 : Int) : laws_markCochain.f a0_0 l0_1 a1 = (laws_markInt64S.f l0_1 a1).bind fun t8 => some (t8.1, t8.2) := by kernel_rfl
end Go.Proofs.Ytpppnoliogdkiaa.P
set_option linter.unusedVariables false
namespace Go.Proofs.Ytpppnoliogdkiaa.P
open Go Go.RowKit Go.Proofs.Ytpppnoliogdkiaa.D
end Go.Proofs.Ytpppnoliogdkiaa.P
set_option linter.unusedVariables false
set_option linter.unusedSimpArgs false
set_option maxHeartbeats 2000000
namespace Go.Proofs.Ytpppnoliogdkiaa.V
open Go.RowKit Go.Proofs.Ytpppnoliogdkiaa.D Go.Proofs.Ytpppnoliogdkiaa.P
theorem toCochain (m : Int) (u : List Int) (hl : u.length ≤ 1048576) : laws_toCochain.f m u = some (m, u) := by
  rw [laws_toCochain.f_eq]; ((with_reducible repeat (first | refine go_pos (by first | assumption | omega | rfl | exact B_pos (by omega)) ?_ | refine go_neg (by first | assumption | omega | decide | exact B_not (by omega)) ?_ | refine go_bind (by first | assumption | exact toInt64S _ hl) ?_ | dsimp only)); first | done | (with_reducible rfl) | simp (disch := omega) only [w64] | (show False; done))
theorem eqCochain (m n : Int) (u v : List Int) (hl : u.length ≤ maxLen) : laws_eqCochain.f m u n v = some (B (m = n ∧ u = v)) := by
  have he := eqInt64S u v hl
  rw [laws_eqCochain.f_eq]
  by_cases h : m = n ∧ u = v
  · rw [B_pos h.2] at he; rw [B_pos h]; ((with_reducible repeat (first | refine go_pos (by first | assumption | omega | rfl | exact B_pos (by omega)) ?_ | refine go_neg (by first | assumption | omega | decide | exact B_not (by omega)) ?_ | refine go_bind (by first | assumption) ?_ | dsimp only)); first | done | (with_reducible rfl) | simp (disch := omega) only [w64] | (show False; done))
  · rw [B_neg h]
    by_cases h1 : m = n
    · rw [B_neg fun k => h ⟨h1, k⟩] at he; ((with_reducible repeat (first | refine go_pos (by first | assumption | omega | rfl | exact B_pos (by omega)) ?_ | refine go_neg (by first | assumption | omega | decide | exact B_not (by omega)) ?_ | refine go_bind (by first | assumption) ?_ | dsimp only)); first | done | (with_reducible rfl) | simp (disch := omega) only [w64] | (show False; done))
    · ((with_reducible repeat (first | refine go_pos (by first | assumption | omega | rfl | exact B_pos (by omega)) ?_ | refine go_neg (by first | assumption | omega | decide | exact B_not (by omega)) ?_ | refine go_bind (by first | assumption) ?_ | dsimp only)); first | done | (with_reducible rfl) | simp (disch := omega) only [w64] | (show False; done))
theorem same_Cochain (m : Int) (u : List Int) (hl : u.length ≤ maxLen) : laws_eqCochain.f m u m u = some true := by rw [eqCochain m m u u hl, B_pos ⟨rfl, rfl⟩]
theorem szCochain (m : Int) (u : List Int) (left : Int) (hl : u.length ≤ maxLen) (l0 : 0 ≤ left) (l1 : left ≤ 1048576) :
    ∃ t, laws_szCochain.f m u left = some t ∧ (t < 0 ∨ (0 ≤ t ∧ t ≤ 1048576 ∧ u.length ≤ 1048576)) := by
  obtain ⟨t, ht, h⟩ := szInt64S u left hl l0 l1
  rw [laws_szCochain.f_eq]
  rcases h with h | h
  · exact ⟨-1, by ((with_reducible repeat (first | refine go_pos (by first | assumption | omega | rfl | exact B_pos (by omega)) ?_ | refine go_neg (by first | assumption | omega | decide | exact B_not (by omega)) ?_ | refine go_bind (by first | assumption) ?_ | dsimp only)); first | done | (with_reducible rfl) | simp (disch := omega) only [w64] | (show False; done)), .inl (by omega)⟩
  · have := h.1
    exact ⟨t, by ((with_reducible repeat (first | refine go_pos (by first | assumption | omega | rfl | exact B_pos (by omega)) ?_ | refine go_neg (by first | assumption | omega | decide | exact B_not (by omega)) ?_ | refine go_bind (by first | assumption) ?_ | dsimp only)); first | done | (with_reducible rfl) | simp (disch := omega) only [w64] | (show False; done)), .inr h⟩
theorem markCochain (m : Int) (xs : List Int) (a : Int) (h0 : 0 ≤ a) (h1 : a + xs.length ≤ 4611686018427387904) : laws_markCochain.f m xs a = some (a + xs.length, MkS a xs.length) := by
  have := markS xs a h0 h1
  rw [laws_markCochain.f_eq]; ((with_reducible repeat (first | refine go_pos (by first | assumption | omega | rfl | exact B_pos (by omega)) ?_ | refine go_neg (by first | assumption | omega | decide | exact B_not (by omega)) ?_ | refine go_bind (by first | assumption) ?_ | dsimp only)); first | done | (with_reducible rfl) | simp (disch := omega) only [w64] | (show False; done))
end Go.Proofs.Ytpppnoliogdkiaa.V
set_option linter.unusedVariables false
namespace Go.Proofs.Ytpppnoliogdkiaa.P
open Go Go.RowKit Go.Proofs.Ytpppnoliogdkiaa.D
end Go.Proofs.Ytpppnoliogdkiaa.P
set_option linter.unusedVariables false
namespace Go.Proofs.Ytpppnoliogdkiaa.P
open Go Go.RowKit Go.Proofs.Ytpppnoliogdkiaa.D
end Go.Proofs.Ytpppnoliogdkiaa.P
set_option linter.unusedVariables false
namespace Go.Proofs.Ytpppnoliogdkiaa.P
open Go Go.RowKit Go.Proofs.Ytpppnoliogdkiaa.D
end Go.Proofs.Ytpppnoliogdkiaa.P
set_option linter.unusedVariables false
namespace Go.Proofs.Ytpppnoliogdkiaa.P
open Go Go.RowKit Go.Proofs.Ytpppnoliogdkiaa.D
end Go.Proofs.Ytpppnoliogdkiaa.P
set_option linter.unusedVariables false
namespace Go.Proofs.Ytpppnoliogdkiaa.P
open Go Go.RowKit Go.Proofs.Ytpppnoliogdkiaa.D
noncomputable def spec_l03Add.E : Env := { tt := TT, con := [(96, spec_l01Own.con), (97, spec_l01Mod.con)], frz := [], rows := [], live := [(3, [3, 4, 5, 6, 8, 9, 10])], n := 45, pin := 0, nils := [] }
noncomputable def spec_l03Add.fn : D.Fn := { body := Try.f94.body.getD .skip, res := Try.f94.results.toList, ins := [.agg [.v (.int .i64), .v (.sl 2 (.int .i64))], .agg [.v (.int .i64), .v (.sl 2 (.int .i64))], .agg [.v (.int .i64), .v (.sl 2 (.int .i64))], .one (.v (.int .i64))], outs := [.agg [.v (.int .i64), .own 2 true (.int .i64)]] }
def spec_l03Add.enc (y : lsd (flats spec_l03Add.fn.outs) × lsd (ios spec_l03Add.fn.ins)) : Int × (List Int) := (y.1.1, y.1.2.1)
noncomputable def spec_l03Add.f (a0_0 : Int) (l0_1 : List Int) (a1_0 : Int) (l1_1 : List Int) (a2_0 : Int) (l2_1 : List Int) (a3 : Int) : Option (Int × (List Int)) := denF spec_l03Add.E spec_l03Add.fn spec_l03Add.enc (a0_0, l0_1, a1_0, l1_1, a2_0, l2_1, a3, ())
noncomputable def spec_l03Add.l0 (x3 : Int) (x10 : Int) (b0_0 : Int) (b0_1 : List Int) (b1_0 : Int) (b1_1 : List Int) (b2_0 : Int) (b2_1 : List Int) (b3_0 : Int) (b4_0 : Int) (r5 : List Int) : Option (Int × (List Int)) := denAt spec_l03Add.E spec_l03Add.fn spec_l03Add.enc [1, 1, 0, 1, 0] { fr := [(3, .lf (.int .i64 x3)), (4, .lf (.box 0 0)), (5, .lf (.box 1 0)), (6, .lf (.box 2 0)), (8, .lf (.box 3 0)), (9, .lf (.box 4 0)), (10, .lf (.int .i64 x10))], ob := [(0, .box 34 false [.int .i64 b0_0, .sl (.int .i64) b0_1]), (1, .box 48 false [.int .i64 b1_0, .sl (.int .i64) b1_1]), (2, .box 48 false [.int .i64 b2_0, .sl (.int .i64) b2_1]), (3, .box 48 false [.int .i64 b3_0, .nil]), (4, .box 48 false [.int .i64 b4_0, .own 5]), (5, .row 2 true (.int .i64) r5)], nx := 6 }
set_option maxRecDepth 100000 in
theorem spec_l03Add.f_eq (a0_0 : Int) (l0_1 : List Int) (a1_0 : Int) (l1_1 : List Int) (a2_0 : Int) (l2_1 : List Int) (a3 : Int) : spec_l03Add.f a0_0 l0_1 a1_0 l1_1 a2_0 l2_1 a3 = (spec_l01Own.f l1_1).bind fun t15 => spec_l03Add.l0 a3 0 a0_0 l0_1 a1_0 l1_1 a2_0 l2_1 0 a1_0 t15 := by kernel_rfl
set_option maxRecDepth 100000 in
theorem spec_l03Add.l0_eq (x3 : Int) (x10 : Int) (b0_0 : Int) (b0_1 : List Int) (b1_0 : Int) (b1_1 : List Int) (b2_0 : Int) (b2_1 : List Int) (b3_0 : Int) (b4_0 : Int) (r5 : List Int) : spec_l03Add.l0 x3 x10 b0_0 b0_1 b1_0 b1_1 b2_0 b2_1 b3_0 b4_0 r5 = if x10 < (r5.length : Int) then (if 0 ≤ x10 then (if x10 < (b1_1.length : Int) then (if 0 ≤ x10 then (if x10 < (b2_1.length : Int) then ((spec_l01Mod.f (wrapI ((rd b1_1 x10) + (wrapI (x3 * (rd b2_1 x10))))) b0_0).bind fun t42 => if 0 ≤ x10 then (if x10 < (r5.length : Int) then (if 0 ≤ x10 then (if x10 < (r5.length : Int) then (spec_l03Add.l0 x3 (wrapI (x10 + 1)) b0_0 b0_1 b1_0 b1_1 b2_0 b2_1 b3_0 b4_0 (r5.set (x10 : Int).toNat t42)) else none) else none) else none) else none) else none) else none) else none) else none) else (some (b4_0, r5)) := (loop_unfold _ _ _ _).trans (by kernel_rfl)
end Go.Proofs.Ytpppnoliogdkiaa.P
set_option linter.unusedVariables false
namespace Go.Proofs.Ytpppnoliogdkiaa.P
open Go Go.RowKit Go.Proofs.Ytpppnoliogdkiaa.D
end Go.Proofs.Ytpppnoliogdkiaa.P
set_option linter.unusedVariables false
namespace Go.Proofs.Ytpppnoliogdkiaa.P
open Go Go.RowKit Go.Proofs.Ytpppnoliogdkiaa.D
end Go.Proofs.Ytpppnoliogdkiaa.P
set_option linter.unusedVariables false
namespace Go.Proofs.Ytpppnoliogdkiaa.P
open Go Go.RowKit Go.Proofs.Ytpppnoliogdkiaa.D
end Go.Proofs.Ytpppnoliogdkiaa.P
set_option linter.unusedVariables false
namespace Go.Proofs.Ytpppnoliogdkiaa.P
open Go Go.RowKit Go.Proofs.Ytpppnoliogdkiaa.D
end Go.Proofs.Ytpppnoliogdkiaa.P
set_option linter.unusedVariables false
namespace Go.Proofs.Ytpppnoliogdkiaa.P
open Go Go.RowKit Go.Proofs.Ytpppnoliogdkiaa.D
end Go.Proofs.Ytpppnoliogdkiaa.P
set_option linter.unusedVariables false
namespace Go.Proofs.Ytpppnoliogdkiaa.P
open Go Go.RowKit Go.Proofs.Ytpppnoliogdkiaa.D
end Go.Proofs.Ytpppnoliogdkiaa.P
set_option linter.unusedVariables false
namespace Go.Proofs.Ytpppnoliogdkiaa.P
open Go Go.RowKit Go.Proofs.Ytpppnoliogdkiaa.D
end Go.Proofs.Ytpppnoliogdkiaa.P
set_option linter.unusedVariables false
namespace Go.Proofs.Ytpppnoliogdkiaa.P
open Go Go.RowKit Go.Proofs.Ytpppnoliogdkiaa.D
end Go.Proofs.Ytpppnoliogdkiaa.P
set_option linter.unusedVariables false
namespace Go.Proofs.Ytpppnoliogdkiaa.P
open Go Go.RowKit Go.Proofs.Ytpppnoliogdkiaa.D
end Go.Proofs.Ytpppnoliogdkiaa.P
set_option linter.unusedVariables false
namespace Go.Proofs.Ytpppnoliogdkiaa.P
open Go Go.RowKit Go.Proofs.Ytpppnoliogdkiaa.D
end Go.Proofs.Ytpppnoliogdkiaa.P
set_option linter.unusedVariables false
namespace Go.Proofs.Ytpppnoliogdkiaa.P
open Go Go.RowKit Go.Proofs.Ytpppnoliogdkiaa.D
end Go.Proofs.Ytpppnoliogdkiaa.P
set_option linter.unusedVariables false
namespace Go.Proofs.Ytpppnoliogdkiaa.P
open Go Go.RowKit Go.Proofs.Ytpppnoliogdkiaa.D
end Go.Proofs.Ytpppnoliogdkiaa.P
set_option linter.unusedVariables false
namespace Go.Proofs.Ytpppnoliogdkiaa.P
open Go Go.RowKit Go.Proofs.Ytpppnoliogdkiaa.D
end Go.Proofs.Ytpppnoliogdkiaa.P
set_option linter.unusedVariables false
namespace Go.Proofs.Ytpppnoliogdkiaa.P
open Go Go.RowKit Go.Proofs.Ytpppnoliogdkiaa.D
end Go.Proofs.Ytpppnoliogdkiaa.P
set_option linter.unusedVariables false
namespace Go.Proofs.Ytpppnoliogdkiaa.P
open Go Go.RowKit Go.Proofs.Ytpppnoliogdkiaa.D
end Go.Proofs.Ytpppnoliogdkiaa.P
set_option linter.unusedVariables false
set_option linter.unusedSimpArgs false
set_option maxHeartbeats 2000000
set_option maxRecDepth 20000
namespace Go.Proofs.Ytpppnoliogdkiaa.V
open Go.RowKit Go.Proofs.Ytpppnoliogdkiaa.D Go.Proofs.Ytpppnoliogdkiaa.P
theorem areIn (n : Int) (xs : List Int) (hl : xs.length ≤ maxLen) : impl_areIn.f n xs = some (B (AllIn n xs)) := by
  have hm := maxLen_le
  rw [impl_areIn.f_eq]
  refine scanT xs.length (fun i => impl_areIn.l0 n xs (xs.length : Int) i) (fun i => 0 ≤ rd xs i ∧ rd xs i < n) (fun i h0 h1 _ => ?_) (fun _ => ?_)
  · refine ⟨fun h => ?_, fun h => ?_⟩ <;> (rw [impl_areIn.l0_eq])
    · ((with_reducible repeat (first | refine go_pos (by first | assumption | omega | rfl | exact B_pos (by omega)) ?_ | refine go_neg (by first | assumption | omega | decide | exact B_not (by omega)) ?_ | refine go_bind (by first | assumption) ?_ | dsimp only)); first | done | (with_reducible rfl) | simp (disch := omega) only [w64] | (show False; done))
    · by_cases h2 : rd xs i < 0 <;> ((with_reducible repeat (first | refine go_pos (by first | assumption | omega | rfl | exact B_pos (by omega)) ?_ | refine go_neg (by first | assumption | omega | decide | exact B_not (by omega)) ?_ | refine go_bind (by first | assumption) ?_ | dsimp only)); first | done | (with_reducible rfl) | simp (disch := omega) only [w64] | (show False; done))
  · (rw [impl_areIn.l0_eq])
    ((with_reducible repeat (first | refine go_pos (by first | assumption | omega | rfl | exact B_pos (by omega)) ?_ | refine go_neg (by first | assumption | omega | decide | exact B_not (by omega)) ?_ | refine go_bind (by first | assumption) ?_ | dsimp only)); first | done | (with_reducible rfl) | simp (disch := omega) only [w64] | (show False; done))
theorem index_ (xs : List Int) (x : Int) (hl : xs.length ≤ maxLen) :
    ((∀ i : Int, 0 ≤ i → i < xs.length → rd xs i ≠ x) ∧ slices_Index_int64.f xs x = some (-1)) ∨
    ∃ i : Int, 0 ≤ i ∧ i < xs.length ∧ (∀ j : Int, 0 ≤ j → j < i → rd xs j ≠ x) ∧ rd xs i = x ∧ slices_Index_int64.f xs x = some i := by
  have hm := maxLen_le
  rw [slices_Index_int64.f_eq]
  suffices H : ∀ d m : Nat, m + d = xs.length → (∀ j : Int, 0 ≤ j → j < m → rd xs j ≠ x) →
      ((∀ i : Int, 0 ≤ i → i < xs.length → rd xs i ≠ x) ∧ slices_Index_int64.l0 xs x (xs.length : Int) m = some (-1)) ∨
      ∃ i : Int, 0 ≤ i ∧ i < xs.length ∧ (∀ j : Int, 0 ≤ j → j < i → rd xs j ≠ x) ∧ rd xs i = x ∧ slices_Index_int64.l0 xs x (xs.length : Int) m = some i from
    H xs.length 0 (by omega) (fun j h0 h1 => by omega)
  intro d
  induction d with
  | zero =>
    intro m hd hp
    obtain rfl : m = xs.length := by omega
    refine .inl ⟨hp, ?_⟩
    (rw [slices_Index_int64.l0_eq])
    ((with_reducible repeat (first | refine go_pos (by first | assumption | omega | rfl | exact B_pos (by omega)) ?_ | refine go_neg (by first | assumption | omega | decide | exact B_not (by omega)) ?_ | refine go_bind (by first | assumption) ?_ | dsimp only)); first | done | (with_reducible rfl) | simp (disch := omega) only [w64] | (show False; done))
  | succ d ih =>
    intro m hd hp
    by_cases h2 : x = rd xs m
    · refine .inr ⟨m, by omega, by omega, hp, h2.symm, ?_⟩
      (rw [slices_Index_int64.l0_eq])
      ((with_reducible repeat (first | refine go_pos (by first | assumption | omega | rfl | exact B_pos (by omega)) ?_ | refine go_neg (by first | assumption | omega | decide | exact B_not (by omega)) ?_ | refine go_bind (by first | assumption) ?_ | dsimp only)); first | done | (with_reducible rfl) | simp (disch := omega) only [w64] | (show False; done))
    · have st : slices_Index_int64.l0 xs x (xs.length : Int) m = slices_Index_int64.l0 xs x (xs.length : Int) ((m + 1 : Nat) : Int) := by
        rw [Int.natCast_add, Int.natCast_one]
        (rw [slices_Index_int64.l0_eq])
        ((with_reducible repeat (first | refine go_pos (by first | assumption | omega | rfl | exact B_pos (by omega)) ?_ | refine go_neg (by first | assumption | omega | decide | exact B_not (by omega)) ?_ | refine go_bind (by first | assumption) ?_ | dsimp only)); first | done | (with_reducible rfl) | simp (disch := omega) only [w64] | (show False; done))
      rw [st]
      refine ih (m + 1) (by omega) fun j k0 k1 => ?_
      by_cases e : j = m
      · rw [e]; exact fun h => h2 h.symm
      · exact hp j k0 (by omega)
theorem contains_ (xs : List Int) (x : Int) (hl : xs.length ≤ maxLen) : slices_Contains_int64.f xs x = some (B (∃ i : Int, 0 ≤ i ∧ i < xs.length ∧ rd xs i = x)) := by
  rw [slices_Contains_int64.f_eq]
  rcases index_ xs x hl with ⟨h, e⟩ | ⟨i, h0, h1, _, h2, e⟩
  · rw [e, B_neg fun ⟨i, h0, h1, h2⟩ => h i h0 h1 h2]; rfl
  · rw [e, B_pos ⟨i, h0, h1, h2⟩]; simp [h0]
structure Grp (g : List (List Int)) : Prop where
  n1 : 1 ≤ g.length
  n8 : g.length ≤ 8
  row : ∀ a : Int, 0 ≤ a → a < g.length → (row g a).length = g.length
  ent : ∀ a b : Int, 0 ≤ a → a < g.length → 0 ≤ b → b < g.length → 0 ≤ T g a b ∧ T g a b < g.length
  one : ∀ a : Int, 0 ≤ a → a < g.length → T g 0 a = a
  one' : ∀ a : Int, 0 ≤ a → a < g.length → T g a 0 = a
  assoc : ∀ a b c : Int, 0 ≤ a → a < g.length → 0 ≤ b → b < g.length → 0 ≤ c → c < g.length → T g (T g a b) c = T g a (T g b c)
  inv : ∀ a : Int, 0 ≤ a → a < g.length → ∃ b : Int, 0 ≤ b ∧ b < g.length ∧ T g a b = 0
theorem Grp.inv2 {g : List (List Int)} (h : Grp g) {a : Int} (h0 : 0 ≤ a) (h1 : a < g.length) : ∃ b : Int, 0 ≤ b ∧ b < g.length ∧ T g a b = 0 ∧ T g b a = 0 := by
  obtain ⟨b, b0, b1, hb⟩ := h.inv a h0 h1
  obtain ⟨c, c0, c1, hc⟩ := h.inv b b0 b1
  refine ⟨b, b0, b1, hb, ?_⟩
  have hac : c = a := by
    have e1 := h.assoc a b c h0 h1 b0 b1 c0 c1
    rw [hb, hc, h.one c c0 c1, h.one' a h0 h1] at e1
    exact e1
  rw [← hac]; exact hc
theorem rows_len {g : List (List Int)} (hr : ∀ r ∈ g, r.length ≤ maxLen) {a : Int} (h0 : 0 ≤ a) (h1 : a < g.length) : (row g a).length ≤ maxLen := hr _ (row_mem h0 h1)
def Tab (g : List (List Int)) : Prop := ∀ a : Int, 0 ≤ a → a < g.length → (row g a).length = g.length ∧ AllIn g.length (row g a)
def Law (g : List (List Int)) (a : Int) : Prop := T g 0 a = a ∧ T g a 0 = a ∧ (∃ b : Int, 0 ≤ b ∧ b < g.length ∧ T g a b = 0) ∧ ∀ b : Int, 0 ≤ b → b < g.length → ∀ c : Int, 0 ≤ c → c < g.length → T g (T g a b) c = T g a (T g b c)
theorem grp_iff (g : List (List Int)) : Grp g ↔ (1 ≤ g.length ∧ g.length ≤ 8) ∧ Tab g ∧ ∀ a : Int, 0 ≤ a → a < g.length → Law g a := by
  constructor
  · intro h
    refine ⟨⟨h.n1, h.n8⟩, fun a h0 h1 => ⟨h.row a h0 h1, fun i i0 i1 => ?_⟩, fun a h0 h1 => ⟨h.one a h0 h1, h.one' a h0 h1, h.inv a h0 h1, fun b b0 b1 c c0 c1 => h.assoc a b c h0 h1 b0 b1 c0 c1⟩⟩
    have := h.row a h0 h1
    exact h.ent a i h0 h1 i0 (by omega)
  · rintro ⟨⟨h1, h8⟩, ht, hl⟩
    refine ⟨h1, h8, fun a a0 a1 => (ht a a0 a1).1, fun a b a0 a1 b0 b1 => ?_, fun a a0 a1 => (hl a a0 a1).1, fun a a0 a1 => (hl a a0 a1).2.1, fun a b c a0 a1 b0 b1 c0 c1 => (hl a a0 a1).2.2.2 b b0 b1 c c0 c1, fun a a0 a1 => (hl a a0 a1).2.2.1⟩
    have := (ht a a0 a1).1
    exact (ht a a0 a1).2 b b0 (by omega)
theorem isGroup (g : List (List Int)) (hl : g.length ≤ maxLen) (hr : ∀ r ∈ g, r.length ≤ maxLen) : impl_IsGroup.f g = some (B (Grp g)) := by
  have hm := maxLen_le
  rw [B_congr (grp_iff g)]
  (rw [impl_IsGroup.f_eq])
  by_cases c1 : (g.length : Int) < 1 ∨ (g.length : Int) > 8
  · rw [B_neg fun h => by omega]
    by_cases c2 : (g.length : Int) < 1 <;> ((with_reducible repeat (first | refine go_pos (by first | assumption | omega | rfl | exact B_pos (by omega)) ?_ | refine go_neg (by first | assumption | omega | decide | exact B_not (by omega)) ?_ | refine go_bind (by first | assumption | exact impl_order.f_eq _) ?_ | dsimp only)); first | done | (with_reducible rfl) | simp (disch := omega) only [w64] | (show False; done))
  rw [B_congr (show ((1 ≤ g.length ∧ g.length ≤ 8) ∧ Tab g ∧ ∀ a : Int, 0 ≤ a → a < g.length → Law g a) ↔ (Tab g ∧ ∀ a : Int, 0 ≤ a → a < g.length → Law g a) from ⟨fun h => h.2, fun h => ⟨by omega, h⟩⟩)]
  (with_reducible repeat (first | refine go_pos (by first | assumption | omega | rfl | exact B_pos (by omega)) ?_ | refine go_neg (by first | assumption | omega | decide | exact B_not (by omega)) ?_ | refine go_bind (by first | assumption | exact impl_order.f_eq _) ?_ | dsimp only))
  refine scanB g.length (fun i => impl_IsGroup.l0 (g.length : Int) g (g.length : Int) i g) (fun a => (row g a).length = g.length ∧ AllIn g.length (row g a)) _ (fun i h0 h1 _ => ?_) (fun ht => ?_)
  · have ha := areIn g.length (row g i) (rows_len hr h0 h1)
    refine ⟨fun h => ?_, fun h => ?_⟩ <;> (rw [impl_IsGroup.l0_eq])
    · have h1 := h.1
      rw [B_pos h.2] at ha
      ((with_reducible repeat (first | refine go_pos (by first | assumption | omega | rfl | exact B_pos (by omega)) ?_ | refine go_neg (by first | assumption | omega | decide | exact B_not (by omega)) ?_ | refine go_bind (by first | assumption) ?_ | dsimp only)); first | done | (with_reducible rfl) | simp (disch := omega) only [w64] | (show False; done))
    · by_cases h2 : ((row g i).length : Int) = g.length
      · rw [B_neg fun h3 => h ⟨by omega, h3⟩] at ha
        ((with_reducible repeat (first | refine go_pos (by first | assumption | omega | rfl | exact B_pos (by omega)) ?_ | refine go_neg (by first | assumption | omega | decide | exact B_not (by omega)) ?_ | refine go_bind (by first | assumption) ?_ | dsimp only)); first | done | (with_reducible rfl) | simp (disch := omega) only [w64] | (show False; done))
      · ((with_reducible repeat (first | refine go_pos (by first | assumption | omega | rfl | exact B_pos (by omega)) ?_ | refine go_neg (by first | assumption | omega | decide | exact B_not (by omega)) ?_ | refine go_bind (by first | assumption) ?_ | dsimp only)); first | done | (with_reducible rfl) | simp (disch := omega) only [w64] | (show False; done))
  (rw [impl_IsGroup.l0_eq])
  (with_reducible repeat (first | refine go_pos (by first | assumption | omega | rfl | exact B_pos (by omega)) ?_ | refine go_neg (by first | assumption | omega | decide | exact B_not (by omega)) ?_ | refine go_bind (by first | assumption) ?_ | dsimp only))
  refine scanT g.length (fun i => impl_IsGroup.l1 (g.length : Int) (g.length : Int) i g) (Law g) (fun a a0 a1 _ => ?_) (fun _ => ?_)
  rotate_left
  · (rw [impl_IsGroup.l1_eq])
    ((with_reducible repeat (first | refine go_pos (by first | assumption | omega | rfl | exact B_pos (by omega)) ?_ | refine go_neg (by first | assumption | omega | decide | exact B_not (by omega)) ?_ | refine go_bind (by first | assumption) ?_ | dsimp only)); first | done | (with_reducible rfl) | simp (disch := omega) only [w64] | (show False; done))
  have hlen : ∀ x : Int, 0 ≤ x → x < g.length → ((row g x).length : Int) = g.length := fun x x0 x1 => by rw [(ht x x0 x1).1]
  have hent : ∀ x y : Int, 0 ≤ x → x < g.length → 0 ≤ y → y < g.length → 0 ≤ T g x y ∧ T g x y < g.length := fun x y x0 x1 y0 y1 => (ht x x0 x1).2 y y0 (by rw [hlen x x0 x1]; exact y1)
  have l0 := hlen 0 (by omega) (by omega)
  have la := hlen a a0 a1
  have hc := contains_ (row g a) 0 (rows_len hr a0 a1)
  rw [B_congr (show (∃ i : Int, 0 ≤ i ∧ i < (row g a).length ∧ rd (row g a) i = 0) ↔ ∃ b : Int, 0 ≤ b ∧ b < g.length ∧ T g a b = 0 by rw [la]; exact Iff.rfl)] at hc
  by_cases h2 : T g 0 a = a
  rotate_left
  · refine ⟨fun h => absurd h.1 h2, fun _ => ?_⟩
    (rw [impl_IsGroup.l1_eq])
    ((with_reducible repeat (first | refine go_pos (by first | assumption | omega | rfl | exact B_pos (by omega)) ?_ | refine go_neg (by first | assumption | omega | decide | exact B_not (by omega)) ?_ | refine go_bind (by first | assumption) ?_ | dsimp only)); first | done | (with_reducible rfl) | simp (disch := omega) only [w64] | (show False; done))
  by_cases h3 : T g a 0 = a
  rotate_left
  · refine ⟨fun h => absurd h.2.1 h3, fun _ => ?_⟩
    (rw [impl_IsGroup.l1_eq])
    ((with_reducible repeat (first | refine go_pos (by first | assumption | omega | rfl | exact B_pos (by omega)) ?_ | refine go_neg (by first | assumption | omega | decide | exact B_not (by omega)) ?_ | refine go_bind (by first | assumption) ?_ | dsimp only)); first | done | (with_reducible rfl) | simp (disch := omega) only [w64] | (show False; done))
  by_cases h4 : ∃ b : Int, 0 ≤ b ∧ b < g.length ∧ T g a b = 0
  rotate_left
  · refine ⟨fun h => absurd h.2.2.1 h4, fun _ => ?_⟩
    rw [B_neg h4] at hc
    (rw [impl_IsGroup.l1_eq])
    ((with_reducible repeat (first | refine go_pos (by first | assumption | omega | rfl | exact B_pos (by omega)) ?_ | refine go_neg (by first | assumption | omega | decide | exact B_not (by omega)) ?_ | refine go_bind (by first | assumption) ?_ | dsimp only)); first | done | (with_reducible rfl) | simp (disch := omega) only [w64] | (show False; done))
  rw [B_pos h4] at hc
  have inner := scanI g.length (fun b => impl_IsGroup.l2 (g.length : Int) a (g.length : Int) a (g.length : Int) b g) (fun b => ∀ c : Int, 0 ≤ c → c < g.length → T g (T g a b) c = T g a (T g b c)) (some false) (impl_IsGroup.l1 (g.length : Int) (g.length : Int) (a + 1) g)
    (fun b b0 b1 _ => by
      obtain ⟨e0, e1⟩ := hent a b a0 a1 b0 b1
      have le := hlen _ e0 e1
      have lb := hlen b b0 b1
      have := scanI g.length (fun c => impl_IsGroup.l3 (g.length : Int) a b (g.length : Int) a (g.length : Int) b (g.length : Int) c g) (fun c => T g (T g a b) c = T g a (T g b c)) (some false) (impl_IsGroup.l2 (g.length : Int) a (g.length : Int) a (g.length : Int) (b + 1) g)
        (fun c c0 c1 _ => by
          obtain ⟨f0, f1⟩ := hent b c b0 b1 c0 c1
          refine ⟨fun h => ?_, fun h => ?_⟩ <;> (rw [impl_IsGroup.l3_eq]) <;> ((with_reducible repeat (first | refine go_pos (by first | assumption | omega | rfl | exact B_pos (by omega)) ?_ | refine go_neg (by first | assumption | omega | decide | exact B_not (by omega)) ?_ | refine go_bind (by first | assumption) ?_ | dsimp only)); first | done | (with_reducible rfl) | simp (disch := omega) only [w64] | (show False; done))) (fun _ => by (rw [impl_IsGroup.l3_eq]); ((with_reducible repeat (first | refine go_pos (by first | assumption | omega | rfl | exact B_pos (by omega)) ?_ | refine go_neg (by first | assumption | omega | decide | exact B_not (by omega)) ?_ | refine go_bind (by first | assumption) ?_ | dsimp only)); first | done | (with_reducible rfl) | simp (disch := omega) only [w64] | (show False; done)))
      refine ⟨fun h => ?_, fun h => ?_⟩ <;> (rw [impl_IsGroup.l2_eq])
      · (with_reducible repeat (first | refine go_pos (by first | assumption | omega | rfl | exact B_pos (by omega)) ?_ | refine go_neg (by first | assumption | omega | decide | exact B_not (by omega)) ?_ | refine go_bind (by first | assumption) ?_ | dsimp only))
        exact this.1 h
      · (with_reducible repeat (first | refine go_pos (by first | assumption | omega | rfl | exact B_pos (by omega)) ?_ | refine go_neg (by first | assumption | omega | decide | exact B_not (by omega)) ?_ | refine go_bind (by first | assumption) ?_ | dsimp only))
        exact this.2 h) (fun _ => by (rw [impl_IsGroup.l2_eq]); ((with_reducible repeat (first | refine go_pos (by first | assumption | omega | rfl | exact B_pos (by omega)) ?_ | refine go_neg (by first | assumption | omega | decide | exact B_not (by omega)) ?_ | refine go_bind (by first | assumption) ?_ | dsimp only)); first | done | (with_reducible rfl) | simp (disch := omega) only [w64] | (show False; done)))
  refine ⟨fun h => ?_, fun h => ?_⟩ <;> (rw [impl_IsGroup.l1_eq]) <;> (with_reducible repeat (first | refine go_pos (by first | assumption | omega | rfl | exact B_pos (by omega)) ?_ | refine go_neg (by first | assumption | omega | decide | exact B_not (by omega)) ?_ | refine go_bind (by first | assumption) ?_ | dsimp only))
  · exact inner.1 h.2.2.2
  · exact inner.2 fun k => h ⟨h2, h3, h4, k⟩
end Go.Proofs.Ytpppnoliogdkiaa.V
set_option linter.unusedVariables false
set_option linter.unusedSimpArgs false
set_option maxHeartbeats 2000000
set_option maxRecDepth 20000
namespace Go.Proofs.Ytpppnoliogdkiaa.V
open Go.RowKit Go.Proofs.Ytpppnoliogdkiaa.D Go.Proofs.Ytpppnoliogdkiaa.P
theorem In_ (x lo hi : Int) : spec_l01In.f x lo hi = some (B (lo ≤ x ∧ x ≤ hi)) := by
  rw [spec_l01In.f_eq]
  by_cases h : x ≥ lo
  · rw [if_pos h, B_decide, B_congr (show x ≤ hi ↔ (lo ≤ x ∧ x ≤ hi) from ⟨fun h' => ⟨h, h'⟩, fun h' => h'.2⟩)]
  · rw [if_neg h, B_neg (fun h' => h h'.1)]
def LawS (g : List (List Int)) (a : Int) : Prop := T g 0 a = a ∧ T g a 0 = a ∧ (∀ b : Int, 0 ≤ b → b < g.length → ∀ c : Int, 0 ≤ c → c < g.length → T g (T g a b) c = T g a (T g b c)) ∧ ∃ b : Int, 0 ≤ b ∧ b < g.length ∧ T g a b = 0 ∧ T g b a = 0
theorem grp_iffS (g : List (List Int)) : Grp g ↔ (1 ≤ g.length ∧ g.length ≤ 8) ∧ Tab g ∧ ∀ a : Int, 0 ≤ a → a < g.length → LawS g a := by
  rw [grp_iff]
  constructor
  · intro h
    have hg := (grp_iff g).2 h
    refine ⟨h.1, h.2.1, fun a a0 a1 => ?_⟩
    obtain ⟨h1, h2, _, h4⟩ := h.2.2 a a0 a1
    exact ⟨h1, h2, h4, hg.inv2 a0 a1⟩
  · rintro ⟨h1, h2, h3⟩
    refine ⟨h1, h2, fun a a0 a1 => ?_⟩
    obtain ⟨k1, k2, k3, b, b0, b1, hb, _⟩ := h3 a a0 a1
    exact ⟨k1, k2, ⟨b, b0, b1, hb⟩, k3⟩
theorem Is_ (g : List (List Int)) : spec_l01Is.f g = some (B (Grp g)) := by
  rw [B_congr (grp_iffS g)]
  (rw [spec_l01Is.f_eq])
  by_cases c1 : 1 ≤ (g.length : Int) ∧ (g.length : Int) ≤ 8
  rotate_left
  · rw [B_neg fun h => c1 (by omega)]
    ((with_reducible repeat (first | refine go_pos (by first | assumption | omega | rfl | exact B_pos (by omega)) ?_ | refine go_neg (by first | assumption | omega | decide | exact B_not (by omega)) ?_ | refine go_bind (by first | assumption | exact In_ _ _ _) ?_ | dsimp only)); first | done | (with_reducible rfl) | simp (disch := omega) only [w64] | (show False; done))
  rw [B_congr (show ((1 ≤ g.length ∧ g.length ≤ 8) ∧ Tab g ∧ ∀ a : Int, 0 ≤ a → a < g.length → LawS g a) ↔ (Tab g ∧ ∀ a : Int, 0 ≤ a → a < g.length → LawS g a) from ⟨fun h => h.2, fun h => ⟨by omega, h⟩⟩)]
  (with_reducible repeat (first | refine go_pos (by first | assumption | omega | rfl | exact B_pos (by omega)) ?_ | refine go_neg (by first | assumption | omega | decide | exact B_not (by omega)) ?_ | refine go_bind (by first | assumption | exact In_ _ _ _) ?_ | dsimp only))
  have hw1 : wrapI ((g.length : Int) - 1) = g.length - 1 := w64 (by omega) (by omega)
  refine scanB g.length (fun i => spec_l01Is.l0 (g.length : Int) i g) (fun a => (row g a).length = g.length ∧ AllIn g.length (row g a)) (∀ a : Int, 0 ≤ a → a < g.length → LawS g a) (fun a a0 a1 _ => ?_) (fun ht => ?_)
  · by_cases h2 : ((row g a).length : Int) = g.length
    rotate_left
    · refine ⟨fun h => absurd h.1 (by omega), fun _ => ?_⟩
      (rw [spec_l01Is.l0_eq])
      ((with_reducible repeat (first | refine go_pos (by first | assumption | omega | rfl | exact B_pos (by omega)) ?_ | refine go_neg (by first | assumption | omega | decide | exact B_not (by omega)) ?_ | refine go_bind (by first | assumption) ?_ | dsimp only)); first | done | (with_reducible rfl) | simp (disch := omega) only [w64] | (show False; done))
    have inner := scanI g.length (fun b => spec_l01Is.l1 (g.length : Int) a b g) (fun b => 0 ≤ T g a b ∧ T g a b < g.length) (some false) (spec_l01Is.l0 (g.length : Int) (a + 1) g)
      (fun b b0 b1 _ => by refine ⟨fun h => ?_, fun h => ?_⟩ <;> (rw [spec_l01Is.l1_eq, hw1]) <;> ((with_reducible repeat (first | refine go_pos (by first | assumption | omega | rfl | exact B_pos (by omega)) ?_ | refine go_neg (by first | assumption | omega | decide | exact B_not (by omega)) ?_ | refine go_bind (by first | assumption | exact In_ _ _ _) ?_ | dsimp only)); first | done | (with_reducible rfl) | simp (disch := omega) only [w64] | (show False; done))) (fun _ => by (rw [spec_l01Is.l1_eq]); ((with_reducible repeat (first | refine go_pos (by first | assumption | omega | rfl | exact B_pos (by omega)) ?_ | refine go_neg (by first | assumption | omega | decide | exact B_not (by omega)) ?_ | refine go_bind (by first | assumption) ?_ | dsimp only)); first | done | (with_reducible rfl) | simp (disch := omega) only [w64] | (show False; done)))
    refine ⟨fun h => ?_, fun h => ?_⟩ <;> (rw [spec_l01Is.l0_eq]) <;> (with_reducible repeat (first | refine go_pos (by first | assumption | omega | rfl | exact B_pos (by omega)) ?_ | refine go_neg (by first | assumption | omega | decide | exact B_not (by omega)) ?_ | refine go_bind (by first | assumption) ?_ | dsimp only))
    · exact inner.1 fun j j0 j1 => h.2 j j0 (by omega)
    · exact inner.2 fun k => h ⟨by omega, fun j j0 j1 => k j j0 (by omega)⟩
  (rw [spec_l01Is.l0_eq])
  (with_reducible repeat (first | refine go_pos (by first | assumption | omega | rfl | exact B_pos (by omega)) ?_ | refine go_neg (by first | assumption | omega | decide | exact B_not (by omega)) ?_ | refine go_bind (by first | assumption) ?_ | dsimp only))
  refine scanT g.length (fun i => spec_l01Is.l2 (g.length : Int) i g) (LawS g) (fun a a0 a1 _ => ?_) (fun _ => by (rw [spec_l01Is.l2_eq]); ((with_reducible repeat (first | refine go_pos (by first | assumption | omega | rfl | exact B_pos (by omega)) ?_ | refine go_neg (by first | assumption | omega | decide | exact B_not (by omega)) ?_ | refine go_bind (by first | assumption) ?_ | dsimp only)); first | done | (with_reducible rfl) | simp (disch := omega) only [w64] | (show False; done)))
  have hlen : ∀ x : Int, 0 ≤ x → x < g.length → ((row g x).length : Int) = g.length := fun x x0 x1 => by rw [(ht x x0 x1).1]
  have hent : ∀ x y : Int, 0 ≤ x → x < g.length → 0 ≤ y → y < g.length → 0 ≤ T g x y ∧ T g x y < g.length := fun x y x0 x1 y0 y1 => (ht x x0 x1).2 y y0 (by rw [hlen x x0 x1]; exact y1)
  have l0 := hlen 0 (by omega) (by omega)
  have la := hlen a a0 a1
  by_cases h2 : T g 0 a = a
  rotate_left
  · refine ⟨fun h => absurd h.1 h2, fun _ => ?_⟩
    (rw [spec_l01Is.l2_eq])
    ((with_reducible repeat (first | refine go_pos (by first | assumption | omega | rfl | exact B_pos (by omega)) ?_ | refine go_neg (by first | assumption | omega | decide | exact B_not (by omega)) ?_ | refine go_bind (by first | assumption) ?_ | dsimp only)); first | done | (with_reducible rfl) | simp (disch := omega) only [w64] | (show False; done))
  by_cases h3 : T g a 0 = a
  rotate_left
  · refine ⟨fun h => absurd h.2.1 h3, fun _ => ?_⟩
    (rw [spec_l01Is.l2_eq])
    ((with_reducible repeat (first | refine go_pos (by first | assumption | omega | rfl | exact B_pos (by omega)) ?_ | refine go_neg (by first | assumption | omega | decide | exact B_not (by omega)) ?_ | refine go_bind (by first | assumption) ?_ | dsimp only)); first | done | (with_reducible rfl) | simp (disch := omega) only [w64] | (show False; done))
  let Fd : Int → Prop := fun b => ∃ j : Int, 0 ≤ j ∧ j < b ∧ T g a j = 0 ∧ T g j a = 0
  have fd0 : B (Fd 0) = false := B_neg fun ⟨j, j0, j1, _⟩ => by omega
  have inner := scan g.length (fun b => spec_l01Is.l3 (g.length : Int) a (B (Fd b)) b g) (fun b => ∀ c : Int, 0 ≤ c → c < g.length → T g (T g a b) c = T g a (T g b c)) (some false) (fun b b0 b1 _ => by
    obtain ⟨e0, e1⟩ := hent a b a0 a1 b0 b1
    have le := hlen _ e0 e1
    have lb := hlen b b0 b1
    have toj : spec_l01Is.l3 (g.length : Int) a (B (Fd b)) b g = spec_l01Is.l4 (g.length : Int) a (B (Fd (b + 1))) b 0 g := by
      by_cases k1 : Fd b
      · rw [B_pos k1, B_pos (show Fd (b + 1) from by obtain ⟨j, j0, j1, h⟩ := k1; exact ⟨j, j0, by omega, h⟩)]
        (rw [spec_l01Is.l3_eq])
        ((with_reducible repeat (first | refine go_pos (by first | assumption | omega | rfl | exact B_pos (by omega)) ?_ | refine go_neg (by first | assumption | omega | decide | exact B_not (by omega)) ?_ | refine go_bind (by first | assumption) ?_ | dsimp only)); first | done | (with_reducible rfl) | simp (disch := omega) only [w64] | (show False; done))
      · rw [B_neg k1]
        by_cases k2 : T g a b = 0
        · have e : B (Fd (b + 1)) = decide (T g b a = 0) := by
            by_cases k3 : T g b a = 0
            · rw [B_pos ⟨b, b0, by omega, k2, k3⟩]; simp [k3]
            · rw [B_neg]
              · simp [k3]
              · rintro ⟨j, j0, j1, ja, jb⟩
                by_cases ej : j = b
                · subst ej; exact k3 jb
                · exact k1 ⟨j, j0, by omega, ja, jb⟩
          rw [e]
          (rw [spec_l01Is.l3_eq])
          ((with_reducible repeat (first | refine go_pos (by first | assumption | omega | rfl | exact B_pos (by omega)) ?_ | refine go_neg (by first | assumption | omega | decide | exact B_not (by omega)) ?_ | refine go_bind (by first | assumption) ?_ | dsimp only)); first | done | (with_reducible rfl) | simp (disch := omega) only [w64] | (show False; done))
        · rw [B_neg (show ¬ Fd (b + 1) from by
            rintro ⟨j, j0, j1, ja, jb⟩
            by_cases ej : j = b
            · subst ej; exact k2 ja
            · exact k1 ⟨j, j0, by omega, ja, jb⟩)]
          (rw [spec_l01Is.l3_eq])
          ((with_reducible repeat (first | refine go_pos (by first | assumption | omega | rfl | exact B_pos (by omega)) ?_ | refine go_neg (by first | assumption | omega | decide | exact B_not (by omega)) ?_ | refine go_bind (by first | assumption) ?_ | dsimp only)); first | done | (with_reducible rfl) | simp (disch := omega) only [w64] | (show False; done))
    have inner4 := scanI g.length (fun c => spec_l01Is.l4 (g.length : Int) a (B (Fd (b + 1))) b c g) (fun c => T g (T g a b) c = T g a (T g b c)) (some false) (spec_l01Is.l3 (g.length : Int) a (B (Fd (b + 1))) (b + 1) g) (fun c c0 c1 _ => by
      obtain ⟨f0, f1⟩ := hent b c b0 b1 c0 c1
      refine ⟨fun h => ?_, fun h => ?_⟩ <;> (rw [spec_l01Is.l4_eq]) <;> ((with_reducible repeat (first | refine go_pos (by first | assumption | omega | rfl | exact B_pos (by omega)) ?_ | refine go_neg (by first | assumption | omega | decide | exact B_not (by omega)) ?_ | refine go_bind (by first | assumption) ?_ | dsimp only)); first | done | (with_reducible rfl) | simp (disch := omega) only [w64] | (show False; done))) (fun _ => by (rw [spec_l01Is.l4_eq]); ((with_reducible repeat (first | refine go_pos (by first | assumption | omega | rfl | exact B_pos (by omega)) ?_ | refine go_neg (by first | assumption | omega | decide | exact B_not (by omega)) ?_ | refine go_bind (by first | assumption) ?_ | dsimp only)); first | done | (with_reducible rfl) | simp (disch := omega) only [w64] | (show False; done)))
    exact ⟨fun h => toj.trans (inner4.1 h), fun h => toj.trans (inner4.2 h)⟩)
  have st : spec_l01Is.l2 (g.length : Int) a g = spec_l01Is.l3 (g.length : Int) a (B (Fd 0)) 0 g := by
    rw [fd0]
    (rw [spec_l01Is.l2_eq])
    ((with_reducible repeat (first | refine go_pos (by first | assumption | omega | rfl | exact B_pos (by omega)) ?_ | refine go_neg (by first | assumption | omega | decide | exact B_not (by omega)) ?_ | refine go_bind (by first | assumption) ?_ | dsimp only)); first | done | (with_reducible rfl) | simp (disch := omega) only [w64] | (show False; done))
  rw [st]
  rcases inner with ⟨h5, h6⟩ | ⟨b, b0, b1, _, h5, _, h6⟩
  · simp only [h6]
    by_cases h7 : Fd g.length
    · refine ⟨fun _ => ?_, fun h => absurd ⟨h2, h3, h5, h7⟩ h⟩
      rw [B_pos h7]
      (rw [spec_l01Is.l3_eq])
      ((with_reducible repeat (first | refine go_pos (by first | assumption | omega | rfl | exact B_pos (by omega)) ?_ | refine go_neg (by first | assumption | omega | decide | exact B_not (by omega)) ?_ | refine go_bind (by first | assumption) ?_ | dsimp only)); first | done | (with_reducible rfl) | simp (disch := omega) only [w64] | (show False; done))
    · refine ⟨fun h => absurd h.2.2.2 h7, fun h => ?_⟩
      rw [B_neg h7]
      (rw [spec_l01Is.l3_eq])
      ((with_reducible repeat (first | refine go_pos (by first | assumption | omega | rfl | exact B_pos (by omega)) ?_ | refine go_neg (by first | assumption | omega | decide | exact B_not (by omega)) ?_ | refine go_bind (by first | assumption) ?_ | dsimp only)); first | done | (with_reducible rfl) | simp (disch := omega) only [w64] | (show False; done))
  · exact ⟨fun h => absurd (h.2.2.1 b b0 b1) h5, fun _ => h6⟩
theorem gcd0 (y : Nat) : ∀ x : Nat, impl_gcd.l0 (x : Int) (y : Int) = some ((Nat.gcd x y : Nat) : Int) := by
  induction y using Nat.strongRecOn with
  | _ y ih =>
    intro x
    (rw [impl_gcd.l0_eq])
    by_cases h : y = 0
    · subst h
      simp
    · have e : Int.tmod (x : Int) (y : Int) = ((x % y : Nat) : Int) := by rw [Int.ofNat_tmod]
      have := ih (x % y) (Nat.mod_lt _ (by omega)) y
      rw [show Nat.gcd y (x % y) = Nat.gcd x y by rw [Nat.gcd_comm x y, Nat.gcd_rec y x, Nat.gcd_comm]] at this
      rw [e]
      (with_reducible repeat (first | refine go_pos (by first | assumption | omega | rfl | exact B_pos (by omega)) ?_ | refine go_neg (by first | assumption | omega | decide | exact B_not (by omega)) ?_ | refine go_bind (by first | assumption) ?_ | dsimp only))
      exact this
theorem gcd_ {a b : Int} (ha : 0 ≤ a) (hb : 0 ≤ b) : impl_gcd.f a b = some ((Int.gcd a b : Nat) : Int) := by
  obtain ⟨x, rfl⟩ := Int.eq_ofNat_of_zero_le ha
  obtain ⟨y, rfl⟩ := Int.eq_ofNat_of_zero_le hb
  have := gcd0 y x
  rw [impl_gcd.f_eq]
  simpa [Int.gcd] using this
theorem Gcd0 (y : Nat) : ∀ x : Nat, x ≤ 9223372036854775807 → y ≤ 9223372036854775807 → spec_l01Gcd.l0 (x : Int) (y : Int) = some ((Nat.gcd x y : Nat) : Int) := by
  induction y using Nat.strongRecOn with
  | _ y ih =>
    intro x hx hy
    (rw [spec_l01Gcd.l0_eq])
    by_cases h : y = 0
    · subst h
      have hw : wrapI (0 - (x : Int)) = -(x : Int) := by rw [w64 (by omega) (by omega)]; omega
      rw [hw, if_pos (by simp), if_neg (by omega)]
      simp
    · have e : Int.tmod (x : Int) (y : Int) = ((x % y : Nat) : Int) := by rw [Int.ofNat_tmod]
      have hlt := Nat.mod_lt x (show y > 0 by omega)
      have := ih (x % y) hlt y hy (by omega)
      rw [show Nat.gcd y (x % y) = Nat.gcd x y by rw [Nat.gcd_comm x y, Nat.gcd_rec y x, Nat.gcd_comm]] at this
      rw [e]
      (with_reducible repeat (first | refine go_pos (by first | assumption | omega | rfl | exact B_pos (by omega)) ?_ | refine go_neg (by first | assumption | omega | decide | exact B_not (by omega)) ?_ | refine go_bind (by first | assumption) ?_ | dsimp only))
      exact this
theorem Gcd_ {a b : Int} (ha : 0 ≤ a) (hb : 0 ≤ b) (ha' : a ≤ 9223372036854775807) (hb' : b ≤ 9223372036854775807) : spec_l01Gcd.f a b = some ((Int.gcd a b : Nat) : Int) := by
  obtain ⟨x, rfl⟩ := Int.eq_ofNat_of_zero_le ha
  obtain ⟨y, rfl⟩ := Int.eq_ofNat_of_zero_le hb
  have := Gcd0 y x (by omega) (by omega)
  rw [spec_l01Gcd.f_eq]
  simpa [Int.gcd] using this
theorem Grp.foldl_in {g : List (List Int)} (hg : Grp g) : ∀ (xs : List Int) (x : Int), AllIn g.length xs → 0 ≤ x → x < g.length → 0 ≤ xs.foldl (T g) x ∧ xs.foldl (T g) x < g.length := by
  intro xs
  induction xs with
  | nil => exact fun x _ a b => ⟨a, b⟩
  | cons y ys ih =>
    intro x hx x0 x1
    obtain ⟨y0, y1⟩ := hx.mem (List.mem_cons_self ..)
    obtain ⟨z0, z1⟩ := hg.ent x y x0 x1 y0 y1
    exact ih _ (allIn_of fun z hz => hx.mem (List.mem_cons_of_mem _ hz)) z0 z1
theorem take_rd {xs : List Int} {m : Nat} (h : m < xs.length) : xs.take (m + 1) = xs.take m ++ [rd xs m] := by
  rw [List.take_succ_eq_append_getElem h, rd_get h]
theorem times {g : List (List Int)} (hg : Grp g) (xs : List Int) (hx : AllIn g.length xs) (hl : xs.length ≤ maxLen) : impl_Group_times.f g xs = some (xs.foldl (T g) 0) := by
  have hm := maxLen_le
  have n1 := hg.n1
  rw [impl_Group_times.f_eq]
  have := up xs.length (fun i => impl_Group_times.l0 ((xs.take i).foldl (T g) 0) xs (xs.length : Int) (i : Int) g) (fun i hi => by
    obtain ⟨z0, z1⟩ := hg.foldl_in (xs.take i) 0 (hx.take i) (by omega) (by omega)
    obtain ⟨y0, y1⟩ := hx i (by omega) (by omega)
    have hr : ((row g ((xs.take i).foldl (T g) 0)).length : Int) = g.length := by rw [hg.row _ z0 z1]
    have hw : wrapI ((i : Int) + 1) = ((i + 1 : Nat) : Int) := by rw [w64 (by omega) (by omega)]; omega
    rw [take_rd hi, List.foldl_append, List.foldl_cons, List.foldl_nil]
    (rw [impl_Group_times.l0_eq, hw])
    ((with_reducible repeat (first | refine go_pos (by first | assumption | omega | rfl | exact B_pos (by omega)) ?_ | refine go_neg (by first | assumption | omega | decide | exact B_not (by omega)) ?_ | refine go_bind (by first | assumption) ?_ | dsimp only)); first | done | (with_reducible rfl) | simp (disch := omega) only [w64] | (show False; done)))
  simp only [List.take_zero, List.foldl_nil, List.take_length, Int.natCast_zero] at this
  rw [this]
  (rw [impl_Group_times.l0_eq])
  ((with_reducible repeat (first | refine go_pos (by first | assumption | omega | rfl | exact B_pos (by omega)) ?_ | refine go_neg (by first | assumption | omega | decide | exact B_not (by omega)) ?_ | refine go_bind (by first | assumption) ?_ | dsimp only)); first | done | (with_reducible rfl) | simp (disch := omega) only [w64] | (show False; done))
theorem times2 {g : List (List Int)} (hg : Grp g) {x y : Int} (x0 : 0 ≤ x) (x1 : x < g.length) (y0 : 0 ≤ y) (y1 : y < g.length) : impl_Group_times.f g [x, y] = some (T g x y) := by
  have := times hg [x, y] (allIn_two x0 x1 y0 y1) (by unfold maxLen; simp)
  simpa [hg.one x x0 x1] using this
end Go.Proofs.Ytpppnoliogdkiaa.V
set_option linter.unusedVariables false
set_option linter.unusedSimpArgs false
set_option maxHeartbeats 2000000
set_option maxRecDepth 20000
namespace Go.Proofs.Ytpppnoliogdkiaa.V
open Go.RowKit Go.Proofs.Ytpppnoliogdkiaa.D Go.Proofs.Ytpppnoliogdkiaa.P
structure Mdl (g : List (List Int)) (m : Int) (u : List Int) : Prop where
  m2 : 2 ≤ m
  m12 : m ≤ 12
  len : u.length = g.length
  unit : ∀ i : Int, 0 ≤ i → i < u.length → 1 ≤ rd u i ∧ rd u i < m ∧ Int.gcd (rd u i) m = 1
  hom : ∀ i : Int, 0 ≤ i → i < u.length → ∀ j : Int, 0 ≤ j → j < u.length → rd u (T g i j) = rd u i * rd u j % m
theorem unit_one : ∀ m : Nat, m ≤ 12 → ∀ u : Nat, u < m → Nat.gcd u m = 1 → u = u * u % m → 1 ≤ u → u = 1 := by decide
theorem Mdl.one {g : List (List Int)} {m : Int} {u : List Int} (hg : Grp g) (h : Mdl g m u) : rd u 0 = 1 := by
  have n1 := hg.n1
  have hl := h.len
  obtain ⟨a1, a2, a3⟩ := h.unit 0 (by omega) (by omega)
  have e := h.hom 0 (by omega) (by omega) 0 (by omega) (by omega)
  rw [hg.one 0 (by omega) (by omega)] at e
  have m2 := h.m2; have m12 := h.m12
  obtain ⟨M, rfl⟩ := Int.eq_ofNat_of_zero_le (show 0 ≤ m by omega)
  obtain ⟨U, hU⟩ := Int.eq_ofNat_of_zero_le (show 0 ≤ rd u 0 by omega)
  rw [hU] at a1 a2 a3 e ⊢
  have := unit_one M (by omega) U (by omega) (by simpa [Int.gcd] using a3) (by exact_mod_cast e) (by omega)
  omega
theorem mul_lt_small {a b m : Int} (a0 : 0 ≤ a) (a1 : a < m) (b0 : 0 ≤ b) (b1 : b < m) (hm : m ≤ 1000) : 0 ≤ a * b ∧ a * b ≤ 1000000 := by
  refine ⟨Int.mul_nonneg a0 b0, ?_⟩
  have h1 : a * b ≤ 1000 * b := Int.mul_le_mul_of_nonneg_right (by omega) b0
  omega
theorem Mdl.at {g : List (List Int)} {m : Int} {u : List Int} (h : Mdl g m u) {x : Int} (x0 : 0 ≤ x) (x1 : x < g.length) : 1 ≤ rd u x ∧ rd u x < m := by
  have hl := h.len
  obtain ⟨a, b, _⟩ := h.unit x x0 (by omega)
  exact ⟨a, b⟩
theorem small_prod {m x : Int} {u : List Int} {g : List (List Int)} (hm : Mdl g m u) (x0 : 0 ≤ x) (x1 : x < g.length) {b : Int} (b0 : 0 ≤ b) (b1 : b < m) : 0 ≤ rd u x * b ∧ rd u x * b ≤ 1000000 := by
  have m12 := hm.m12
  have := hm.at x0 x1
  exact mul_lt_small (by omega) this.2 b0 b1 (by omega)
theorem isUnit {m x : Int} (m0 : 0 ≤ m) : impl_isUnit.f m x = some (B (1 ≤ x ∧ x < m ∧ Int.gcd x m = 1)) := by
  rw [impl_isUnit.f_eq]
  by_cases h1 : 1 ≤ x ∧ x < m
  · have h := gcd_ m0 (show 0 ≤ x by omega)
    (with_reducible repeat (first | refine go_pos (by first | assumption | omega | rfl | exact B_pos (by omega)) ?_ | refine go_neg (by first | assumption | omega | decide | exact B_not (by omega)) ?_ | refine go_bind (by first | assumption) ?_ | dsimp only))
    rw [Int.gcd_comm]
    by_cases h3 : Int.gcd x m = 1
    · rw [B_pos ⟨h1.1, h1.2, h3⟩]; simp [h3]
    · rw [B_neg fun h => h3 h.2.2]
      simp; omega
  · rw [B_neg fun h => h1 ⟨h.1, h.2.1⟩]
    by_cases h2 : 1 ≤ x <;> ((with_reducible repeat (first | refine go_pos (by first | assumption | omega | rfl | exact B_pos (by omega)) ?_ | refine go_neg (by first | assumption | omega | decide | exact B_not (by omega)) ?_ | refine go_bind (by first | assumption) ?_ | dsimp only)); first | done | (with_reducible rfl) | simp (disch := omega) only [w64] | (show False; done))
theorem isModulus (m : Int) : impl_isModulus.f m = some (B (2 ≤ m ∧ m ≤ 12)) := by
  rw [impl_isModulus.f_eq]
  by_cases h : m ≥ 2
  · rw [if_pos h, B_decide, B_congr (show m ≤ 12 ↔ (2 ≤ m ∧ m ≤ 12) from ⟨fun h' => ⟨h, h'⟩, fun h' => h'.2⟩)]
  · rw [if_neg h, B_neg (fun h' => h h'.1)]
theorem mdl_iff (g : List (List Int)) (m : Int) (u : List Int) : Mdl g m u ↔ (2 ≤ m ∧ m ≤ 12) ∧ u.length = g.length ∧ (∀ i : Int, 0 ≤ i → i < u.length → 1 ≤ rd u i ∧ rd u i < m ∧ Int.gcd (rd u i) m = 1) ∧ ∀ i : Int, 0 ≤ i → i < u.length → ∀ j : Int, 0 ≤ j → j < u.length → rd u (T g i j) = rd u i * rd u j % m :=
  ⟨fun h => ⟨⟨h.m2, h.m12⟩, h.len, h.unit, h.hom⟩, fun ⟨⟨a, b⟩, c, d, e⟩ => ⟨a, b, c, d, e⟩⟩
theorem isModule {g : List (List Int)} (hg : Grp g) (m : Int) (u : List Int) (hl : u.length ≤ maxLen) : impl_isModule.f g m u = some (B (Mdl g m u)) := by
  have hm := maxLen_le
  have n1 := hg.n1
  (rw [impl_isModule.f_eq])
  by_cases h1 : 2 ≤ m ∧ m ≤ 12
  rotate_left
  · rw [B_neg fun h => h1 ⟨h.m2, h.m12⟩]
    ((with_reducible repeat (first | refine go_pos (by first | assumption | omega | rfl | exact B_pos (by omega)) ?_ | refine go_neg (by first | assumption | omega | decide | exact B_not (by omega)) ?_ | refine go_bind (by first | assumption | exact isModulus _ | exact impl_order.f_eq _) ?_ | dsimp only)); first | done | (with_reducible rfl) | simp (disch := omega) only [w64] | (show False; done))
  by_cases h3 : (u.length : Int) = g.length
  rotate_left
  · rw [B_neg fun h => h3 (by rw [h.len])]
    ((with_reducible repeat (first | refine go_pos (by first | assumption | omega | rfl | exact B_pos (by omega)) ?_ | refine go_neg (by first | assumption | omega | decide | exact B_not (by omega)) ?_ | refine go_bind (by first | assumption | exact isModulus _ | exact impl_order.f_eq _) ?_ | dsimp only)); first | done | (with_reducible rfl) | simp (disch := omega) only [w64] | (show False; done))
  by_cases h5 : rd u 0 = 1
  rotate_left
  · rw [B_neg fun h => h5 (h.one hg)]
    ((with_reducible repeat (first | refine go_pos (by first | assumption | omega | rfl | exact B_pos (by omega)) ?_ | refine go_neg (by first | assumption | omega | decide | exact B_not (by omega)) ?_ | refine go_bind (by first | assumption | exact isModulus _ | exact impl_order.f_eq _) ?_ | dsimp only)); first | done | (with_reducible rfl) | simp (disch := omega) only [w64] | (show False; done))
  (with_reducible repeat (first | refine go_pos (by first | assumption | omega | rfl | exact B_pos (by omega)) ?_ | refine go_neg (by first | assumption | omega | decide | exact B_not (by omega)) ?_ | refine go_bind (by first | assumption | exact isModulus _ | exact impl_order.f_eq _) ?_ | dsimp only))
  rw [B_congr (mdl_iff g m u), B_congr (show ((2 ≤ m ∧ m ≤ 12) ∧ u.length = g.length ∧ (∀ i : Int, 0 ≤ i → i < u.length → 1 ≤ rd u i ∧ rd u i < m ∧ Int.gcd (rd u i) m = 1) ∧ ∀ i : Int, 0 ≤ i → i < u.length → ∀ j : Int, 0 ≤ j → j < u.length → rd u (T g i j) = rd u i * rd u j % m) ↔ _ from ⟨fun h => h.2.2, fun h => ⟨h1, by omega, h⟩⟩)]
  refine scanB u.length (fun i => impl_isModule.l0 u (u.length : Int) i g m u) (fun i => 1 ≤ rd u i ∧ rd u i < m ∧ Int.gcd (rd u i) m = 1) _ (fun i i0 i1 _ => ?_) (fun hu => ?_)
  · have hu := isUnit (m := m) (x := rd u i) (by omega)
    refine ⟨fun h => ?_, fun h => ?_⟩ <;> (rw [impl_isModule.l0_eq]) <;> ((with_reducible repeat (first | refine go_pos (by first | assumption | omega | rfl | exact B_pos (by omega)) ?_ | refine go_neg (by first | assumption | omega | decide | exact B_not (by omega)) ?_ | refine go_bind (by first | assumption) ?_ | dsimp only)); first | done | (with_reducible rfl) | simp (disch := omega) only [w64] | (show False; done))
  (rw [impl_isModule.l0_eq])
  (with_reducible repeat (first | refine go_pos (by first | assumption | omega | rfl | exact B_pos (by omega)) ?_ | refine go_neg (by first | assumption | omega | decide | exact B_not (by omega)) ?_ | refine go_bind (by first | assumption | exact impl_order.f_eq _) ?_ | dsimp only))
  rw [← h3]
  refine scanT u.length (fun i => impl_isModule.l1 (u.length : Int) i g m u) (fun i => ∀ j : Int, 0 ≤ j → j < u.length → rd u (T g i j) = rd u i * rd u j % m) (fun i i0 i1 _ => ?_) (fun _ => by (rw [impl_isModule.l1_eq]); ((with_reducible repeat (first | refine go_pos (by first | assumption | omega | rfl | exact B_pos (by omega)) ?_ | refine go_neg (by first | assumption | omega | decide | exact B_not (by omega)) ?_ | refine go_bind (by first | assumption) ?_ | dsimp only)); first | done | (with_reducible rfl) | simp (disch := omega) only [w64] | (show False; done)))
  have inner := scanI u.length (fun j => impl_isModule.l2 i (u.length : Int) i (u.length : Int) j g m u) (fun j => rd u (T g i j) = rd u i * rd u j % m) (some false) (impl_isModule.l1 (u.length : Int) (i + 1) g m u) (fun j j0 j1 _ => by
    have ht := times2 hg i0 (by omega) j0 (by omega)
    obtain ⟨e0, e1⟩ := hg.ent i j i0 (by omega) j0 (by omega)
    obtain ⟨p0, p1⟩ := mul_lt_small (show 0 ≤ rd u i by have := (hu i i0 i1).1; omega) (hu i i0 i1).2.1 (show 0 ≤ rd u j by have := (hu j j0 j1).1; omega) (hu j j0 j1).2.1 (by omega)
    have hwp : wrapI (rd u i * rd u j) = rd u i * rd u j := w64 (by omega) (by omega)
    have e := tmod_nn (m := m) p0
    refine ⟨fun h => ?_, fun h => ?_⟩ <;> (rw [impl_isModule.l2_eq, hwp, e]) <;> ((with_reducible repeat (first | refine go_pos (by first | assumption | omega | rfl | exact B_pos (by omega)) ?_ | refine go_neg (by first | assumption | omega | decide | exact B_not (by omega)) ?_ | refine go_bind (by first | assumption) ?_ | dsimp only)); first | done | (with_reducible rfl) | simp (disch := omega) only [w64] | (show False; done))) (fun _ => by (rw [impl_isModule.l2_eq]); ((with_reducible repeat (first | refine go_pos (by first | assumption | omega | rfl | exact B_pos (by omega)) ?_ | refine go_neg (by first | assumption | omega | decide | exact B_not (by omega)) ?_ | refine go_bind (by first | assumption) ?_ | dsimp only)); first | done | (with_reducible rfl) | simp (disch := omega) only [w64] | (show False; done)))
  refine ⟨fun h => ?_, fun h => ?_⟩ <;> (rw [impl_isModule.l1_eq]) <;> (with_reducible repeat (first | refine go_pos (by first | assumption | omega | rfl | exact B_pos (by omega)) ?_ | refine go_neg (by first | assumption | omega | decide | exact B_not (by omega)) ?_ | refine go_bind (by first | assumption | exact impl_order.f_eq _) ?_ | dsimp only)) <;> rw [← h3]
  · exact inner.1 h
  · exact inner.2 h
theorem Is02 {g : List (List Int)} (hg : Grp g) (m : Int) (u : List Int) (hl : u.length ≤ maxLen) : spec_l02Is.f g m u = some (B (Mdl g m u)) := by
  have hm := maxLen_le
  have n1 := hg.n1
  (rw [spec_l02Is.f_eq])
  by_cases h1 : 2 ≤ m ∧ m ≤ 12
  rotate_left
  · rw [B_neg fun h => h1 ⟨h.m2, h.m12⟩]
    ((with_reducible repeat (first | refine go_pos (by first | assumption | omega | rfl | exact B_pos (by omega)) ?_ | refine go_neg (by first | assumption | omega | decide | exact B_not (by omega)) ?_ | refine go_bind (by first | assumption | exact In_ _ _ _) ?_ | dsimp only)); first | done | (with_reducible rfl) | simp (disch := omega) only [w64] | (show False; done))
  by_cases h3 : (u.length : Int) = g.length
  rotate_left
  · rw [B_neg fun h => h3 (by rw [h.len])]
    ((with_reducible repeat (first | refine go_pos (by first | assumption | omega | rfl | exact B_pos (by omega)) ?_ | refine go_neg (by first | assumption | omega | decide | exact B_not (by omega)) ?_ | refine go_bind (by first | assumption | exact In_ _ _ _) ?_ | dsimp only)); first | done | (with_reducible rfl) | simp (disch := omega) only [w64] | (show False; done))
  (with_reducible repeat (first | refine go_pos (by first | assumption | omega | rfl | exact B_pos (by omega)) ?_ | refine go_neg (by first | assumption | omega | decide | exact B_not (by omega)) ?_ | refine go_bind (by first | assumption | exact In_ _ _ _) ?_ | dsimp only))
  rw [B_congr (mdl_iff g m u), B_congr (show ((2 ≤ m ∧ m ≤ 12) ∧ u.length = g.length ∧ (∀ i : Int, 0 ≤ i → i < u.length → 1 ≤ rd u i ∧ rd u i < m ∧ Int.gcd (rd u i) m = 1) ∧ ∀ i : Int, 0 ≤ i → i < u.length → ∀ j : Int, 0 ≤ j → j < u.length → rd u (T g i j) = rd u i * rd u j % m) ↔ _ from ⟨fun h => h.2.2, fun h => ⟨h1, by omega, h⟩⟩)]
  have hw1 : wrapI (m - 1) = m - 1 := w64 (by omega) (by omega)
  refine scanB u.length (fun i => spec_l02Is.l0 i g m u) (fun i => 1 ≤ rd u i ∧ rd u i < m ∧ Int.gcd (rd u i) m = 1) _ (fun i i0 i1 _ => ?_) (fun hu => ?_)
  · refine ⟨fun h => ?_, fun h => ?_⟩ <;> (rw [spec_l02Is.l0_eq, hw1])
    · have hgc := Gcd_ (a := rd u i) (b := m) (by omega) (by omega) (by omega) (by omega)
      ((with_reducible repeat (first | refine go_pos (by first | assumption | omega | rfl | exact B_pos (by omega)) ?_ | refine go_neg (by first | assumption | omega | decide | exact B_not (by omega)) ?_ | refine go_bind (by first | assumption | exact In_ _ _ _) ?_ | dsimp only)); first | done | (with_reducible rfl) | simp (disch := omega) only [w64] | (show False; done))
    · by_cases h6 : 1 ≤ rd u i ∧ rd u i < m
      · have hgc := Gcd_ (a := rd u i) (b := m) (by omega) (by omega) (by omega) (by omega)
        ((with_reducible repeat (first | refine go_pos (by first | assumption | omega | rfl | exact B_pos (by omega)) ?_ | refine go_neg (by first | assumption | omega | decide | exact B_not (by omega)) ?_ | refine go_bind (by first | assumption | exact In_ _ _ _) ?_ | dsimp only)); first | done | (with_reducible rfl) | simp (disch := omega) only [w64] | (show False; done))
      · ((with_reducible repeat (first | refine go_pos (by first | assumption | omega | rfl | exact B_pos (by omega)) ?_ | refine go_neg (by first | assumption | omega | decide | exact B_not (by omega)) ?_ | refine go_bind (by first | assumption | exact In_ _ _ _) ?_ | dsimp only)); first | done | (with_reducible rfl) | simp (disch := omega) only [w64] | (show False; done))
  (rw [spec_l02Is.l0_eq])
  (with_reducible repeat (first | refine go_pos (by first | assumption | omega | rfl | exact B_pos (by omega)) ?_ | refine go_neg (by first | assumption | omega | decide | exact B_not (by omega)) ?_ | refine go_bind (by first | assumption) ?_ | dsimp only))
  refine scanT u.length (fun i => spec_l02Is.l1 i g m u) (fun i => ∀ j : Int, 0 ≤ j → j < u.length → rd u (T g i j) = rd u i * rd u j % m) (fun i i0 i1 _ => ?_) (fun _ => by (rw [spec_l02Is.l1_eq]); ((with_reducible repeat (first | refine go_pos (by first | assumption | omega | rfl | exact B_pos (by omega)) ?_ | refine go_neg (by first | assumption | omega | decide | exact B_not (by omega)) ?_ | refine go_bind (by first | assumption) ?_ | dsimp only)); first | done | (with_reducible rfl) | simp (disch := omega) only [w64] | (show False; done)))
  have ri := hg.row i i0 (by omega)
  have inner := scanI u.length (fun j => spec_l02Is.l2 i j g m u) (fun j => rd u (T g i j) = rd u i * rd u j % m) (some false) (spec_l02Is.l1 (i + 1) g m u) (fun j j0 j1 _ => by
    obtain ⟨e0, e1⟩ := hg.ent i j i0 (by omega) j0 (by omega)
    obtain ⟨p0, p1⟩ := mul_lt_small (show 0 ≤ rd u i by have := (hu i i0 i1).1; omega) (hu i i0 i1).2.1 (show 0 ≤ rd u j by have := (hu j j0 j1).1; omega) (hu j j0 j1).2.1 (by omega)
    have hwp : wrapI (rd u i * rd u j) = rd u i * rd u j := w64 (by omega) (by omega)
    have e := tmod_nn (m := m) p0
    refine ⟨fun h => ?_, fun h => ?_⟩ <;> (rw [spec_l02Is.l2_eq, hwp, e]) <;> ((with_reducible repeat (first | refine go_pos (by first | assumption | omega | rfl | exact B_pos (by omega)) ?_ | refine go_neg (by first | assumption | omega | decide | exact B_not (by omega)) ?_ | refine go_bind (by first | assumption) ?_ | dsimp only)); first | done | (with_reducible rfl) | simp (disch := omega) only [w64] | (show False; done))) (fun _ => by (rw [spec_l02Is.l2_eq]); ((with_reducible repeat (first | refine go_pos (by first | assumption | omega | rfl | exact B_pos (by omega)) ?_ | refine go_neg (by first | assumption | omega | decide | exact B_not (by omega)) ?_ | refine go_bind (by first | assumption) ?_ | dsimp only)); first | done | (with_reducible rfl) | simp (disch := omega) only [w64] | (show False; done)))
  refine ⟨fun h => ?_, fun h => ?_⟩ <;> (rw [spec_l02Is.l1_eq]) <;> (with_reducible repeat (first | refine go_pos (by first | assumption | omega | rfl | exact B_pos (by omega)) ?_ | refine go_neg (by first | assumption | omega | decide | exact B_not (by omega)) ?_ | refine go_bind (by first | assumption) ?_ | dsimp only))
  · exact inner.1 h
  · exact inner.2 h
def GM (g : List (List Int)) (m : Int) (u : List Int) : Prop := Grp g ∧ Mdl g m u
theorem areModules1 (g : List (List Int)) (hl : g.length ≤ maxLen) (hr : ∀ r ∈ g, r.length ≤ maxLen) (m : Int) (u : List Int) (hu : u.length ≤ maxLen) : impl_areModules.f g [(m, u)] = some (B (GM g m u)) := by
  have hG := isGroup g hl hr
  rw [impl_areModules.f_eq]
  have st : impl_areModules.l0 [(m, u)] (([(m, u)] : List (Int × List Int)).length : Int) 1 g = some true := by (rw [impl_areModules.l0_eq]); exact if_neg (by simp)
  (rw [impl_areModules.l0_eq])
  rw [if_pos (by simp), if_pos (by simp), if_pos (by simp), hG]
  by_cases h1 : Grp g
  · have hM := isModule h1 m u hu
    rw [B_pos h1]
    show (Option.bind (impl_isModule.f g m u) _) = _
    rw [hM]
    by_cases h2 : Mdl g m u
    · rw [B_pos h2, B_pos ⟨h1, h2⟩]
      simpa [show wrapI 1 = 1 from w64 (by omega) (by omega)] using st
    · rw [B_neg h2, B_neg fun h => h2 h.2]
      rfl
  · rw [B_neg h1, B_neg fun h => h1 h.1]
    rfl
end Go.Proofs.Ytpppnoliogdkiaa.V
