/- What the proof of the law CentreOfExtension stands on, part 4: words, each Go function's Lean function, and that the Go code comes to its answers; no condition. (Packed by wip/myprint/pack.py out of what the kit's printer wrote, its words among it, partly by our patches of it, and out of texts of this session.) -/
import Derived.Test.YtdiadcmkddkjpaaKCentreOfExtension3
set_option linter.unusedVariables false
namespace Go.Proofs.Ytdiadcmkddkjpaa.P
open Go Go.RowKit Go.Proofs.Ytdiadcmkddkjpaa.D
noncomputable def impl_isModule.E : Env := { tt := TT, con := [(144, impl_isModulus.con), (68, impl_order.con), (145, impl_isUnit.con), (122, impl_Group_times.con)], frz := [], rows := [], live := [(4, [2, 3, 29, 30, 31]), (10, [2, 3, 42, 43]), (13, [2, 3, 7, 42, 43, 47, 48])], n := 77, pin := 0, nils := [] }
noncomputable def impl_isModule.fn : D.Fn := { body := Try.f123.body.getD .skip, res := Try.f123.results.toList, ins := [.agg [.v (.sl 25 (.sl 2 (.int .i64)))], .agg [.v (.int .i64), .v (.sl 2 (.int .i64))]], outs := [.one (.v .bool)] }
def impl_isModule.enc (y : lsd (flats impl_isModule.fn.outs) × lsd (ios impl_isModule.fn.ins)) : Bool := y.1.1
noncomputable def impl_isModule.f (l0_0 : List (List Int)) (a1_0 : Int) (l1_1 : List Int) : Option Bool := denF impl_isModule.E impl_isModule.fn impl_isModule.enc (l0_0, a1_0, l1_1, ())
noncomputable def impl_isModule.l0 (x29 : List Int) (x30 : Int) (x31 : Int) (b0_0 : List (List Int)) (b1_0 : Int) (b1_1 : List Int) : Option Bool := denAt impl_isModule.E impl_isModule.fn impl_isModule.enc [1, 1, 0, 1, 0] { fr := [(2, .lf (.box 0 0)), (3, .lf (.box 1 0)), (29, .lf (.sl (.int .i64) x29)), (30, .lf (.int .i64 x30)), (31, .lf (.int .i64 x31))], ob := [(0, .box 32 false [.sl (.sl 2 (.int .i64)) b0_0]), (1, .box 34 false [.int .i64 b1_0, .sl (.int .i64) b1_1])], nx := 2 }
noncomputable def impl_isModule.l1 (x42 : Int) (x43 : Int) (b0_0 : List (List Int)) (b1_0 : Int) (b1_1 : List Int) : Option Bool := denAt impl_isModule.E impl_isModule.fn impl_isModule.enc [1, 1, 1, 0, 1, 0] { fr := [(2, .lf (.box 0 0)), (3, .lf (.box 1 0)), (42, .lf (.int .i64 x42)), (43, .lf (.int .i64 x43))], ob := [(0, .box 32 false [.sl (.sl 2 (.int .i64)) b0_0]), (1, .box 34 false [.int .i64 b1_0, .sl (.int .i64) b1_1])], nx := 2 }
noncomputable def impl_isModule.l2 (x7 : Int) (x42 : Int) (x43 : Int) (x47 : Int) (x48 : Int) (b0_0 : List (List Int)) (b1_0 : Int) (b1_1 : List Int) : Option Bool := denAt impl_isModule.E impl_isModule.fn impl_isModule.enc [1, 1, 1, 0, 1, 0, 0, 1, 1, 0, 0, 1, 1, 0] { fr := [(2, .lf (.box 0 0)), (3, .lf (.box 1 0)), (7, .lf (.int .i64 x7)), (42, .lf (.int .i64 x42)), (43, .lf (.int .i64 x43)), (47, .lf (.int .i64 x47)), (48, .lf (.int .i64 x48))], ob := [(0, .box 32 false [.sl (.sl 2 (.int .i64)) b0_0]), (1, .box 34 false [.int .i64 b1_0, .sl (.int .i64) b1_1])], nx := 2 }
set_option maxRecDepth 100000 in
theorem impl_isModule.f_eq (l0_0 : List (List Int)) (a1_0 : Int) (l1_1 : List Int) : impl_isModule.f l0_0 a1_0 l1_1 = (impl_isModulus.f a1_0).bind fun t11 => if t11 = true then ((impl_order.f l0_0).bind fun t18 => if (l1_1.length : Int) = t18 then (if 0 < (l1_1.length : Int) then (if (rd l1_1 0) = 1 then (impl_isModule.l0 l1_1 (l1_1.length : Int) 0 l0_0 a1_0 l1_1) else (some false)) else none) else (some false)) else (some false) := by kernel_rfl
set_option maxRecDepth 100000 in
theorem impl_isModule.l0_eq (x29 : List Int) (x30 : Int) (x31 : Int) (b0_0 : List (List Int)) (b1_0 : Int) (b1_1 : List Int) : impl_isModule.l0 x29 x30 x31 b0_0 b1_0 b1_1 = if x31 < x30 then (if 0 ≤ x31 then (if x31 < (x29.length : Int) then ((impl_isUnit.f b1_0 (rd x29 x31)).bind fun t38 => if t38 = true then (impl_isModule.l0 x29 x30 (wrapI (x31 + 1)) b0_0 b1_0 b1_1) else (some false)) else none) else none) else ((impl_order.f b0_0).bind fun t42 => impl_isModule.l1 t42 0 b0_0 b1_0 b1_1) := (loop_unfold _ _ _ _).trans (by kernel_rfl)
set_option maxRecDepth 100000 in
theorem impl_isModule.l1_eq (x42 : Int) (x43 : Int) (b0_0 : List (List Int)) (b1_0 : Int) (b1_1 : List Int) : impl_isModule.l1 x42 x43 b0_0 b1_0 b1_1 = if x43 < x42 then ((impl_order.f b0_0).bind fun t47 => impl_isModule.l2 x43 x42 x43 t47 0 b0_0 b1_0 b1_1) else (some true) := (loop_unfold _ _ _ _).trans (by kernel_rfl)
set_option maxRecDepth 100000 in
theorem impl_isModule.l2_eq (x7 : Int) (x42 : Int) (x43 : Int) (x47 : Int) (x48 : Int) (b0_0 : List (List Int)) (b1_0 : Int) (b1_1 : List Int) : impl_isModule.l2 x7 x42 x43 x47 x48 b0_0 b1_0 b1_1 = if x48 < x47 then ((impl_Group_times.f b0_0 ([x7, x48] : List Int)).bind fun t57 => if 0 ≤ t57 then (if t57 < (b1_1.length : Int) then (if 0 ≤ x7 then (if x7 < (b1_1.length : Int) then (if 0 ≤ x48 then (if x48 < (b1_1.length : Int) then (if b1_0 = 0 then none else (if (rd b1_1 t57) = ((wrapI ((rd b1_1 x7) * (rd b1_1 x48)) : Int).tmod b1_0) then (impl_isModule.l2 x7 x42 x43 x47 (wrapI (x48 + 1)) b0_0 b1_0 b1_1) else (some false))) else none) else none) else none) else none) else none) else none) else (impl_isModule.l1 x42 (wrapI (x43 + 1)) b0_0 b1_0 b1_1) := (loop_unfold _ _ _ _).trans (by kernel_rfl)
noncomputable def impl_isModule.con : Con := ⟨impl_isModule.fn.ins, impl_isModule.fn.outs, Bool, fun x => impl_isModule.f x.1 x.2.1 x.2.2.1, fun r => ((r, ()), (()))⟩
theorem impl_isModule.valid : Valid Try.prog 123 impl_isModule.con := fn_valid (f := impl_isModule.fn) (E := impl_isModule.E) (enc := impl_isModule.enc) ⟨ttOk, (conCons impl_isModulus.valid (conCons impl_order.valid (conCons impl_isUnit.valid (conCons impl_Group_times.valid conNil))))⟩ (Checked.mixed Try.checked) ⟨Try.func123, by kernel_rfl, by kernel_rfl, by kernel_rfl, by kernel_rfl, by decide, by kernel_rfl, by kernel_rfl⟩ (fun _ => rfl)
end Go.Proofs.Ytdiadcmkddkjpaa.P
set_option linter.unusedVariables false
namespace Go.Proofs.Ytdiadcmkddkjpaa.P
open Go Go.RowKit Go.Proofs.Ytdiadcmkddkjpaa.D
noncomputable def impl_areModules.E : Env := { tt := TT, con := [(94, impl_IsGroup.con), (123, impl_isModule.con)], frz := [], rows := [], live := [(2, [2, 7, 8, 9])], n := 23, pin := 0, nils := [] }
noncomputable def impl_areModules.fn : D.Fn := { body := Try.f80.body.getD .skip, res := Try.f80.results.toList, ins := [.agg [.v (.sl 25 (.sl 2 (.int .i64)))], .one (.v (.sl 34 (.pr (.int .i64) (.sl 2 (.int .i64)))))], outs := [.one (.v .bool)] }
def impl_areModules.enc (y : lsd (flats impl_areModules.fn.outs) × lsd (ios impl_areModules.fn.ins)) : Bool := y.1.1
noncomputable def impl_areModules.f (l0_0 : List (List Int)) (l1 : List (Int × (List Int))) : Option Bool := denF impl_areModules.E impl_areModules.fn impl_areModules.enc (l0_0, l1, ())
noncomputable def impl_areModules.l0 (x7 : List (Int × (List Int))) (x8 : Int) (x9 : Int) (b0_0 : List (List Int)) : Option Bool := denAt impl_areModules.E impl_areModules.fn impl_areModules.enc [1, 0, 1, 0] { fr := [(2, .lf (.box 0 0)), (7, .lf (.sl (.pr (.int .i64) (.sl 2 (.int .i64))) x7)), (8, .lf (.int .i64 x8)), (9, .lf (.int .i64 x9))], ob := [(0, .box 32 false [.sl (.sl 2 (.int .i64)) b0_0])], nx := 1 }
set_option maxRecDepth 100000 in
theorem impl_areModules.f_eq (l0_0 : List (List Int)) (l1 : List (Int × (List Int))) : impl_areModules.f l0_0 l1 = impl_areModules.l0 l1 (l1.length : Int) 0 l0_0 := by kernel_rfl
set_option maxRecDepth 100000 in
theorem impl_areModules.l0_eq (x7 : List (Int × (List Int))) (x8 : Int) (x9 : Int) (b0_0 : List (List Int)) : impl_areModules.l0 x7 x8 x9 b0_0 = if x9 < x8 then (if 0 ≤ x9 then (if x9 < (x7.length : Int) then ((impl_IsGroup.f b0_0).bind fun t14 => if t14 = true then ((impl_isModule.f b0_0 ((Ty.rd (.pr (.int .i64) (.sl 2 (.int .i64))) x7 x9).1) ((Ty.rd (.pr (.int .i64) (.sl 2 (.int .i64))) x7 x9).2)).bind fun t19 => if t19 = true then (impl_areModules.l0 x7 x8 (wrapI (x9 + 1)) b0_0) else (some false)) else (some false)) else none) else none) else (some true) := (loop_unfold _ _ _ _).trans (by kernel_rfl)
noncomputable def impl_areModules.con : Con := ⟨impl_areModules.fn.ins, impl_areModules.fn.outs, Bool, fun x => impl_areModules.f x.1 x.2.1, fun r => ((r, ()), (()))⟩
theorem impl_areModules.valid : Valid Try.prog 80 impl_areModules.con := fn_valid (f := impl_areModules.fn) (E := impl_areModules.E) (enc := impl_areModules.enc) ⟨ttOk, (conCons impl_IsGroup.valid (conCons impl_isModule.valid conNil))⟩ (Checked.mixed Try.checked) ⟨Try.func80, by kernel_rfl, by kernel_rfl, by kernel_rfl, by kernel_rfl, by decide, by kernel_rfl, by kernel_rfl⟩ (fun _ => rfl)
end Go.Proofs.Ytdiadcmkddkjpaa.P
set_option linter.unusedVariables false
namespace Go.Proofs.Ytdiadcmkddkjpaa.P
open Go Go.RowKit Go.Proofs.Ytdiadcmkddkjpaa.D
noncomputable def impl_isDegree.E : Env := { tt := TT, con := [], frz := [], rows := [], live := [], n := 9, pin := 0, nils := [] }
noncomputable def impl_isDegree.fn : D.Fn := { body := Try.f124.body.getD .skip, res := Try.f124.results.toList, ins := [.one (.v (.int .i64))], outs := [.one (.v .bool)] }
def impl_isDegree.enc (y : lsd (flats impl_isDegree.fn.outs) × lsd (ios impl_isDegree.fn.ins)) : Bool := y.1.1
noncomputable def impl_isDegree.f (a0 : Int) : Option Bool := denF impl_isDegree.E impl_isDegree.fn impl_isDegree.enc (a0, ())
set_option maxRecDepth 100000 in
theorem impl_isDegree.f_eq (a0 : Int) : impl_isDegree.f a0 = if a0 ≥ 0 then (some (decide (a0 ≤ 3))) else (some false) := by kernel_rfl
noncomputable def impl_isDegree.con : Con := ⟨impl_isDegree.fn.ins, impl_isDegree.fn.outs, Bool, fun x => impl_isDegree.f x.1, fun r => ((r, ()), (()))⟩
theorem impl_isDegree.valid : Valid Try.prog 124 impl_isDegree.con := fn_valid (f := impl_isDegree.fn) (E := impl_isDegree.E) (enc := impl_isDegree.enc) ⟨ttOk, conNil⟩ (Checked.mixed Try.checked) ⟨Try.func124, by kernel_rfl, by kernel_rfl, by kernel_rfl, by kernel_rfl, by decide, by kernel_rfl, by kernel_rfl⟩ (fun _ => rfl)
end Go.Proofs.Ytdiadcmkddkjpaa.P
set_option linter.unusedVariables false
namespace Go.Proofs.Ytdiadcmkddkjpaa.P
open Go Go.RowKit Go.Proofs.Ytdiadcmkddkjpaa.D
noncomputable def impl_power.E : Env := { tt := TT, con := [], frz := [], rows := [], live := [(3, [0, 5, 6, 7])], n := 14, pin := 0, nils := [] }
noncomputable def impl_power.fn : D.Fn := { body := Try.f146.body.getD .skip, res := Try.f146.results.toList, ins := [.one (.v (.int .i64)), .one (.v (.int .i64))], outs := [.one (.v (.int .i64))] }
def impl_power.enc (y : lsd (flats impl_power.fn.outs) × lsd (ios impl_power.fn.ins)) : Int := y.1.1
noncomputable def impl_power.f (a0 : Int) (a1 : Int) : Option Int := denF impl_power.E impl_power.fn impl_power.enc (a0, a1, ())
noncomputable def impl_power.l0 (x0 : Int) (x5 : Int) (x6 : Int) (x7 : Int) : Option Int := denAt impl_power.E impl_power.fn impl_power.enc [1, 1, 0, 1, 0] { fr := [(0, .lf (.int .i64 x0)), (5, .lf (.int .i64 x5)), (6, .lf (.int .i64 x6)), (7, .lf (.int .i64 x7))], ob := [], nx := 0 }
set_option maxRecDepth 100000 in
theorem impl_power.f_eq (a0 : Int) (a1 : Int) : impl_power.f a0 a1 = impl_power.l0 a0 1 a1 0 := by kernel_rfl
set_option maxRecDepth 100000 in
theorem impl_power.l0_eq (x0 : Int) (x5 : Int) (x6 : Int) (x7 : Int) : impl_power.l0 x0 x5 x6 x7 = if x7 < x6 then (impl_power.l0 x0 (wrapI (x5 * x0)) x6 (wrapI (x7 + 1))) else (some x5) := (loop_unfold _ _ _ _).trans (by kernel_rfl)
noncomputable def impl_power.con : Con := ⟨impl_power.fn.ins, impl_power.fn.outs, Int, fun x => impl_power.f x.1 x.2.1, fun r => ((r, ()), (()))⟩
theorem impl_power.valid : Valid Try.prog 146 impl_power.con := fn_valid (f := impl_power.fn) (E := impl_power.E) (enc := impl_power.enc) ⟨ttOk, conNil⟩ (Checked.mixed Try.checked) ⟨Try.func146, by kernel_rfl, by kernel_rfl, by kernel_rfl, by kernel_rfl, by decide, by kernel_rfl, by kernel_rfl⟩ (fun _ => rfl)
end Go.Proofs.Ytdiadcmkddkjpaa.P
set_option linter.unusedVariables false
namespace Go.Proofs.Ytdiadcmkddkjpaa.P
open Go Go.RowKit Go.Proofs.Ytdiadcmkddkjpaa.D
noncomputable def impl_cells.E : Env := { tt := TT, con := [(68, impl_order.con), (146, impl_power.con)], frz := [], rows := [], live := [], n := 10, pin := 0, nils := [] }
noncomputable def impl_cells.fn : D.Fn := { body := Try.f125.body.getD .skip, res := Try.f125.results.toList, ins := [.agg [.v (.sl 25 (.sl 2 (.int .i64)))], .one (.v (.int .i64))], outs := [.one (.v (.int .i64))] }
def impl_cells.enc (y : lsd (flats impl_cells.fn.outs) × lsd (ios impl_cells.fn.ins)) : Int := y.1.1
noncomputable def impl_cells.f (l0_0 : List (List Int)) (a1 : Int) : Option Int := denF impl_cells.E impl_cells.fn impl_cells.enc (l0_0, a1, ())
set_option maxRecDepth 100000 in
theorem impl_cells.f_eq (l0_0 : List (List Int)) (a1 : Int) : impl_cells.f l0_0 a1 = (impl_order.f l0_0).bind fun t6 => (impl_power.f (wrapI (t6 - 1)) a1).bind fun t9 => some t9 := by kernel_rfl
noncomputable def impl_cells.con : Con := ⟨impl_cells.fn.ins, impl_cells.fn.outs, Int, fun x => impl_cells.f x.1 x.2.1, fun r => ((r, ()), (()))⟩
theorem impl_cells.valid : Valid Try.prog 125 impl_cells.con := fn_valid (f := impl_cells.fn) (E := impl_cells.E) (enc := impl_cells.enc) ⟨ttOk, (conCons impl_order.valid (conCons impl_power.valid conNil))⟩ (Checked.mixed Try.checked) ⟨Try.func125, by kernel_rfl, by kernel_rfl, by kernel_rfl, by kernel_rfl, by decide, by kernel_rfl, by kernel_rfl⟩ (fun _ => rfl)
end Go.Proofs.Ytdiadcmkddkjpaa.P
set_option linter.unusedVariables false
namespace Go.Proofs.Ytdiadcmkddkjpaa.P
open Go Go.RowKit Go.Proofs.Ytdiadcmkddkjpaa.D
noncomputable def impl_isCochain.E : Env := { tt := TT, con := [(124, impl_isDegree.con), (125, impl_cells.con), (67, impl_areIn.con)], frz := [], rows := [], live := [], n := 27, pin := 0, nils := [] }
noncomputable def impl_isCochain.fn : D.Fn := { body := Try.f81.body.getD .skip, res := Try.f81.results.toList, ins := [.agg [.v (.sl 25 (.sl 2 (.int .i64)))], .agg [.v (.int .i64), .v (.sl 2 (.int .i64))], .agg [.v (.int .i64), .v (.sl 2 (.int .i64))]], outs := [.one (.v .bool)] }
def impl_isCochain.enc (y : lsd (flats impl_isCochain.fn.outs) × lsd (ios impl_isCochain.fn.ins)) : Bool := y.1.1
noncomputable def impl_isCochain.f (l0_0 : List (List Int)) (a1_0 : Int) (l1_1 : List Int) (a2_0 : Int) (l2_1 : List Int) : Option Bool := denF impl_isCochain.E impl_isCochain.fn impl_isCochain.enc (l0_0, a1_0, l1_1, a2_0, l2_1, ())
set_option maxRecDepth 100000 in
theorem impl_isCochain.f_eq (l0_0 : List (List Int)) (a1_0 : Int) (l1_1 : List Int) (a2_0 : Int) (l2_1 : List Int) : impl_isCochain.f l0_0 a1_0 l1_1 a2_0 l2_1 = (impl_isDegree.f a2_0).bind fun t9 => if t9 = true then ((impl_cells.f l0_0 a2_0).bind fun t17 => if (l2_1.length : Int) = t17 then ((impl_areIn.f a1_0 l2_1).bind fun t25 => some (decide (t25 = true))) else (some false)) else (some false) := by kernel_rfl
noncomputable def impl_isCochain.con : Con := ⟨impl_isCochain.fn.ins, impl_isCochain.fn.outs, Bool, fun x => impl_isCochain.f x.1 x.2.1 x.2.2.1 x.2.2.2.1 x.2.2.2.2.1, fun r => ((r, ()), (()))⟩
theorem impl_isCochain.valid : Valid Try.prog 81 impl_isCochain.con := fn_valid (f := impl_isCochain.fn) (E := impl_isCochain.E) (enc := impl_isCochain.enc) ⟨ttOk, (conCons impl_isDegree.valid (conCons impl_cells.valid (conCons impl_areIn.valid conNil)))⟩ (Checked.mixed Try.checked) ⟨Try.func81, by kernel_rfl, by kernel_rfl, by kernel_rfl, by kernel_rfl, by decide, by kernel_rfl, by kernel_rfl⟩ (fun _ => rfl)
end Go.Proofs.Ytdiadcmkddkjpaa.P
set_option linter.unusedVariables false
namespace Go.Proofs.Ytdiadcmkddkjpaa.P
open Go Go.RowKit Go.Proofs.Ytdiadcmkddkjpaa.D
noncomputable def impl_cochainCode.E : Env := { tt := TT, con := [(80, impl_areModules.con), (81, impl_isCochain.con)], frz := [], rows := [11], live := [(4, [3, 4, 14, 15, 16])], n := 26, pin := 0, nils := [] }
noncomputable def impl_cochainCode.fn : D.Fn := { body := Try.f66.body.getD .skip, res := Try.f66.results.toList, ins := [.agg [.v (.sl 25 (.sl 2 (.int .i64)))], .agg [.v (.int .i64), .v (.sl 2 (.int .i64))], .one (.v (.sl 47 (.pr (.int .i64) (.sl 2 (.int .i64)))))], outs := [.one (.v (.int .i64))] }
def impl_cochainCode.enc (y : lsd (flats impl_cochainCode.fn.outs) × lsd (ios impl_cochainCode.fn.ins)) : Int := y.1.1
noncomputable def impl_cochainCode.f (l0_0 : List (List Int)) (a1_0 : Int) (l1_1 : List Int) (l2 : List (Int × (List Int))) : Option Int := denF impl_cochainCode.E impl_cochainCode.fn impl_cochainCode.enc (l0_0, a1_0, l1_1, l2, ())
noncomputable def impl_cochainCode.l0 (x14 : List (Int × (List Int))) (x15 : Int) (x16 : Int) (b0_0 : List (List Int)) (b1_0 : Int) (b1_1 : List Int) : Option Int := denAt impl_cochainCode.E impl_cochainCode.fn impl_cochainCode.enc [1, 1, 0, 1, 0] { fr := [(3, .lf (.box 0 0)), (4, .lf (.box 1 0)), (14, .lf (.sl (.pr (.int .i64) (.sl 2 (.int .i64))) x14)), (15, .lf (.int .i64 x15)), (16, .lf (.int .i64 x16))], ob := [(0, .box 32 false [.sl (.sl 2 (.int .i64)) b0_0]), (1, .box 34 false [.int .i64 b1_0, .sl (.int .i64) b1_1])], nx := 2 }
set_option maxRecDepth 100000 in
theorem impl_cochainCode.f_eq (l0_0 : List (List Int)) (a1_0 : Int) (l1_1 : List Int) (l2 : List (Int × (List Int))) : impl_cochainCode.f l0_0 a1_0 l1_1 l2 = (impl_areModules.f l0_0 ([(a1_0, l1_1)] : List (Int × (List Int)))).bind fun t12 => if t12 = true then (impl_cochainCode.l0 l2 (l2.length : Int) 0 l0_0 a1_0 l1_1) else (some 1) := by kernel_rfl
set_option maxRecDepth 100000 in
theorem impl_cochainCode.l0_eq (x14 : List (Int × (List Int))) (x15 : Int) (x16 : Int) (b0_0 : List (List Int)) (b1_0 : Int) (b1_1 : List Int) : impl_cochainCode.l0 x14 x15 x16 b0_0 b1_0 b1_1 = if x16 < x15 then (if 0 ≤ x16 then (if x16 < (x14.length : Int) then ((impl_isCochain.f b0_0 b1_0 b1_1 ((Ty.rd (.pr (.int .i64) (.sl 2 (.int .i64))) x14 x16).1) ((Ty.rd (.pr (.int .i64) (.sl 2 (.int .i64))) x14 x16).2)).bind fun t23 => if t23 = true then (impl_cochainCode.l0 x14 x15 (wrapI (x16 + 1)) b0_0 b1_0 b1_1) else (some 1)) else none) else none) else (some 0) := (loop_unfold _ _ _ _).trans (by kernel_rfl)
noncomputable def impl_cochainCode.con : Con := ⟨impl_cochainCode.fn.ins, impl_cochainCode.fn.outs, Int, fun x => impl_cochainCode.f x.1 x.2.1 x.2.2.1 x.2.2.2.1, fun r => ((r, ()), (()))⟩
theorem impl_cochainCode.valid : Valid Try.prog 66 impl_cochainCode.con := fn_valid (f := impl_cochainCode.fn) (E := impl_cochainCode.E) (enc := impl_cochainCode.enc) ⟨ttOk, (conCons impl_areModules.valid (conCons impl_isCochain.valid conNil))⟩ (Checked.mixed Try.checked) ⟨Try.func66, by kernel_rfl, by kernel_rfl, by kernel_rfl, by kernel_rfl, by decide, by kernel_rfl, by kernel_rfl⟩ (fun _ => rfl)
end Go.Proofs.Ytdiadcmkddkjpaa.P
set_option linter.unusedVariables false
namespace Go.Proofs.Ytdiadcmkddkjpaa.P
open Go Go.RowKit Go.Proofs.Ytdiadcmkddkjpaa.D
noncomputable def impl_zero.E : Env := { tt := TT, con := [(125, impl_cells.con)], frz := [], rows := [], live := [], n := 11, pin := 0, nils := [] }
noncomputable def impl_zero.fn : D.Fn := { body := Try.f119.body.getD .skip, res := Try.f119.results.toList, ins := [.agg [.v (.sl 25 (.sl 2 (.int .i64)))], .one (.v (.int .i64))], outs := [.agg [.v (.int .i64), .own 2 true (.int .i64)]] }
def impl_zero.enc (y : lsd (flats impl_zero.fn.outs) × lsd (ios impl_zero.fn.ins)) : Int × (List Int) := (y.1.1, y.1.2.1)
noncomputable def impl_zero.f (l0_0 : List (List Int)) (a1 : Int) : Option (Int × (List Int)) := denF impl_zero.E impl_zero.fn impl_zero.enc (l0_0, a1, ())
set_option maxRecDepth 100000 in
theorem impl_zero.f_eq (l0_0 : List (List Int)) (a1 : Int) : impl_zero.f l0_0 a1 = (impl_cells.f l0_0 a1).bind fun t8 => if t8 = t8 then (if 0 ≤ t8 then (if (t8 : Int).toNat ≤ 17592186044416 then (some (a1, List.replicate (t8 : Int).toNat 0)) else none) else none) else none := by kernel_rfl
noncomputable def impl_zero.con : Con := ⟨impl_zero.fn.ins, impl_zero.fn.outs, Int × (List Int), fun x => impl_zero.f x.1 x.2.1, fun r => ((r.1, r.2, ()), (()))⟩
theorem impl_zero.valid : Valid Try.prog 119 impl_zero.con := fn_valid (f := impl_zero.fn) (E := impl_zero.E) (enc := impl_zero.enc) ⟨ttOk, (conCons impl_cells.valid conNil)⟩ (Checked.mixed Try.checked) ⟨Try.func119, by kernel_rfl, by kernel_rfl, by kernel_rfl, by kernel_rfl, by decide, by kernel_rfl, by kernel_rfl⟩ (fun _ => rfl)
end Go.Proofs.Ytdiadcmkddkjpaa.P
set_option linter.unusedVariables false
namespace Go.Proofs.Ytdiadcmkddkjpaa.P
open Go Go.RowKit Go.Proofs.Ytdiadcmkddkjpaa.D
noncomputable def impl_listOf.E : Env := { tt := TT, con := [(68, impl_order.con)], frz := [], rows := [], live := [(3, [2, 7, 8, 9])], n := 32, pin := 0, nils := [] }
noncomputable def impl_listOf.fn : D.Fn := { body := Try.f120.body.getD .skip, res := Try.f120.results.toList, ins := [.agg [.v (.sl 25 (.sl 2 (.int .i64)))], .one (.v (.int .i64)), .one (.v (.int .i64))], outs := [.one (.own 2 true (.int .i64))] }
def impl_listOf.enc (y : lsd (flats impl_listOf.fn.outs) × lsd (ios impl_listOf.fn.ins)) : (List Int) := y.1.1
noncomputable def impl_listOf.f (l0_0 : List (List Int)) (a1 : Int) (a2 : Int) : Option (List Int) := denF impl_listOf.E impl_listOf.fn impl_listOf.enc (l0_0, a1, a2, ())
noncomputable def impl_listOf.l0 (x2 : Int) (x8 : Int) (x9 : Int) (r0 : List Int) : Option (List Int) := denAt impl_listOf.E impl_listOf.fn impl_listOf.enc [1, 1, 0, 1, 0] { fr := [(2, .lf (.int .i64 x2)), (7, .lf (.own 0)), (8, .lf (.int .i64 x8)), (9, .lf (.int .i64 x9))], ob := [(0, .row 2 true (.int .i64) r0)], nx := 1 }
set_option maxRecDepth 100000 in
theorem impl_listOf.f_eq (l0_0 : List (List Int)) (a1 : Int) (a2 : Int) : impl_listOf.f l0_0 a1 a2 = if a1 = a1 then (if 0 ≤ a1 then (if (a1 : Int).toNat ≤ 17592186044416 then ((impl_order.f l0_0).bind fun t13 => impl_listOf.l0 a2 (wrapI (t13 - 1)) (wrapI (a1 - 1)) (List.replicate (a1 : Int).toNat 0)) else none) else none) else none := by kernel_rfl
set_option maxRecDepth 100000 in
theorem impl_listOf.l0_eq (x2 : Int) (x8 : Int) (x9 : Int) (r0 : List Int) : impl_listOf.l0 x2 x8 x9 r0 = if x9 ≥ 0 then (if x8 = 0 then none else (if 0 ≤ x9 then (if x9 < (r0.length : Int) then (if 0 ≤ x9 then (if x9 < (r0.length : Int) then (if x8 = 0 then none else (impl_listOf.l0 (wrapI ((x2 : Int).tdiv x8)) x8 (wrapI (x9 - 1)) (r0.set (x9 : Int).toNat (wrapI (1 + ((x2 : Int).tmod x8)))))) else none) else none) else none) else none)) else (some r0) := (loop_unfold _ _ _ _).trans (by kernel_rfl)
noncomputable def impl_listOf.con : Con := ⟨impl_listOf.fn.ins, impl_listOf.fn.outs, (List Int), fun x => impl_listOf.f x.1 x.2.1 x.2.2.1, fun r => ((r, ()), (()))⟩
theorem impl_listOf.valid : Valid Try.prog 120 impl_listOf.con := fn_valid (f := impl_listOf.fn) (E := impl_listOf.E) (enc := impl_listOf.enc) ⟨ttOk, (conCons impl_order.valid conNil)⟩ (Checked.mixed Try.checked) ⟨Try.func120, by kernel_rfl, by kernel_rfl, by kernel_rfl, by kernel_rfl, by decide, by kernel_rfl, by kernel_rfl⟩ (fun _ => rfl)
end Go.Proofs.Ytdiadcmkddkjpaa.P
set_option linter.unusedVariables false
namespace Go.Proofs.Ytdiadcmkddkjpaa.P
open Go Go.RowKit Go.Proofs.Ytdiadcmkddkjpaa.D
noncomputable def impl_told.E : Env := { tt := TT, con := [(119, impl_zero.con), (120, impl_listOf.con)], frz := [], rows := [], live := [(3, [1, 2, 3, 4, 8, 9, 16, 17])], n := 38, pin := 0, nils := [] }
noncomputable def impl_told.fn : D.Fn := { body := Try.f70.body.getD .skip, res := Try.f70.results.toList, ins := [.agg [.v (.sl 25 (.sl 2 (.int .i64)))], .one (.v (.int .i64)), .one (.v (.int .i64)), .one (.fn [(.sl 2 (.int .i64))] (.int .i64))], outs := [.agg [.v (.int .i64), .own 2 true (.int .i64)]] }
def impl_told.enc (y : lsd (flats impl_told.fn.outs) × lsd (ios impl_told.fn.ins)) : Int × (List Int) := (y.1.1, y.1.2.1)
noncomputable def impl_told.f (l0_0 : List (List Int)) (a1 : Int) (a2 : Int) (f3 : (List Int) → Option Int) : Option (Int × (List Int)) := denF impl_told.E impl_told.fn impl_told.enc (l0_0, a1, a2, fun x => f3 x.1, ())
noncomputable def impl_told.l0 (x1 : Int) (x2 : Int) (fx3 : (List Int) → Option Int) (x16 : Int) (x17 : Int) (b0_0 : List (List Int)) (b1_0 : Int) (b2_0 : Int) (r3 : List Int) : Option (Int × (List Int)) := denAt impl_told.E impl_told.fn impl_told.enc [1, 1, 0, 1, 0] { fr := [(1, .lf (.int .i64 x1)), (2, .lf (.int .i64 x2)), (3, .lf (.fn [(.sl 2 (.int .i64))] (.int .i64) (fun x => fx3 x.1))), (4, .lf (.box 0 0)), (8, .lf (.box 1 0)), (9, .lf (.box 2 0)), (16, .lf (.int .i64 x16)), (17, .lf (.int .i64 x17))], ob := [(0, .box 32 false [.sl (.sl 2 (.int .i64)) b0_0]), (1, .box 47 false [.int .i64 b1_0, .nil]), (2, .box 47 false [.int .i64 b2_0, .own 3]), (3, .row 2 true (.int .i64) r3)], nx := 4 }
set_option maxRecDepth 100000 in
theorem impl_told.f_eq (l0_0 : List (List Int)) (a1 : Int) (a2 : Int) (f3 : (List Int) → Option Int) : impl_told.f l0_0 a1 a2 f3 = (impl_zero.f l0_0 a2).bind fun t13 => impl_told.l0 a1 a2 f3 (t13.2.length : Int) 0 l0_0 0 t13.1 t13.2 := by kernel_rfl
set_option maxRecDepth 100000 in
theorem impl_told.l0_eq (x1 : Int) (x2 : Int) (fx3 : (List Int) → Option Int) (x16 : Int) (x17 : Int) (b0_0 : List (List Int)) (b1_0 : Int) (b2_0 : Int) (r3 : List Int) : impl_told.l0 x1 x2 fx3 x16 x17 b0_0 b1_0 b2_0 r3 = if x17 < x16 then ((impl_listOf.f b0_0 x2 x17).bind fun t27 => (fx3 t27).bind fun t28 => if x1 = 0 then none else (if x1 = 0 then none else (if 0 ≤ x17 then (if x17 < (r3.length : Int) then (if 0 ≤ x17 then (if x17 < (r3.length : Int) then (impl_told.l0 x1 x2 fx3 x16 (wrapI (x17 + 1)) b0_0 b1_0 b2_0 (r3.set (x17 : Int).toNat ((wrapI (((t28 : Int).tmod x1) + x1) : Int).tmod x1))) else none) else none) else none) else none))) else (some (b2_0, r3)) := (loop_unfold _ _ _ _).trans (by kernel_rfl)
noncomputable def impl_told.con : Con := ⟨impl_told.fn.ins, impl_told.fn.outs, Int × (List Int), fun x => impl_told.f x.1 x.2.1 x.2.2.1 (fun z0 => x.2.2.2.1 (z0, ())), fun r => ((r.1, r.2, ()), (()))⟩
theorem impl_told.valid : Valid Try.prog 70 impl_told.con := fn_valid (f := impl_told.fn) (E := impl_told.E) (enc := impl_told.enc) ⟨ttOk, (conCons impl_zero.valid (conCons impl_listOf.valid conNil))⟩ (Checked.mixed Try.checked) ⟨Try.func70, by kernel_rfl, by kernel_rfl, by kernel_rfl, by kernel_rfl, by decide, by kernel_rfl, by kernel_rfl⟩ (fun _ => rfl)
end Go.Proofs.Ytdiadcmkddkjpaa.P
set_option linter.unusedVariables false
namespace Go.Proofs.Ytdiadcmkddkjpaa.P
open Go Go.RowKit Go.Proofs.Ytdiadcmkddkjpaa.D
noncomputable def impl_cell.E : Env := { tt := TT, con := [(68, impl_order.con)], frz := [], rows := [], live := [(3, [2, 5, 8, 9, 10])], n := 26, pin := 0, nils := [] }
noncomputable def impl_cell.fn : D.Fn := { body := Try.f121.body.getD .skip, res := Try.f121.results.toList, ins := [.agg [.v (.sl 25 (.sl 2 (.int .i64)))], .one (.v (.sl 2 (.int .i64)))], outs := [.one (.v (.int .i64))] }
def impl_cell.enc (y : lsd (flats impl_cell.fn.outs) × lsd (ios impl_cell.fn.ins)) : Int := y.1.1
noncomputable def impl_cell.f (l0_0 : List (List Int)) (l1 : List Int) : Option Int := denF impl_cell.E impl_cell.fn impl_cell.enc (l0_0, l1, ())
noncomputable def impl_cell.l0 (x5 : Int) (x8 : List Int) (x9 : Int) (x10 : Int) (b0_0 : List (List Int)) : Option Int := denAt impl_cell.E impl_cell.fn impl_cell.enc [1, 1, 0, 1, 0] { fr := [(2, .lf (.box 0 0)), (5, .lf (.int .i64 x5)), (8, .lf (.sl (.int .i64) x8)), (9, .lf (.int .i64 x9)), (10, .lf (.int .i64 x10))], ob := [(0, .box 32 false [.sl (.sl 2 (.int .i64)) b0_0])], nx := 1 }
set_option maxRecDepth 100000 in
theorem impl_cell.f_eq (l0_0 : List (List Int)) (l1 : List Int) : impl_cell.f l0_0 l1 = impl_cell.l0 0 l1 (l1.length : Int) 0 l0_0 := by kernel_rfl
set_option maxRecDepth 100000 in
theorem impl_cell.l0_eq (x5 : Int) (x8 : List Int) (x9 : Int) (x10 : Int) (b0_0 : List (List Int)) : impl_cell.l0 x5 x8 x9 x10 b0_0 = if x10 < x9 then (if 0 ≤ x10 then (if x10 < (x8.length : Int) then (if (rd x8 x10) = 0 then (some (-1)) else ((impl_order.f b0_0).bind fun t18 => impl_cell.l0 (wrapI ((wrapI ((wrapI (x5 * (wrapI (t18 - 1)))) + (rd x8 x10))) - 1)) x8 x9 (wrapI (x10 + 1)) b0_0)) else none) else none) else (some x5) := (loop_unfold _ _ _ _).trans (by kernel_rfl)
noncomputable def impl_cell.con : Con := ⟨impl_cell.fn.ins, impl_cell.fn.outs, Int, fun x => impl_cell.f x.1 x.2.1, fun r => ((r, ()), (()))⟩
theorem impl_cell.valid : Valid Try.prog 121 impl_cell.con := fn_valid (f := impl_cell.fn) (E := impl_cell.E) (enc := impl_cell.enc) ⟨ttOk, (conCons impl_order.valid conNil)⟩ (Checked.mixed Try.checked) ⟨Try.func121, by kernel_rfl, by kernel_rfl, by kernel_rfl, by kernel_rfl, by decide, by kernel_rfl, by kernel_rfl⟩ (fun _ => rfl)
end Go.Proofs.Ytdiadcmkddkjpaa.P
set_option linter.unusedVariables false
namespace Go.Proofs.Ytdiadcmkddkjpaa.P
open Go Go.RowKit Go.Proofs.Ytdiadcmkddkjpaa.D
noncomputable def impl_Cochain_at.E : Env := { tt := TT, con := [(121, impl_cell.con)], frz := [], rows := [], live := [], n := 18, pin := 0, nils := [] }
noncomputable def impl_Cochain_at.fn : D.Fn := { body := Try.f72.body.getD .skip, res := Try.f72.results.toList, ins := [.agg [.v (.int .i64), .v (.sl 2 (.int .i64))], .agg [.v (.sl 25 (.sl 2 (.int .i64)))], .one (.v (.sl 2 (.int .i64)))], outs := [.one (.v (.int .i64))] }
def impl_Cochain_at.enc (y : lsd (flats impl_Cochain_at.fn.outs) × lsd (ios impl_Cochain_at.fn.ins)) : Int := y.1.1
noncomputable def impl_Cochain_at.f (a0_0 : Int) (l0_1 : List Int) (l1_0 : List (List Int)) (l2 : List Int) : Option Int := denF impl_Cochain_at.E impl_Cochain_at.fn impl_Cochain_at.enc (a0_0, l0_1, l1_0, l2, ())
set_option maxRecDepth 100000 in
theorem impl_Cochain_at.f_eq (a0_0 : Int) (l0_1 : List Int) (l1_0 : List (List Int)) (l2 : List Int) : impl_Cochain_at.f a0_0 l0_1 l1_0 l2 = (impl_cell.f l1_0 l2).bind fun t10 => if t10 ≥ 0 then (if 0 ≤ t10 then (if t10 < (l0_1.length : Int) then (some (rd l0_1 t10)) else none) else none) else (some 0) := by kernel_rfl
noncomputable def impl_Cochain_at.con : Con := ⟨impl_Cochain_at.fn.ins, impl_Cochain_at.fn.outs, Int, fun x => impl_Cochain_at.f x.1 x.2.1 x.2.2.1 x.2.2.2.1, fun r => ((r, ()), (()))⟩
theorem impl_Cochain_at.valid : Valid Try.prog 72 impl_Cochain_at.con := fn_valid (f := impl_Cochain_at.fn) (E := impl_Cochain_at.E) (enc := impl_Cochain_at.enc) ⟨ttOk, (conCons impl_cell.valid conNil)⟩ (Checked.mixed Try.checked) ⟨Try.func72, by kernel_rfl, by kernel_rfl, by kernel_rfl, by kernel_rfl, by decide, by kernel_rfl, by kernel_rfl⟩ (fun _ => rfl)
end Go.Proofs.Ytdiadcmkddkjpaa.P
set_option linter.unusedVariables false
namespace Go.Proofs.Ytdiadcmkddkjpaa.P
open Go Go.RowKit Go.Proofs.Ytdiadcmkddkjpaa.D
noncomputable def impl_boundaryAt.E : Env := { tt := TT, con := [(72, impl_Cochain_at.con), (122, impl_Group_times.con)], frz := [], rows := [], live := [(5, [3, 4, 6, 9, 10, 11, 30, 31])], n := 79, pin := 0, nils := [] }
noncomputable def impl_boundaryAt.fn : D.Fn := { body := Try.f165.body.getD .skip, res := Try.f165.results.toList, ins := [.agg [.v (.sl 25 (.sl 2 (.int .i64)))], .agg [.v (.int .i64), .v (.sl 2 (.int .i64))], .agg [.v (.int .i64), .v (.sl 2 (.int .i64))], .one (.v (.sl 2 (.int .i64)))], outs := [.one (.v (.int .i64))] }
def impl_boundaryAt.enc (y : lsd (flats impl_boundaryAt.fn.outs) × lsd (ios impl_boundaryAt.fn.ins)) : Int := y.1.1
noncomputable def impl_boundaryAt.f (l0_0 : List (List Int)) (a1_0 : Int) (l1_1 : List Int) (a2_0 : Int) (l2_1 : List Int) (l3 : List Int) : Option Int := denF impl_boundaryAt.E impl_boundaryAt.fn impl_boundaryAt.enc (l0_0, a1_0, l1_1, a2_0, l2_1, l3, ())
noncomputable def impl_boundaryAt.l0 (x3 : List Int) (x9 : Int) (x10 : Int) (x11 : Int) (x30 : Int) (x31 : Int) (b0_0 : List (List Int)) (b1_0 : Int) (b1_1 : List Int) : Option Int := denAt impl_boundaryAt.E impl_boundaryAt.fn impl_boundaryAt.enc [1, 1, 1, 1, 0, 1, 0] { fr := [(3, .lf (.sl (.int .i64) x3)), (4, .lf (.box 0 0)), (6, .lf (.box 1 0)), (9, .lf (.int .i64 x9)), (10, .lf (.int .i64 x10)), (11, .lf (.int .i64 x11)), (30, .lf (.int .i64 x30)), (31, .lf (.int .i64 x31))], ob := [(0, .box 32 false [.sl (.sl 2 (.int .i64)) b0_0]), (1, .box 47 false [.int .i64 b1_0, .sl (.int .i64) b1_1])], nx := 2 }
set_option maxRecDepth 100000 in
theorem impl_boundaryAt.f_eq (l0_0 : List (List Int)) (a1_0 : Int) (l1_1 : List Int) (a2_0 : Int) (l2_1 : List Int) (l3 : List Int) : impl_boundaryAt.f l0_0 a1_0 l1_1 a2_0 l2_1 l3 = if 0 < (l3.length : Int) then (if 0 ≤ rd l3 0 then (if rd l3 0 < (l1_1.length : Int) then (if 1 ≤ (l3.length : Int) then ((impl_Cochain_at.f a2_0 l2_1 l0_0 (l3.drop (1 : Int).toNat)).bind fun t28 => impl_boundaryAt.l0 l3 (wrapI ((l3.length : Int) - 1)) (wrapI ((rd l1_1 (rd l3 0)) * t28)) (-1) (wrapI ((l3.length : Int) - 1)) 0 l0_0 a2_0 l2_1) else none) else none) else none) else none := by kernel_rfl
set_option maxRecDepth 100000 in
theorem impl_boundaryAt.l0_eq (x3 : List Int) (x9 : Int) (x10 : Int) (x11 : Int) (x30 : Int) (x31 : Int) (b0_0 : List (List Int)) (b1_0 : Int) (b1_1 : List Int) : impl_boundaryAt.l0 x3 x9 x10 x11 x30 x31 b0_0 b1_0 b1_1 = if x31 < x30 then (if 0 ≤ x31 then (if x31 ≤ (x3.length : Int) then (if ([] : List Int).length + (x3.take (x31 : Int).toNat).length ≤ 17592186044416 then (if 0 ≤ x31 then (if x31 < (x3.length : Int) then (if 0 ≤ wrapI (x31 + 1) then (if wrapI (x31 + 1) < (x3.length : Int) then ((impl_Group_times.f b0_0 ([rd x3 x31, rd x3 (wrapI (x31 + 1))] : List Int)).bind fun t50 => if (([] : List Int) ++ (x3.take (x31 : Int).toNat)).length + ([t50] : List Int).length ≤ 17592186044416 then (if 0 ≤ wrapI (x31 + 2) then (if wrapI (x31 + 2) ≤ (x3.length : Int) then (if ((([] : List Int) ++ (x3.take (x31 : Int).toNat)) ++ ([t50] : List Int)).length + (x3.drop (wrapI (x31 + 2) : Int).toNat).length ≤ 17592186044416 then ((impl_Cochain_at.f b1_0 b1_1 b0_0 (((([] : List Int) ++ (x3.take (x31 : Int).toNat)) ++ ([t50] : List Int)) ++ (x3.drop (wrapI (x31 + 2) : Int).toNat))).bind fun t63 => impl_boundaryAt.l0 x3 x9 (wrapI (x10 + (wrapI (x11 * t63)))) (wrapI (0 - x11)) x30 (wrapI (x31 + 1)) b0_0 b1_0 b1_1) else none) else none) else none) else none) else none) else none) else none) else none) else none) else none) else none) else (if 0 ≤ x9 then (if x9 ≤ (x3.length : Int) then ((impl_Cochain_at.f b1_0 b1_1 b0_0 (x3.take (x9 : Int).toNat)).bind fun t76 => some (wrapI (x10 + (wrapI (x11 * t76))))) else none) else none) := (loop_unfold _ _ _ _).trans (by kernel_rfl)
noncomputable def impl_boundaryAt.con : Con := ⟨impl_boundaryAt.fn.ins, impl_boundaryAt.fn.outs, Int, fun x => impl_boundaryAt.f x.1 x.2.1 x.2.2.1 x.2.2.2.1 x.2.2.2.2.1 x.2.2.2.2.2.1, fun r => ((r, ()), (()))⟩
theorem impl_boundaryAt.valid : Valid Try.prog 165 impl_boundaryAt.con := fn_valid (f := impl_boundaryAt.fn) (E := impl_boundaryAt.E) (enc := impl_boundaryAt.enc) ⟨ttOk, (conCons impl_Cochain_at.valid (conCons impl_Group_times.valid conNil))⟩ (Checked.mixed Try.checked) ⟨Try.func165, by kernel_rfl, by kernel_rfl, by kernel_rfl, by kernel_rfl, by decide, by kernel_rfl, by kernel_rfl⟩ (fun _ => rfl)
end Go.Proofs.Ytdiadcmkddkjpaa.P
set_option linter.unusedVariables false
namespace Go.Proofs.Ytdiadcmkddkjpaa.P
open Go Go.RowKit Go.Proofs.Ytdiadcmkddkjpaa.D
noncomputable def impl_boundary_1.E : Env := { tt := TT, con := [(165, impl_boundaryAt.con)], frz := [], rows := [], live := [], n := 11, pin := 3, nils := [] }
noncomputable def impl_boundary_1.fn : D.Fn := { body := Try.f164.body.getD .skip, res := Try.f164.results.toList, ins := [.one (.v (.sl 2 (.int .i64))), .ptr true 32 [.v (.sl 25 (.sl 2 (.int .i64)))], .ptr true 34 [.v (.int .i64), .v (.sl 2 (.int .i64))], .ptr true 47 [.v (.int .i64), .v (.sl 2 (.int .i64))]], outs := [.one (.v (.int .i64))] }
def impl_boundary_1.enc (y : lsd (flats impl_boundary_1.fn.outs) × lsd (ios impl_boundary_1.fn.ins)) : Int := y.1.1
noncomputable def impl_boundary_1.f (l0 : List Int) (l1 : List (List Int)) (a2_0 : Int) (l2_1 : List Int) (a3_0 : Int) (l3_1 : List Int) : Option Int := denF impl_boundary_1.E impl_boundary_1.fn impl_boundary_1.enc (l0, l1, a2_0, l2_1, a3_0, l3_1, ())
set_option maxRecDepth 100000 in
theorem impl_boundary_1.f_eq (l0 : List Int) (l1 : List (List Int)) (a2_0 : Int) (l2_1 : List Int) (a3_0 : Int) (l3_1 : List Int) : impl_boundary_1.f l0 l1 a2_0 l2_1 a3_0 l3_1 = (impl_boundaryAt.f l1 a2_0 l2_1 a3_0 l3_1 l0).bind fun t10 => some t10 := by kernel_rfl
noncomputable def impl_boundary_1.con : Con := ⟨impl_boundary_1.fn.ins, impl_boundary_1.fn.outs, Int, fun x => impl_boundary_1.f x.1 x.2.1 x.2.2.1 x.2.2.2.1 x.2.2.2.2.1 x.2.2.2.2.2.1, fun r => ((r, ()), (()))⟩
theorem impl_boundary_1.valid : Valid Try.prog 164 impl_boundary_1.con := fn_valid (f := impl_boundary_1.fn) (E := impl_boundary_1.E) (enc := impl_boundary_1.enc) ⟨ttOk, (conCons impl_boundaryAt.valid conNil)⟩ (Checked.mixed Try.checked) ⟨Try.func164, by kernel_rfl, by kernel_rfl, by kernel_rfl, by kernel_rfl, by decide, by kernel_rfl, by kernel_rfl⟩ (fun _ => rfl)
end Go.Proofs.Ytdiadcmkddkjpaa.P
set_option linter.unusedVariables false
namespace Go.Proofs.Ytdiadcmkddkjpaa.P
open Go Go.RowKit Go.Proofs.Ytdiadcmkddkjpaa.D
noncomputable def impl_boundary.E : Env := { tt := TT, con := [(70, impl_told.con), (164, impl_boundary_1.con)], frz := [], rows := [], live := [], n := 15, pin := 0, nils := [] }
noncomputable def impl_boundary.fn : D.Fn := { body := Try.f150.body.getD .skip, res := Try.f150.results.toList, ins := [.agg [.v (.sl 25 (.sl 2 (.int .i64)))], .agg [.v (.int .i64), .v (.sl 2 (.int .i64))], .agg [.v (.int .i64), .v (.sl 2 (.int .i64))]], outs := [.agg [.v (.int .i64), .own 2 true (.int .i64)]] }
def impl_boundary.enc (y : lsd (flats impl_boundary.fn.outs) × lsd (ios impl_boundary.fn.ins)) : Int × (List Int) := (y.1.1, y.1.2.1)
noncomputable def impl_boundary.f (l0_0 : List (List Int)) (a1_0 : Int) (l1_1 : List Int) (a2_0 : Int) (l2_1 : List Int) : Option (Int × (List Int)) := denF impl_boundary.E impl_boundary.fn impl_boundary.enc (l0_0, a1_0, l1_1, a2_0, l2_1, ())
set_option maxRecDepth 100000 in
theorem impl_boundary.f_eq (l0_0 : List (List Int)) (a1_0 : Int) (l1_1 : List Int) (a2_0 : Int) (l2_1 : List Int) : impl_boundary.f l0_0 a1_0 l1_1 a2_0 l2_1 = (impl_told.f l0_0 a1_0 (wrapI (a2_0 + 1)) (fun z0 => (impl_boundary_1.f z0 l0_0 a1_0 l1_1 a2_0 l2_1).map fun z => z)).bind fun t14 => some (t14.1, t14.2) := by kernel_rfl
noncomputable def impl_boundary.con : Con := ⟨impl_boundary.fn.ins, impl_boundary.fn.outs, Int × (List Int), fun x => impl_boundary.f x.1 x.2.1 x.2.2.1 x.2.2.2.1 x.2.2.2.2.1, fun r => ((r.1, r.2, ()), (()))⟩
theorem impl_boundary.valid : Valid Try.prog 150 impl_boundary.con := fn_valid (f := impl_boundary.fn) (E := impl_boundary.E) (enc := impl_boundary.enc) ⟨ttOk, (conCons impl_told.valid (conCons impl_boundary_1.valid conNil))⟩ (Checked.mixed Try.checked) ⟨Try.func150, by kernel_rfl, by kernel_rfl, by kernel_rfl, by kernel_rfl, by decide, by kernel_rfl, by kernel_rfl⟩ (fun _ => rfl)
end Go.Proofs.Ytdiadcmkddkjpaa.P
set_option linter.unusedVariables false
namespace Go.Proofs.Ytdiadcmkddkjpaa.P
open Go Go.RowKit Go.Proofs.Ytdiadcmkddkjpaa.D
noncomputable def impl_isCocycle.E : Env := { tt := TT, con := [(150, impl_boundary.con)], frz := [], rows := [], live := [(2, [13, 14, 15])], n := 22, pin := 0, nils := [] }
noncomputable def impl_isCocycle.fn : D.Fn := { body := Try.f130.body.getD .skip, res := Try.f130.results.toList, ins := [.agg [.v (.sl 25 (.sl 2 (.int .i64)))], .agg [.v (.int .i64), .v (.sl 2 (.int .i64))], .agg [.v (.int .i64), .v (.sl 2 (.int .i64))]], outs := [.one (.v .bool)] }
def impl_isCocycle.enc (y : lsd (flats impl_isCocycle.fn.outs) × lsd (ios impl_isCocycle.fn.ins)) : Bool := y.1.1
noncomputable def impl_isCocycle.f (l0_0 : List (List Int)) (a1_0 : Int) (l1_1 : List Int) (a2_0 : Int) (l2_1 : List Int) : Option Bool := denF impl_isCocycle.E impl_isCocycle.fn impl_isCocycle.enc (l0_0, a1_0, l1_1, a2_0, l2_1, ())
noncomputable def impl_isCocycle.l0 (x14 : Int) (x15 : Int) (r0 : List Int) : Option Bool := denAt impl_isCocycle.E impl_isCocycle.fn impl_isCocycle.enc [1, 0, 1, 0] { fr := [(13, .lf (.own 0)), (14, .lf (.int .i64 x14)), (15, .lf (.int .i64 x15))], ob := [(0, .row 2 true (.int .i64) r0)], nx := 1 }
set_option maxRecDepth 100000 in
theorem impl_isCocycle.f_eq (l0_0 : List (List Int)) (a1_0 : Int) (l1_1 : List Int) (a2_0 : Int) (l2_1 : List Int) : impl_isCocycle.f l0_0 a1_0 l1_1 a2_0 l2_1 = (impl_boundary.f l0_0 a1_0 l1_1 a2_0 l2_1).bind fun t12 => impl_isCocycle.l0 (t12.2.length : Int) 0 t12.2 := by kernel_rfl
set_option maxRecDepth 100000 in
theorem impl_isCocycle.l0_eq (x14 : Int) (x15 : Int) (r0 : List Int) : impl_isCocycle.l0 x14 x15 r0 = if x15 < x14 then (if 0 ≤ x15 then (if x15 < (r0.length : Int) then (if 0 ≤ x15 then (if x15 < (r0.length : Int) then (if (rd r0 x15) = 0 then (impl_isCocycle.l0 x14 (wrapI (x15 + 1)) r0) else (some false)) else none) else none) else none) else none) else (some true) := (loop_unfold _ _ _ _).trans (by kernel_rfl)
noncomputable def impl_isCocycle.con : Con := ⟨impl_isCocycle.fn.ins, impl_isCocycle.fn.outs, Bool, fun x => impl_isCocycle.f x.1 x.2.1 x.2.2.1 x.2.2.2.1 x.2.2.2.2.1, fun r => ((r, ()), (()))⟩
theorem impl_isCocycle.valid : Valid Try.prog 130 impl_isCocycle.con := fn_valid (f := impl_isCocycle.fn) (E := impl_isCocycle.E) (enc := impl_isCocycle.enc) ⟨ttOk, (conCons impl_boundary.valid conNil)⟩ (Checked.mixed Try.checked) ⟨Try.func130, by kernel_rfl, by kernel_rfl, by kernel_rfl, by kernel_rfl, by decide, by kernel_rfl, by kernel_rfl⟩ (fun _ => rfl)
end Go.Proofs.Ytdiadcmkddkjpaa.P
set_option linter.unusedVariables false
namespace Go.Proofs.Ytdiadcmkddkjpaa.P
open Go Go.RowKit Go.Proofs.Ytdiadcmkddkjpaa.D
noncomputable def impl_factorCode.E : Env := { tt := TT, con := [(66, impl_cochainCode.con), (68, impl_order.con), (130, impl_isCocycle.con)], frz := [], rows := [13], live := [], n := 36, pin := 0, nils := [] }
noncomputable def impl_factorCode.fn : D.Fn := { body := Try.f87.body.getD .skip, res := Try.f87.results.toList, ins := [.agg [.v (.sl 25 (.sl 2 (.int .i64)))], .agg [.v (.int .i64), .v (.sl 2 (.int .i64))], .agg [.v (.int .i64), .v (.sl 2 (.int .i64))], .one (.v (.int .i64))], outs := [.one (.v (.int .i64))] }
def impl_factorCode.enc (y : lsd (flats impl_factorCode.fn.outs) × lsd (ios impl_factorCode.fn.ins)) : Int := y.1.1
noncomputable def impl_factorCode.f (l0_0 : List (List Int)) (a1_0 : Int) (l1_1 : List Int) (a2_0 : Int) (l2_1 : List Int) (a3 : Int) : Option Int := denF impl_factorCode.E impl_factorCode.fn impl_factorCode.enc (l0_0, a1_0, l1_1, a2_0, l2_1, a3, ())
set_option maxRecDepth 100000 in
theorem impl_factorCode.f_eq (l0_0 : List (List Int)) (a1_0 : Int) (l1_1 : List Int) (a2_0 : Int) (l2_1 : List Int) (a3 : Int) : impl_factorCode.f l0_0 a1_0 l1_1 a2_0 l2_1 a3 = (impl_cochainCode.f l0_0 a1_0 l1_1 ([(a2_0, l2_1)] : List (Int × (List Int)))).bind fun t14 => if t14 = 0 then (if a2_0 = 2 then ((impl_order.f l0_0).bind fun t24 => if (wrapI (t24 * a1_0)) > a3 then (some 3) else ((impl_isCocycle.f l0_0 a1_0 l1_1 a2_0 l2_1).bind fun t34 => if t34 = true then (some 0) else (some 5))) else (some 2)) else (some t14) := by kernel_rfl
noncomputable def impl_factorCode.con : Con := ⟨impl_factorCode.fn.ins, impl_factorCode.fn.outs, Int, fun x => impl_factorCode.f x.1 x.2.1 x.2.2.1 x.2.2.2.1 x.2.2.2.2.1 x.2.2.2.2.2.1, fun r => ((r, ()), (()))⟩
theorem impl_factorCode.valid : Valid Try.prog 87 impl_factorCode.con := fn_valid (f := impl_factorCode.fn) (E := impl_factorCode.E) (enc := impl_factorCode.enc) ⟨ttOk, (conCons impl_cochainCode.valid (conCons impl_order.valid (conCons impl_isCocycle.valid conNil)))⟩ (Checked.mixed Try.checked) ⟨Try.func87, by kernel_rfl, by kernel_rfl, by kernel_rfl, by kernel_rfl, by decide, by kernel_rfl, by kernel_rfl⟩ (fun _ => rfl)
end Go.Proofs.Ytdiadcmkddkjpaa.P
set_option linter.unusedVariables false
namespace Go.Proofs.Ytdiadcmkddkjpaa.P
open Go Go.RowKit Go.Proofs.Ytdiadcmkddkjpaa.D
noncomputable def impl_made.E : Env := { tt := TT, con := [], frz := [], rows := [], live := [(3, [0, 1, 4, 5, 10, 11]), (7, [0, 1, 4, 5, 6, 7, 10, 11, 15, 16])], n := 35, pin := 0, nils := [4, 5, 9] }
noncomputable def impl_made.fn : D.Fn := { body := Try.f131.body.getD .skip, res := Try.f131.results.toList, ins := [.one (.v (.int .i64)), .one (.fn [(.int .i64), (.int .i64)] (.int .i64))], outs := [.agg [.own 25 true (.sl 2 (.int .i64))]] }
def impl_made.enc (y : lsd (flats impl_made.fn.outs) × lsd (ios impl_made.fn.ins)) : (List (List Int)) := y.1.1
noncomputable def impl_made.f (a0 : Int) (f1 : Int → Int → Option Int) : Option (List (List Int)) := denF impl_made.E impl_made.fn impl_made.enc (a0, fun x => f1 x.1 x.2.1, ())
noncomputable def impl_made.l0 (x0 : Int) (fx1 : Int → Int → Option Int) (x10 : Int) (x11 : Int) (r2 : List (List Int)) (r3 : List (List Int)) : Option (List (List Int)) := denAt impl_made.E impl_made.fn impl_made.enc [1, 1, 0, 1, 0] { fr := [(0, .lf (.int .i64 x0)), (1, .lf (.fn [(.int .i64), (.int .i64)] (.int .i64) (fun x => fx1 x.1 x.2.1))), (4, .lf (.box 0 0)), (5, .lf (.box 1 0)), (10, .lf (.int .i64 x10)), (11, .lf (.int .i64 x11))], ob := [(0, .box 32 false [.own 2]), (1, .box 32 false [.own 3]), (2, .row 25 true (.sl 2 (.int .i64)) r2), (3, .row 25 true (.sl 2 (.int .i64)) r3)], nx := 4 }
noncomputable def impl_made.l1 (x0 : Int) (fx1 : Int → Int → Option Int) (x6 : Int) (x10 : Int) (x11 : Int) (x15 : Int) (x16 : Int) (r2 : List Int) (r3 : List (List Int)) (r4 : List (List Int)) : Option (List (List Int)) := denAt impl_made.E impl_made.fn impl_made.enc [1, 1, 0, 1, 0, 0, 1, 1, 0, 0, 1, 1, 0, 1, 0] { fr := [(0, .lf (.int .i64 x0)), (1, .lf (.fn [(.int .i64), (.int .i64)] (.int .i64) (fun x => fx1 x.1 x.2.1))), (4, .lf (.box 0 0)), (5, .lf (.box 1 0)), (6, .lf (.int .i64 x6)), (7, .lf (.own 2)), (10, .lf (.int .i64 x10)), (11, .lf (.int .i64 x11)), (15, .lf (.int .i64 x15)), (16, .lf (.int .i64 x16))], ob := [(0, .box 32 false [.own 3]), (1, .box 32 false [.own 4]), (2, .row 2 true (.int .i64) r2), (3, .row 25 true (.sl 2 (.int .i64)) r3), (4, .row 25 true (.sl 2 (.int .i64)) r4)], nx := 5 }
set_option maxRecDepth 100000 in
theorem impl_made.f_eq (a0 : Int) (f1 : Int → Int → Option Int) : impl_made.f a0 f1 = impl_made.l0 a0 f1 a0 0 ([] : List (List Int)) ([] : List (List Int)) := by kernel_rfl
set_option maxRecDepth 100000 in
theorem impl_made.l0_eq (x0 : Int) (fx1 : Int → Int → Option Int) (x10 : Int) (x11 : Int) (r2 : List (List Int)) (r3 : List (List Int)) : impl_made.l0 x0 fx1 x10 x11 r2 r3 = if x11 < x10 then (impl_made.l1 x0 fx1 x11 x10 x11 x0 0 ([] : List Int) r2 r3) else (some r3) := (loop_unfold _ _ _ _).trans (by kernel_rfl)
set_option maxRecDepth 100000 in
theorem impl_made.l1_eq (x0 : Int) (fx1 : Int → Int → Option Int) (x6 : Int) (x10 : Int) (x11 : Int) (x15 : Int) (x16 : Int) (r2 : List Int) (r3 : List (List Int)) (r4 : List (List Int)) : impl_made.l1 x0 fx1 x6 x10 x11 x15 x16 r2 r3 r4 = if x16 < x15 then ((fx1 x6 x16).bind fun t23 => if r2.length + ([t23] : List Int).length ≤ 17592186044416 then (impl_made.l1 x0 fx1 x6 x10 x11 x15 (wrapI (x16 + 1)) (r2 ++ ([t23] : List Int)) r3 r4) else none) else (if r4.length + ([r2] : List (List Int)).length ≤ 5864062014805 then (impl_made.l0 x0 fx1 x10 (wrapI (x11 + 1)) r3 (r4 ++ ([r2] : List (List Int)))) else none) := (loop_unfold _ _ _ _).trans (by kernel_rfl)
noncomputable def impl_made.con : Con := ⟨impl_made.fn.ins, impl_made.fn.outs, (List (List Int)), fun x => impl_made.f x.1 (fun z0 z1 => x.2.1 (z0, z1, ())), fun r => ((r, ()), (()))⟩
theorem impl_made.valid : Valid Try.prog 131 impl_made.con := fn_valid (f := impl_made.fn) (E := impl_made.E) (enc := impl_made.enc) ⟨ttOk, conNil⟩ (Checked.mixed Try.checked) ⟨Try.func131, by kernel_rfl, by kernel_rfl, by kernel_rfl, by kernel_rfl, by decide, by kernel_rfl, by kernel_rfl⟩ (fun _ => rfl)
end Go.Proofs.Ytdiadcmkddkjpaa.P
set_option linter.unusedVariables false
namespace Go.Proofs.Ytdiadcmkddkjpaa.P
open Go Go.RowKit Go.Proofs.Ytdiadcmkddkjpaa.D
noncomputable def impl_extension_1.E : Env := { tt := TT, con := [(72, impl_Cochain_at.con), (122, impl_Group_times.con)], frz := [], rows := [], live := [], n := 54, pin := 3, nils := [] }
noncomputable def impl_extension_1.fn : D.Fn := { body := Try.f132.body.getD .skip, res := Try.f132.results.toList, ins := [.one (.v (.int .i64)), .one (.v (.int .i64)), .ptr true 34 [.v (.int .i64), .v (.sl 2 (.int .i64))], .ptr true 47 [.v (.int .i64), .v (.sl 2 (.int .i64))], .ptr true 32 [.v (.sl 25 (.sl 2 (.int .i64)))]], outs := [.one (.v (.int .i64))] }
def impl_extension_1.enc (y : lsd (flats impl_extension_1.fn.outs) × lsd (ios impl_extension_1.fn.ins)) : Int := y.1.1
noncomputable def impl_extension_1.f (a0 : Int) (a1 : Int) (a2_0 : Int) (l2_1 : List Int) (a3_0 : Int) (l3_1 : List Int) (l4 : List (List Int)) : Option Int := denF impl_extension_1.E impl_extension_1.fn impl_extension_1.enc (a0, a1, a2_0, l2_1, a3_0, l3_1, l4, ())
set_option maxRecDepth 100000 in
theorem impl_extension_1.f_eq (a0 : Int) (a1 : Int) (a2_0 : Int) (l2_1 : List Int) (a3_0 : Int) (l3_1 : List Int) (l4 : List (List Int)) : impl_extension_1.f a0 a1 a2_0 l2_1 a3_0 l3_1 l4 = if a2_0 = 0 then none else (if a2_0 = 0 then none else (if a2_0 = 0 then none else (if 0 ≤ wrapI ((a0 : Int).tdiv a2_0) then (if wrapI ((a0 : Int).tdiv a2_0) < (l2_1.length : Int) then (if a2_0 = 0 then none else ((impl_Cochain_at.f a3_0 l3_1 l4 ([wrapI ((a0 : Int).tdiv a2_0), wrapI ((a1 : Int).tdiv a2_0)] : List Int)).bind fun t39 => (impl_Group_times.f l4 ([wrapI ((a0 : Int).tdiv a2_0), wrapI ((a1 : Int).tdiv a2_0)] : List Int)).bind fun t47 => if a2_0 = 0 then none else (some (wrapI ((wrapI (a2_0 * t47)) + ((wrapI ((wrapI (((a0 : Int).tmod a2_0) + (wrapI ((rd l2_1 (wrapI ((a0 : Int).tdiv a2_0))) * ((a1 : Int).tmod a2_0))))) + t39) : Int).tmod a2_0)))))) else none) else none))) := by kernel_rfl
noncomputable def impl_extension_1.con : Con := ⟨impl_extension_1.fn.ins, impl_extension_1.fn.outs, Int, fun x => impl_extension_1.f x.1 x.2.1 x.2.2.1 x.2.2.2.1 x.2.2.2.2.1 x.2.2.2.2.2.1 x.2.2.2.2.2.2.1, fun r => ((r, ()), (()))⟩
theorem impl_extension_1.valid : Valid Try.prog 132 impl_extension_1.con := fn_valid (f := impl_extension_1.fn) (E := impl_extension_1.E) (enc := impl_extension_1.enc) ⟨ttOk, (conCons impl_Cochain_at.valid (conCons impl_Group_times.valid conNil))⟩ (Checked.mixed Try.checked) ⟨Try.func132, by kernel_rfl, by kernel_rfl, by kernel_rfl, by kernel_rfl, by decide, by kernel_rfl, by kernel_rfl⟩ (fun _ => rfl)
end Go.Proofs.Ytdiadcmkddkjpaa.P
set_option linter.unusedVariables false
namespace Go.Proofs.Ytdiadcmkddkjpaa.P
open Go Go.RowKit Go.Proofs.Ytdiadcmkddkjpaa.D
noncomputable def impl_extension.E : Env := { tt := TT, con := [(68, impl_order.con), (131, impl_made.con), (132, impl_extension_1.con)], frz := [], rows := [], live := [], n := 14, pin := 0, nils := [] }
noncomputable def impl_extension.fn : D.Fn := { body := Try.f88.body.getD .skip, res := Try.f88.results.toList, ins := [.agg [.v (.sl 25 (.sl 2 (.int .i64)))], .agg [.v (.int .i64), .v (.sl 2 (.int .i64))], .agg [.v (.int .i64), .v (.sl 2 (.int .i64))]], outs := [.agg [.own 25 true (.sl 2 (.int .i64))]] }
def impl_extension.enc (y : lsd (flats impl_extension.fn.outs) × lsd (ios impl_extension.fn.ins)) : (List (List Int)) := y.1.1
noncomputable def impl_extension.f (l0_0 : List (List Int)) (a1_0 : Int) (l1_1 : List Int) (a2_0 : Int) (l2_1 : List Int) : Option (List (List Int)) := denF impl_extension.E impl_extension.fn impl_extension.enc (l0_0, a1_0, l1_1, a2_0, l2_1, ())
set_option maxRecDepth 100000 in
theorem impl_extension.f_eq (l0_0 : List (List Int)) (a1_0 : Int) (l1_1 : List Int) (a2_0 : Int) (l2_1 : List Int) : impl_extension.f l0_0 a1_0 l1_1 a2_0 l2_1 = (impl_order.f l0_0).bind fun t8 => (impl_made.f (wrapI (t8 * a1_0)) (fun z0 z1 => (impl_extension_1.f z0 z1 a1_0 l1_1 a2_0 l2_1 l0_0).map fun z => z)).bind fun t13 => some t13 := by kernel_rfl
noncomputable def impl_extension.con : Con := ⟨impl_extension.fn.ins, impl_extension.fn.outs, (List (List Int)), fun x => impl_extension.f x.1 x.2.1 x.2.2.1 x.2.2.2.1 x.2.2.2.2.1, fun r => ((r, ()), (()))⟩
theorem impl_extension.valid : Valid Try.prog 88 impl_extension.con := fn_valid (f := impl_extension.fn) (E := impl_extension.E) (enc := impl_extension.enc) ⟨ttOk, (conCons impl_order.valid (conCons impl_made.valid (conCons impl_extension_1.valid conNil)))⟩ (Checked.mixed Try.checked) ⟨Try.func88, by kernel_rfl, by kernel_rfl, by kernel_rfl, by kernel_rfl, by decide, by kernel_rfl, by kernel_rfl⟩ (fun _ => rfl)
end Go.Proofs.Ytdiadcmkddkjpaa.P
set_option linter.unusedVariables false
namespace Go.Proofs.Ytdiadcmkddkjpaa.P
open Go Go.RowKit Go.Proofs.Ytdiadcmkddkjpaa.D
noncomputable def impl_counting.E : Env := { tt := TT, con := [], frz := [], rows := [], live := [(3, [3, 6, 7])], n := 16, pin := 0, nils := [] }
noncomputable def impl_counting.fn : D.Fn := { body := Try.f89.body.getD .skip, res := Try.f89.results.toList, ins := [.one (.v (.int .i64))], outs := [.one (.own 2 true (.int .i64))] }
def impl_counting.enc (y : lsd (flats impl_counting.fn.outs) × lsd (ios impl_counting.fn.ins)) : (List Int) := y.1.1
noncomputable def impl_counting.f (a0 : Int) : Option (List Int) := denF impl_counting.E impl_counting.fn impl_counting.enc (a0, ())
noncomputable def impl_counting.l0 (x6 : Int) (x7 : Int) (r0 : List Int) : Option (List Int) := denAt impl_counting.E impl_counting.fn impl_counting.enc [1, 1, 0, 1, 0] { fr := [(3, .lf (.own 0)), (6, .lf (.int .i64 x6)), (7, .lf (.int .i64 x7))], ob := [(0, .row 2 true (.int .i64) r0)], nx := 1 }
set_option maxRecDepth 100000 in
theorem impl_counting.f_eq (a0 : Int) : impl_counting.f a0 = impl_counting.l0 a0 0 ([] : List Int) := by kernel_rfl
set_option maxRecDepth 100000 in
theorem impl_counting.l0_eq (x6 : Int) (x7 : Int) (r0 : List Int) : impl_counting.l0 x6 x7 r0 = if x7 < x6 then (if r0.length + ([x7] : List Int).length ≤ 17592186044416 then (impl_counting.l0 x6 (wrapI (x7 + 1)) (r0 ++ ([x7] : List Int))) else none) else (some r0) := (loop_unfold _ _ _ _).trans (by kernel_rfl)
noncomputable def impl_counting.con : Con := ⟨impl_counting.fn.ins, impl_counting.fn.outs, (List Int), fun x => impl_counting.f x.1, fun r => ((r, ()), (()))⟩
theorem impl_counting.valid : Valid Try.prog 89 impl_counting.con := fn_valid (f := impl_counting.fn) (E := impl_counting.E) (enc := impl_counting.enc) ⟨ttOk, conNil⟩ (Checked.mixed Try.checked) ⟨Try.func89, by kernel_rfl, by kernel_rfl, by kernel_rfl, by kernel_rfl, by decide, by kernel_rfl, by kernel_rfl⟩ (fun _ => rfl)
end Go.Proofs.Ytdiadcmkddkjpaa.P
set_option linter.unusedVariables false
namespace Go.Proofs.Ytdiadcmkddkjpaa.P
open Go Go.RowKit Go.Proofs.Ytdiadcmkddkjpaa.D
noncomputable def slices_IndexFunc_int64.E : Env := { tt := TT, con := [], frz := [], rows := [], live := [(2, [0, 1, 7, 8])], n := 19, pin := 0, nils := [] }
noncomputable def slices_IndexFunc_int64.fn : D.Fn := { body := Try.f142.body.getD .skip, res := Try.f142.results.toList, ins := [.one (.v (.sl 2 (.int .i64))), .one (.fn [(.int .i64)] .bool)], outs := [.one (.v (.int .i64))] }
def slices_IndexFunc_int64.enc (y : lsd (flats slices_IndexFunc_int64.fn.outs) × lsd (ios slices_IndexFunc_int64.fn.ins)) : Int := y.1.1
noncomputable def slices_IndexFunc_int64.f (l0 : List Int) (f1 : Int → Option Bool) : Option Int := denF slices_IndexFunc_int64.E slices_IndexFunc_int64.fn slices_IndexFunc_int64.enc (l0, fun x => f1 x.1, ())
noncomputable def slices_IndexFunc_int64.l0 (x0 : List Int) (fx1 : Int → Option Bool) (x7 : Int) (x8 : Int) : Option Int := denAt slices_IndexFunc_int64.E slices_IndexFunc_int64.fn slices_IndexFunc_int64.enc [1, 0, 1, 0] { fr := [(0, .lf (.sl (.int .i64) x0)), (1, .lf (.fn [(.int .i64)] .bool (fun x => fx1 x.1))), (7, .lf (.int .i64 x7)), (8, .lf (.int .i64 x8))], ob := [], nx := 0 }
set_option maxRecDepth 100000 in
theorem slices_IndexFunc_int64.f_eq (l0 : List Int) (f1 : Int → Option Bool) : slices_IndexFunc_int64.f l0 f1 = slices_IndexFunc_int64.l0 l0 f1 (l0.length : Int) 0 := by kernel_rfl
set_option maxRecDepth 100000 in
theorem slices_IndexFunc_int64.l0_eq (x0 : List Int) (fx1 : Int → Option Bool) (x7 : Int) (x8 : Int) : slices_IndexFunc_int64.l0 x0 fx1 x7 x8 = if x8 < x7 then (if 0 ≤ x8 then (if x8 < (x0.length : Int) then ((fx1 (rd x0 x8)).bind fun t16 => if t16 = true then (some x8) else (slices_IndexFunc_int64.l0 x0 fx1 x7 (wrapI (x8 + 1)))) else none) else none) else (some (-1)) := (loop_unfold _ _ _ _).trans (by kernel_rfl)
noncomputable def slices_IndexFunc_int64.con : Con := ⟨slices_IndexFunc_int64.fn.ins, slices_IndexFunc_int64.fn.outs, Int, fun x => slices_IndexFunc_int64.f x.1 (fun z0 => x.2.1 (z0, ())), fun r => ((r, ()), (()))⟩
theorem slices_IndexFunc_int64.valid : Valid Try.prog 142 slices_IndexFunc_int64.con := fn_valid (f := slices_IndexFunc_int64.fn) (E := slices_IndexFunc_int64.E) (enc := slices_IndexFunc_int64.enc) ⟨ttOk, conNil⟩ (Checked.mixed Try.checked) ⟨Try.func142, by kernel_rfl, by kernel_rfl, by kernel_rfl, by kernel_rfl, by decide, by kernel_rfl, by kernel_rfl⟩ (fun _ => rfl)
end Go.Proofs.Ytdiadcmkddkjpaa.P
set_option linter.unusedVariables false
namespace Go.Proofs.Ytdiadcmkddkjpaa.P
open Go Go.RowKit Go.Proofs.Ytdiadcmkddkjpaa.D
noncomputable def slices_DeleteFunc_int64.E : Env := { tt := TT, con := [(142, slices_IndexFunc_int64.con)], frz := [], rows := [], live := [(5, [0, 1, 5, 6])], n := 42, pin := 1, nils := [] }
noncomputable def slices_DeleteFunc_int64.fn : D.Fn := { body := Try.f110.body.getD .skip, res := Try.f110.results.toList, ins := [.eat 2 true (.int .i64), .one (.fn [(.int .i64)] .bool)], outs := [.one (.own 2 true (.int .i64))] }
def slices_DeleteFunc_int64.enc (y : lsd (flats slices_DeleteFunc_int64.fn.outs) × lsd (ios slices_DeleteFunc_int64.fn.ins)) : (List Int) := y.1.1
noncomputable def slices_DeleteFunc_int64.f (l0 : List Int) (f1 : Int → Option Bool) : Option (List Int) := denF slices_DeleteFunc_int64.E slices_DeleteFunc_int64.fn slices_DeleteFunc_int64.enc (l0, fun x => f1 x.1, ())
noncomputable def slices_DeleteFunc_int64.l0 (fx1 : Int → Option Bool) (x5 : Int) (x6 : Int) (r0 : List Int) : Option (List Int) := denAt slices_DeleteFunc_int64.E slices_DeleteFunc_int64.fn slices_DeleteFunc_int64.enc [1, 1, 1, 0, 1, 0] { fr := [(0, .lf (.own 0)), (1, .lf (.fn [(.int .i64)] .bool (fun x => fx1 x.1))), (5, .lf (.int .i64 x5)), (6, .lf (.int .i64 x6))], ob := [(0, .row 2 true (.int .i64) r0)], nx := 1 }
set_option maxRecDepth 100000 in
theorem slices_DeleteFunc_int64.f_eq (l0 : List Int) (f1 : Int → Option Bool) : slices_DeleteFunc_int64.f l0 f1 = (slices_IndexFunc_int64.f l0 (fun z0 => (f1 z0).map fun z => z)).bind fun t10 => if t10 = (-1) then (some l0) else (slices_DeleteFunc_int64.l0 f1 t10 (wrapI (t10 + 1)) l0) := by kernel_rfl
set_option maxRecDepth 100000 in
theorem slices_DeleteFunc_int64.l0_eq (fx1 : Int → Option Bool) (x5 : Int) (x6 : Int) (r0 : List Int) : slices_DeleteFunc_int64.l0 fx1 x5 x6 r0 = if x6 < (r0.length : Int) then (if 0 ≤ x6 then (if x6 < (r0.length : Int) then (if 0 ≤ x6 then (if x6 < (r0.length : Int) then ((fx1 (rd r0 x6)).bind fun t28 => if t28 = true then (slices_DeleteFunc_int64.l0 fx1 x5 (wrapI (x6 + 1)) r0) else (if 0 ≤ x5 then (if x5 < (r0.length : Int) then (if 0 ≤ x5 then (if x5 < (r0.length : Int) then (slices_DeleteFunc_int64.l0 fx1 (wrapI (x5 + 1)) (wrapI (x6 + 1)) (r0.set (x5 : Int).toNat (rd r0 x6))) else none) else none) else none) else none)) else none) else none) else none) else none) else (if 0 < (r0.length : Int) then (if 0 ≤ x5 then (if x5 ≤ (r0.length : Int) then (if 0 < ((r0.take ((x5 : Int).toNat) ++ List.replicate (r0.length - ((x5 : Int).toNat)) 0).length : Int) then (if 0 ≤ x5 then (if x5 ≤ ((r0.take ((x5 : Int).toNat) ++ List.replicate (r0.length - ((x5 : Int).toNat)) 0).length : Int) then (some ((r0.take ((x5 : Int).toNat) ++ List.replicate (r0.length - ((x5 : Int).toNat)) 0).take (x5 : Int).toNat)) else none) else none) else none) else none) else none) else none) := (loop_unfold _ _ _ _).trans (by kernel_rfl)
noncomputable def slices_DeleteFunc_int64.con : Con := ⟨slices_DeleteFunc_int64.fn.ins, slices_DeleteFunc_int64.fn.outs, (List Int), fun x => slices_DeleteFunc_int64.f x.1 (fun z0 => x.2.1 (z0, ())), fun r => ((r, ()), (()))⟩
theorem slices_DeleteFunc_int64.valid : Valid Try.prog 110 slices_DeleteFunc_int64.con := fn_valid (f := slices_DeleteFunc_int64.fn) (E := slices_DeleteFunc_int64.E) (enc := slices_DeleteFunc_int64.enc) ⟨ttOk, (conCons slices_IndexFunc_int64.valid conNil)⟩ (Checked.mixed Try.checked) ⟨Try.func110, by kernel_rfl, by kernel_rfl, by kernel_rfl, by kernel_rfl, by decide, by kernel_rfl, by kernel_rfl⟩ (fun _ => rfl)
end Go.Proofs.Ytdiadcmkddkjpaa.P
set_option linter.unusedVariables false
namespace Go.Proofs.Ytdiadcmkddkjpaa.P
open Go Go.RowKit Go.Proofs.Ytdiadcmkddkjpaa.D
noncomputable def impl_Group_those_1.E : Env := { tt := TT, con := [], frz := [], rows := [], live := [], n := 8, pin := 1, nils := [] }
noncomputable def impl_Group_those_1.fn : D.Fn := { body := Try.f111.body.getD .skip, res := Try.f111.results.toList, ins := [.one (.v (.int .i64)), .ptr true 73 [.fn [(.int .i64)] .bool]], outs := [.one (.v .bool)] }
def impl_Group_those_1.enc (y : lsd (flats impl_Group_those_1.fn.outs) × lsd (ios impl_Group_those_1.fn.ins)) : Bool := y.1.1
noncomputable def impl_Group_those_1.f (a0 : Int) (f1 : Int → Option Bool) : Option Bool := denF impl_Group_those_1.E impl_Group_those_1.fn impl_Group_those_1.enc (a0, fun x => f1 x.1, ())
set_option maxRecDepth 100000 in
theorem impl_Group_those_1.f_eq (a0 : Int) (f1 : Int → Option Bool) : impl_Group_those_1.f a0 f1 = (f1 a0).bind fun t6 => some (!decide (t6 = true)) := by kernel_rfl
noncomputable def impl_Group_those_1.con : Con := ⟨impl_Group_those_1.fn.ins, impl_Group_those_1.fn.outs, Bool, fun x => impl_Group_those_1.f x.1 (fun z0 => x.2.1 (z0, ())), fun r => ((r, ()), (()))⟩
theorem impl_Group_those_1.valid : Valid Try.prog 111 impl_Group_those_1.con := fn_valid (f := impl_Group_those_1.fn) (E := impl_Group_those_1.E) (enc := impl_Group_those_1.enc) ⟨ttOk, conNil⟩ (Checked.mixed Try.checked) ⟨Try.func111, by kernel_rfl, by kernel_rfl, by kernel_rfl, by kernel_rfl, by decide, by kernel_rfl, by kernel_rfl⟩ (fun _ => rfl)
end Go.Proofs.Ytdiadcmkddkjpaa.P
set_option linter.unusedVariables false
namespace Go.Proofs.Ytdiadcmkddkjpaa.P
open Go Go.RowKit Go.Proofs.Ytdiadcmkddkjpaa.D
noncomputable def impl_Group_those.E : Env := { tt := TT, con := [(68, impl_order.con), (89, impl_counting.con), (110, slices_DeleteFunc_int64.con), (111, impl_Group_those_1.con)], frz := [], rows := [], live := [], n := 10, pin := 0, nils := [] }
noncomputable def impl_Group_those.fn : D.Fn := { body := Try.f61.body.getD .skip, res := Try.f61.results.toList, ins := [.agg [.v (.sl 25 (.sl 2 (.int .i64)))], .one (.fn [(.int .i64)] .bool)], outs := [.one (.own 2 true (.int .i64))] }
def impl_Group_those.enc (y : lsd (flats impl_Group_those.fn.outs) × lsd (ios impl_Group_those.fn.ins)) : (List Int) := y.1.1
noncomputable def impl_Group_those.f (l0_0 : List (List Int)) (f1 : Int → Option Bool) : Option (List Int) := denF impl_Group_those.E impl_Group_those.fn impl_Group_those.enc (l0_0, fun x => f1 x.1, ())
set_option maxRecDepth 100000 in
theorem impl_Group_those.f_eq (l0_0 : List (List Int)) (f1 : Int → Option Bool) : impl_Group_those.f l0_0 f1 = (impl_order.f l0_0).bind fun t6 => (impl_counting.f t6).bind fun t7 => (slices_DeleteFunc_int64.f t7 (fun z0 => (impl_Group_those_1.f z0 (fun u0 => (f1 u0).map fun z => z)).map fun z => z)).bind fun t9 => some t9 := by kernel_rfl
noncomputable def impl_Group_those.con : Con := ⟨impl_Group_those.fn.ins, impl_Group_those.fn.outs, (List Int), fun x => impl_Group_those.f x.1 (fun z0 => x.2.1 (z0, ())), fun r => ((r, ()), (()))⟩
theorem impl_Group_those.valid : Valid Try.prog 61 impl_Group_those.con := fn_valid (f := impl_Group_those.fn) (E := impl_Group_those.E) (enc := impl_Group_those.enc) ⟨ttOk, (conCons impl_order.valid (conCons impl_counting.valid (conCons slices_DeleteFunc_int64.valid (conCons impl_Group_those_1.valid conNil))))⟩ (Checked.mixed Try.checked) ⟨Try.func61, by kernel_rfl, by kernel_rfl, by kernel_rfl, by kernel_rfl, by decide, by kernel_rfl, by kernel_rfl⟩ (fun _ => rfl)
end Go.Proofs.Ytdiadcmkddkjpaa.P
set_option linter.unusedVariables false
namespace Go.Proofs.Ytdiadcmkddkjpaa.P
open Go Go.RowKit Go.Proofs.Ytdiadcmkddkjpaa.D
noncomputable def slices_ContainsFunc_int64.E : Env := { tt := TT, con := [(142, slices_IndexFunc_int64.con)], frz := [], rows := [], live := [], n := 9, pin := 0, nils := [] }
noncomputable def slices_ContainsFunc_int64.fn : D.Fn := { body := Try.f134.body.getD .skip, res := Try.f134.results.toList, ins := [.one (.v (.sl 2 (.int .i64))), .one (.fn [(.int .i64)] .bool)], outs := [.one (.v .bool)] }
def slices_ContainsFunc_int64.enc (y : lsd (flats slices_ContainsFunc_int64.fn.outs) × lsd (ios slices_ContainsFunc_int64.fn.ins)) : Bool := y.1.1
noncomputable def slices_ContainsFunc_int64.f (l0 : List Int) (f1 : Int → Option Bool) : Option Bool := denF slices_ContainsFunc_int64.E slices_ContainsFunc_int64.fn slices_ContainsFunc_int64.enc (l0, fun x => f1 x.1, ())
set_option maxRecDepth 100000 in
theorem slices_ContainsFunc_int64.f_eq (l0 : List Int) (f1 : Int → Option Bool) : slices_ContainsFunc_int64.f l0 f1 = (slices_IndexFunc_int64.f l0 (fun z0 => (f1 z0).map fun z => z)).bind fun t7 => some (decide (t7 ≥ 0)) := by kernel_rfl
noncomputable def slices_ContainsFunc_int64.con : Con := ⟨slices_ContainsFunc_int64.fn.ins, slices_ContainsFunc_int64.fn.outs, Bool, fun x => slices_ContainsFunc_int64.f x.1 (fun z0 => x.2.1 (z0, ())), fun r => ((r, ()), (()))⟩
theorem slices_ContainsFunc_int64.valid : Valid Try.prog 134 slices_ContainsFunc_int64.con := fn_valid (f := slices_ContainsFunc_int64.fn) (E := slices_ContainsFunc_int64.E) (enc := slices_ContainsFunc_int64.enc) ⟨ttOk, (conCons slices_IndexFunc_int64.valid conNil)⟩ (Checked.mixed Try.checked) ⟨Try.func134, by kernel_rfl, by kernel_rfl, by kernel_rfl, by kernel_rfl, by decide, by kernel_rfl, by kernel_rfl⟩ (fun _ => rfl)
end Go.Proofs.Ytdiadcmkddkjpaa.P
set_option linter.unusedVariables false
namespace Go.Proofs.Ytdiadcmkddkjpaa.P
open Go Go.RowKit Go.Proofs.Ytdiadcmkddkjpaa.D
noncomputable def impl_Group_centre_1_1.E : Env := { tt := TT, con := [(122, impl_Group_times.con)], frz := [], rows := [], live := [], n := 16, pin := 2, nils := [] }
noncomputable def impl_Group_centre_1_1.fn : D.Fn := { body := Try.f135.body.getD .skip, res := Try.f135.results.toList, ins := [.one (.v (.int .i64)), .ptr true 32 [.v (.sl 25 (.sl 2 (.int .i64)))], .ptr true 2 [.v (.int .i64)]], outs := [.one (.v .bool)] }
def impl_Group_centre_1_1.enc (y : lsd (flats impl_Group_centre_1_1.fn.outs) × lsd (ios impl_Group_centre_1_1.fn.ins)) : Bool := y.1.1
noncomputable def impl_Group_centre_1_1.f (a0 : Int) (l1 : List (List Int)) (a2 : Int) : Option Bool := denF impl_Group_centre_1_1.E impl_Group_centre_1_1.fn impl_Group_centre_1_1.enc (a0, l1, a2, ())
set_option maxRecDepth 100000 in
theorem impl_Group_centre_1_1.f_eq (a0 : Int) (l1 : List (List Int)) (a2 : Int) : impl_Group_centre_1_1.f a0 l1 a2 = (impl_Group_times.f l1 ([a2, a0] : List Int)).bind fun t9 => (impl_Group_times.f l1 ([a0, a2] : List Int)).bind fun t14 => some (!decide (t9 = t14)) := by kernel_rfl
noncomputable def impl_Group_centre_1_1.con : Con := ⟨impl_Group_centre_1_1.fn.ins, impl_Group_centre_1_1.fn.outs, Bool, fun x => impl_Group_centre_1_1.f x.1 x.2.1 x.2.2.1, fun r => ((r, ()), (()))⟩
theorem impl_Group_centre_1_1.valid : Valid Try.prog 135 impl_Group_centre_1_1.con := fn_valid (f := impl_Group_centre_1_1.fn) (E := impl_Group_centre_1_1.E) (enc := impl_Group_centre_1_1.enc) ⟨ttOk, (conCons impl_Group_times.valid conNil)⟩ (Checked.mixed Try.checked) ⟨Try.func135, by kernel_rfl, by kernel_rfl, by kernel_rfl, by kernel_rfl, by decide, by kernel_rfl, by kernel_rfl⟩ (fun _ => rfl)
end Go.Proofs.Ytdiadcmkddkjpaa.P
set_option linter.unusedVariables false
namespace Go.Proofs.Ytdiadcmkddkjpaa.P
open Go Go.RowKit Go.Proofs.Ytdiadcmkddkjpaa.D
noncomputable def impl_Group_centre_1.E : Env := { tt := TT, con := [(68, impl_order.con), (89, impl_counting.con), (134, slices_ContainsFunc_int64.con), (135, impl_Group_centre_1_1.con)], frz := [], rows := [], live := [], n := 10, pin := 1, nils := [] }
noncomputable def impl_Group_centre_1.fn : D.Fn := { body := Try.f133.body.getD .skip, res := Try.f133.results.toList, ins := [.one (.v (.int .i64)), .ptr true 32 [.v (.sl 25 (.sl 2 (.int .i64)))]], outs := [.one (.v .bool)] }
def impl_Group_centre_1.enc (y : lsd (flats impl_Group_centre_1.fn.outs) × lsd (ios impl_Group_centre_1.fn.ins)) : Bool := y.1.1
noncomputable def impl_Group_centre_1.f (a0 : Int) (l1 : List (List Int)) : Option Bool := denF impl_Group_centre_1.E impl_Group_centre_1.fn impl_Group_centre_1.enc (a0, l1, ())
set_option maxRecDepth 100000 in
theorem impl_Group_centre_1.f_eq (a0 : Int) (l1 : List (List Int)) : impl_Group_centre_1.f a0 l1 = (impl_order.f l1).bind fun t5 => (impl_counting.f t5).bind fun t6 => (slices_ContainsFunc_int64.f t6 (fun z0 => (impl_Group_centre_1_1.f z0 l1 a0).map fun z => z)).bind fun t8 => some (!decide (t8 = true)) := by kernel_rfl
noncomputable def impl_Group_centre_1.con : Con := ⟨impl_Group_centre_1.fn.ins, impl_Group_centre_1.fn.outs, Bool, fun x => impl_Group_centre_1.f x.1 x.2.1, fun r => ((r, ()), (()))⟩
theorem impl_Group_centre_1.valid : Valid Try.prog 133 impl_Group_centre_1.con := fn_valid (f := impl_Group_centre_1.fn) (E := impl_Group_centre_1.E) (enc := impl_Group_centre_1.enc) ⟨ttOk, (conCons impl_order.valid (conCons impl_counting.valid (conCons slices_ContainsFunc_int64.valid (conCons impl_Group_centre_1_1.valid conNil))))⟩ (Checked.mixed Try.checked) ⟨Try.func133, by kernel_rfl, by kernel_rfl, by kernel_rfl, by kernel_rfl, by decide, by kernel_rfl, by kernel_rfl⟩ (fun _ => rfl)
end Go.Proofs.Ytdiadcmkddkjpaa.P
set_option linter.unusedVariables false
namespace Go.Proofs.Ytdiadcmkddkjpaa.P
open Go Go.RowKit Go.Proofs.Ytdiadcmkddkjpaa.D
noncomputable def impl_Group_centre.E : Env := { tt := TT, con := [(61, impl_Group_those.con), (133, impl_Group_centre_1.con)], frz := [], rows := [], live := [], n := 6, pin := 0, nils := [] }
noncomputable def impl_Group_centre.fn : D.Fn := { body := Try.f91.body.getD .skip, res := Try.f91.results.toList, ins := [.agg [.v (.sl 25 (.sl 2 (.int .i64)))]], outs := [.one (.own 2 true (.int .i64))] }
def impl_Group_centre.enc (y : lsd (flats impl_Group_centre.fn.outs) × lsd (ios impl_Group_centre.fn.ins)) : (List Int) := y.1.1
noncomputable def impl_Group_centre.f (l0_0 : List (List Int)) : Option (List Int) := denF impl_Group_centre.E impl_Group_centre.fn impl_Group_centre.enc (l0_0, ())
set_option maxRecDepth 100000 in
theorem impl_Group_centre.f_eq (l0_0 : List (List Int)) : impl_Group_centre.f l0_0 = (impl_Group_those.f l0_0 (fun z0 => (impl_Group_centre_1.f z0 l0_0).map fun z => z)).bind fun t5 => some t5 := by kernel_rfl
noncomputable def impl_Group_centre.con : Con := ⟨impl_Group_centre.fn.ins, impl_Group_centre.fn.outs, (List Int), fun x => impl_Group_centre.f x.1, fun r => ((r, ()), (()))⟩
theorem impl_Group_centre.valid : Valid Try.prog 91 impl_Group_centre.con := fn_valid (f := impl_Group_centre.fn) (E := impl_Group_centre.E) (enc := impl_Group_centre.enc) ⟨ttOk, (conCons impl_Group_those.valid (conCons impl_Group_centre_1.valid conNil))⟩ (Checked.mixed Try.checked) ⟨Try.func91, by kernel_rfl, by kernel_rfl, by kernel_rfl, by kernel_rfl, by decide, by kernel_rfl, by kernel_rfl⟩ (fun _ => rfl)
end Go.Proofs.Ytdiadcmkddkjpaa.P
set_option linter.unusedVariables false
namespace Go.Proofs.Ytdiadcmkddkjpaa.P
open Go Go.RowKit Go.Proofs.Ytdiadcmkddkjpaa.D
noncomputable def impl_CentreOfExtension.E : Env := { tt := TT, con := [(87, impl_factorCode.con), (88, impl_extension.con), (91, impl_Group_centre.con)], frz := [], rows := [], live := [], n := 21, pin := 0, nils := [] }
noncomputable def impl_CentreOfExtension.fn : D.Fn := { body := Try.f50.body.getD .skip, res := Try.f50.results.toList, ins := [.agg [.v (.sl 25 (.sl 2 (.int .i64)))], .agg [.v (.int .i64), .v (.sl 2 (.int .i64))], .agg [.v (.int .i64), .v (.sl 2 (.int .i64))]], outs := [.one (.own 2 true (.int .i64)), .one (.v (.int .i64))] }
def impl_CentreOfExtension.enc (y : lsd (flats impl_CentreOfExtension.fn.outs) × lsd (ios impl_CentreOfExtension.fn.ins)) : (List Int) × Int := (y.1.1, y.1.2.1)
noncomputable def impl_CentreOfExtension.f (l0_0 : List (List Int)) (a1_0 : Int) (l1_1 : List Int) (a2_0 : Int) (l2_1 : List Int) : Option ((List Int) × Int) := denF impl_CentreOfExtension.E impl_CentreOfExtension.fn impl_CentreOfExtension.enc (l0_0, a1_0, l1_1, a2_0, l2_1, ())
set_option maxRecDepth 100000 in
theorem impl_CentreOfExtension.f_eq (l0_0 : List (List Int)) (a1_0 : Int) (l1_1 : List Int) (a2_0 : Int) (l2_1 : List Int) : impl_CentreOfExtension.f l0_0 a1_0 l1_1 a2_0 l2_1 = (impl_factorCode.f l0_0 a1_0 l1_1 a2_0 l2_1 64).bind fun t12 => if t12 = 0 then ((impl_extension.f l0_0 a1_0 l1_1 a2_0 l2_1).bind fun t19 => (impl_Group_centre.f t19).bind fun t20 => some (t20, 0)) else (some (([] : List Int), t12)) := by kernel_rfl
noncomputable def impl_CentreOfExtension.con : Con := ⟨impl_CentreOfExtension.fn.ins, impl_CentreOfExtension.fn.outs, (List Int) × Int, fun x => impl_CentreOfExtension.f x.1 x.2.1 x.2.2.1 x.2.2.2.1 x.2.2.2.2.1, fun r => ((r.1, r.2, ()), (()))⟩
theorem impl_CentreOfExtension.valid : Valid Try.prog 50 impl_CentreOfExtension.con := fn_valid (f := impl_CentreOfExtension.fn) (E := impl_CentreOfExtension.E) (enc := impl_CentreOfExtension.enc) ⟨ttOk, (conCons impl_factorCode.valid (conCons impl_extension.valid (conCons impl_Group_centre.valid conNil)))⟩ (Checked.mixed Try.checked) ⟨Try.func50, by kernel_rfl, by kernel_rfl, by kernel_rfl, by kernel_rfl, by decide, by kernel_rfl, by kernel_rfl⟩ (fun _ => rfl)
end Go.Proofs.Ytdiadcmkddkjpaa.P
set_option linter.unusedVariables false
namespace Go.Proofs.Ytdiadcmkddkjpaa.P
open Go Go.RowKit Go.Proofs.Ytdiadcmkddkjpaa.D
noncomputable def laws_FnExactCentreOfExtension.E : Env := { tt := TT, con := [(13, laws_szGroup.con), (14, laws_szModule.con), (29, laws_szCochain.con), (16, laws_toGroup.con), (17, laws_toModule.con), (31, laws_toCochain.con), (49, spec_CentreOfExtension.con), (50, impl_CentreOfExtension.con), (20, laws_eqInt64S.con), (21, laws_eqGroup.con), (22, laws_eqModule.con), (33, laws_eqCochain.con), (23, laws_markGroup.con), (24, laws_markModule.con), (34, laws_markCochain.con), (25, laws_markInt64S.con), (26, laws_heldInt64S.con)], frz := [], rows := [], live := [], n := 142, pin := 0, nils := [] }
noncomputable def laws_FnExactCentreOfExtension.fn : D.Fn := { body := Try.f10.body.getD .skip, res := Try.f10.results.toList, ins := [.agg [.v (.sl 25 (.sl 2 (.int .i64)))], .agg [.v (.int .i64), .v (.sl 2 (.int .i64))], .agg [.v (.int .i64), .v (.sl 2 (.int .i64))]], outs := [.one (.v .bool)] }
def laws_FnExactCentreOfExtension.enc (y : lsd (flats laws_FnExactCentreOfExtension.fn.outs) × lsd (ios laws_FnExactCentreOfExtension.fn.ins)) : Bool := y.1.1
noncomputable def laws_FnExactCentreOfExtension.f (l0_0 : List (List Int)) (a1_0 : Int) (l1_1 : List Int) (a2_0 : Int) (l2_1 : List Int) : Option Bool := denF laws_FnExactCentreOfExtension.E laws_FnExactCentreOfExtension.fn laws_FnExactCentreOfExtension.enc (l0_0, a1_0, l1_1, a2_0, l2_1, ())
set_option maxRecDepth 100000 in
theorem laws_FnExactCentreOfExtension.f_eq (l0_0 : List (List Int)) (a1_0 : Int) (l1_1 : List Int) (a2_0 : Int) (l2_1 : List Int) : laws_FnExactCentreOfExtension.f l0_0 a1_0 l1_1 a2_0 l2_1 = (laws_szGroup.f l0_0 1048576).bind fun t22 => if t22 < 0 then (some true) else ((laws_szModule.f a1_0 l1_1 t22).bind fun t27 => if t27 < 0 then (some true) else ((laws_szCochain.f a2_0 l2_1 t27).bind fun t32 => if t32 < 0 then (some true) else ((laws_toGroup.f l0_0).bind fun t37 => (laws_toModule.f a1_0 l1_1).bind fun t39 => (laws_toCochain.f a2_0 l2_1).bind fun t41 => (spec_CentreOfExtension.f t37 t39.1 t39.2 t41.1 t41.2).bind fun t42 => (laws_toGroup.f l0_0).bind fun t46 => (laws_toModule.f a1_0 l1_1).bind fun t48 => (laws_toCochain.f a2_0 l2_1).bind fun t50 => (impl_CentreOfExtension.f t46 t48.1 t48.2 t50.1 t50.2).bind fun t55 => (laws_eqInt64S.f t55.1 t42.1).bind fun t60 => if t60 = true then (if t55.2 = t42.2 then ((laws_toGroup.f l0_0).bind fun t69 => (laws_eqGroup.f t46 t69).bind fun t70 => if t70 = true then ((laws_toModule.f a1_0 l1_1).bind fun t74 => (laws_eqModule.f t48.1 t48.2 t74.1 t74.2).bind fun t75 => if t75 = true then ((laws_toCochain.f a2_0 l2_1).bind fun t79 => (laws_eqCochain.f t50.1 t50.2 t79.1 t79.2).bind fun t80 => if t80 = true then ((laws_markGroup.f t46 1).bind fun t84 => (laws_markModule.f t48.1 t48.2 t84.1).bind fun t87 => (laws_markCochain.f t50.1 t50.2 t87.1).bind fun t90 => if t90.1 < 0 then (some false) else ((laws_eqInt64S.f t55.1 t42.1).bind fun t96 => if t96 = true then (if t55.2 = t42.2 then ((laws_markInt64S.f t55.1 1).bind fun t106 => (laws_heldInt64S.f t106.2 1).bind fun t109 => if t109 < 0 then (some false) else (if t109 = t106.1 then ((laws_toGroup.f l0_0).bind fun t117 => (laws_toModule.f a1_0 l1_1).bind fun t119 => (laws_toCochain.f a2_0 l2_1).bind fun t121 => (impl_CentreOfExtension.f t117 t119.1 t119.2 t121.1 t121.2).bind fun t122 => (laws_eqInt64S.f t122.1 t42.1).bind fun t127 => if t127 = true then (if t122.2 = t42.2 then ((laws_heldInt64S.f t106.2 1).bind fun t136 => if t136 < 0 then (some false) else (if t136 = t106.1 then (some true) else (some false))) else (some false)) else (some false)) else (some false))) else (some false)) else (some false))) else (some false)) else (some false)) else (some false)) else (some false)) else (some false)))) := by kernel_rfl
noncomputable def laws_FnExactCentreOfExtension.con : Con := ⟨laws_FnExactCentreOfExtension.fn.ins, laws_FnExactCentreOfExtension.fn.outs, Bool, fun x => laws_FnExactCentreOfExtension.f x.1 x.2.1 x.2.2.1 x.2.2.2.1 x.2.2.2.2.1, fun r => ((r, ()), (()))⟩
theorem laws_FnExactCentreOfExtension.valid : Valid Try.prog 10 laws_FnExactCentreOfExtension.con := fn_valid (f := laws_FnExactCentreOfExtension.fn) (E := laws_FnExactCentreOfExtension.E) (enc := laws_FnExactCentreOfExtension.enc) ⟨ttOk, (conCons laws_szGroup.valid (conCons laws_szModule.valid (conCons laws_szCochain.valid (conCons laws_toGroup.valid (conCons laws_toModule.valid (conCons laws_toCochain.valid (conCons spec_CentreOfExtension.valid (conCons impl_CentreOfExtension.valid (conCons laws_eqInt64S.valid (conCons laws_eqGroup.valid (conCons laws_eqModule.valid (conCons laws_eqCochain.valid (conCons laws_markGroup.valid (conCons laws_markModule.valid (conCons laws_markCochain.valid (conCons laws_markInt64S.valid (conCons laws_heldInt64S.valid conNil)))))))))))))))))⟩ (Checked.mixed Try.checked) ⟨Try.func10, by kernel_rfl, by kernel_rfl, by kernel_rfl, by kernel_rfl, by decide, by kernel_rfl, by kernel_rfl⟩ (fun _ => rfl)
end Go.Proofs.Ytdiadcmkddkjpaa.P
set_option linter.unusedVariables false
namespace Go.Proofs.Ytdiadcmkddkjpaa.P
open Go Go.RowKit Go.Proofs.Ytdiadcmkddkjpaa.D
end Go.Proofs.Ytdiadcmkddkjpaa.P
set_option linter.unusedVariables false
namespace Go.Proofs.Ytdiadcmkddkjpaa.P
open Go Go.RowKit Go.Proofs.Ytdiadcmkddkjpaa.D
end Go.Proofs.Ytdiadcmkddkjpaa.P
set_option linter.unusedVariables false
namespace Go.Proofs.Ytdiadcmkddkjpaa.P
open Go Go.RowKit Go.Proofs.Ytdiadcmkddkjpaa.D
end Go.Proofs.Ytdiadcmkddkjpaa.P
set_option linter.unusedVariables false
namespace Go.Proofs.Ytdiadcmkddkjpaa.V
open Go Go.RowKit Go.Proofs.Ytdiadcmkddkjpaa.D
theorem w64 {x : Int} (h0 : -9223372036854775808 ≤ x) (h1 : x ≤ 9223372036854775807) : wrapI x = x := by unfold wrapI; rw [hid_eq]; unfold wrap64; omega
theorem wn {j : Nat} (h : j < 4611686018427387904) : wrapI ((j : Int) + 1) = ((j + 1 : Nat) : Int) := by rw [w64 (by omega) (by omega)]; omega
theorem go_pos {α : Type} {p : Prop} {inst : Decidable p} {a b r : α} (h : p) (k : a = r) : (if p then a else b) = r := by rw [if_pos h]; exact k
theorem go_neg {α : Type} {p : Prop} {inst : Decidable p} {a b r : α} (h : ¬ p) (k : b = r) : (if p then a else b) = r := by rw [if_neg h]; exact k
theorem go_bind {α β : Type} {c : Option α} {f : α → Option β} {a : α} {r : Option β} (h : c = some a) (k : f a = r) : c.bind f = r := by rw [h]; exact k
theorem maxLen_le : maxLen ≤ 9223372036854775807 := by unfold maxLen; omega
theorem le_maxLen {n : Nat} (h : n ≤ 9223372036854775807) : n ≤ maxLen := by unfold maxLen; omega
noncomputable def ite_ {α : Type} (p : Prop) (a b : α) : α := @ite α p (Classical.propDecidable p) a b
theorem ite_pos {α : Type} {p : Prop} (h : p) (a b : α) : ite_ p a b = a := by unfold ite_; simp [h]
theorem ite_neg {α : Type} {p : Prop} (h : ¬ p) (a b : α) : ite_ p a b = b := by unfold ite_; simp [h]
noncomputable def B (p : Prop) : Bool := @decide p (Classical.propDecidable p)
theorem B_pos {p : Prop} (h : p) : B p = true := by unfold B; simp [h]
theorem B_neg {p : Prop} (h : ¬ p) : B p = false := by unfold B; simp [h]
theorem B_not {p : Prop} (h : ¬ p) : ¬ (B p = true) := by rw [B_neg h]; decide
theorem B_congr {p q : Prop} (h : p ↔ q) : B p = B q := by rw [show p = q from propext h]
theorem B_decide (p : Prop) {inst : Decidable p} : decide p = B p := by by_cases h : p <;> simp [h, B]
theorem B_true : B True = true := B_pos trivial
theorem scan {R : Type} (n : Nat) (L : Int → R) (P : Int → Prop) (bad : R)
    (hs : ∀ i : Int, 0 ≤ i → i < n → (∀ j : Int, 0 ≤ j → j < i → P j) → (P i → L i = L (i + 1)) ∧ (¬ P i → L i = bad)) :
    ((∀ j : Int, 0 ≤ j → j < n → P j) ∧ L 0 = L n) ∨ (∃ m : Int, 0 ≤ m ∧ m < n ∧ (∀ j : Int, 0 ≤ j → j < m → P j) ∧ ¬ P m ∧ L 0 = L m ∧ L 0 = bad) := by
  suffices H : ∀ d m : Nat, m + d = n → (∀ j : Int, 0 ≤ j → j < m → P j) →
      ((∀ j : Int, 0 ≤ j → j < n → P j) ∧ L m = L n) ∨ (∃ i : Int, 0 ≤ i ∧ i < n ∧ (∀ j : Int, 0 ≤ j → j < i → P j) ∧ ¬ P i ∧ L m = L i ∧ L m = bad) by
    simpa using H n 0 (by omega) (fun j h0 h1 => by omega)
  intro d
  induction d with
  | zero =>
    intro m hm hp
    have : (m : Int) = n := by omega
    rw [this] at hp ⊢
    exact .inl ⟨hp, rfl⟩
  | succ d ih =>
    intro m hm hp
    obtain ⟨h1, h2⟩ := hs m (by omega) (by omega) hp
    by_cases h : P m
    · have hp' : ∀ j : Int, 0 ≤ j → j < ((m + 1 : Nat) : Int) → P j := fun j h0 hj => by
        by_cases e : j = m
        · rw [e]; exact h
        · exact hp j h0 (by omega)
      have := ih (m + 1) (by omega) hp'
      rwa [Int.natCast_add, Int.natCast_one, ← h1 h] at this
    · exact .inr ⟨m, by omega, by omega, hp, h, rfl, h2 h⟩
theorem scanB (n : Nat) (L : Int → Option Bool) (P : Int → Prop) (Q : Prop)
    (hs : ∀ i : Int, 0 ≤ i → i < n → (∀ j : Int, 0 ≤ j → j < i → P j) → (P i → L i = L (i + 1)) ∧ (¬ P i → L i = some false))
    (he : (∀ j : Int, 0 ≤ j → j < n → P j) → L n = some (B Q)) : L 0 = some (B ((∀ j : Int, 0 ≤ j → j < n → P j) ∧ Q)) := by
  rcases scan n L P (some false) hs with ⟨h1, h2⟩ | ⟨j, h0, h1, _, h2, _, h3⟩
  · rw [B_congr (show ((∀ j : Int, 0 ≤ j → j < n → P j) ∧ Q) ↔ Q from ⟨fun h => h.2, fun h => ⟨h1, h⟩⟩), h2]
    exact he h1
  · rw [B_neg fun h => h2 (h.1 j h0 h1)]
    exact h3
theorem scanT (n : Nat) (L : Int → Option Bool) (P : Int → Prop)
    (hs : ∀ i : Int, 0 ≤ i → i < n → (∀ j : Int, 0 ≤ j → j < i → P j) → (P i → L i = L (i + 1)) ∧ (¬ P i → L i = some false))
    (he : (∀ j : Int, 0 ≤ j → j < n → P j) → L n = some true) : L 0 = some (B (∀ j : Int, 0 ≤ j → j < n → P j)) := by
  have := scanB n L P True hs (fun h => by rw [B_true]; exact he h)
  rwa [B_congr (show ((∀ j : Int, 0 ≤ j → j < n → P j) ∧ True) ↔ _ from ⟨fun h => h.1, fun h => ⟨h, trivial⟩⟩)] at this
theorem scanI {R : Type} (n : Nat) (L : Int → R) (P : Int → Prop) (bad go : R)
    (hs : ∀ i : Int, 0 ≤ i → i < n → (∀ j : Int, 0 ≤ j → j < i → P j) → (P i → L i = L (i + 1)) ∧ (¬ P i → L i = bad)) (he : (∀ j : Int, 0 ≤ j → j < n → P j) → L n = go) :
    ((∀ j : Int, 0 ≤ j → j < n → P j) → L 0 = go) ∧ (¬ (∀ j : Int, 0 ≤ j → j < n → P j) → L 0 = bad) := by
  rcases scan n L P bad hs with ⟨h1, h2⟩ | ⟨j, h0, h1, _, h2, _, h3⟩
  · exact ⟨fun _ => h2.trans (he h1), fun h => absurd h1 h⟩
  · exact ⟨fun h => absurd (h j h0 h1) h2, fun _ => h3⟩
theorem up {R : Type} (n : Nat) (L : Nat → R) (h : ∀ i, i < n → L i = L (i + 1)) : L 0 = L n := by
  suffices H : ∀ m, m ≤ n → L 0 = L m from H n (Nat.le_refl _)
  intro m
  induction m with
  | zero => exact fun _ => rfl
  | succ m ih => exact fun hm => (ih (by omega)).trans (h m (by omega))
theorem rd_get {xs : List Int} {j : Nat} (h : j < xs.length) : rd xs (j : Int) = xs[j] := by simp [rd, List.getD_eq_getElem?_getD, List.getElem?_eq_getElem h]
theorem rd_at {xs : List Int} {i : Int} (h0 : 0 ≤ i) (h1 : i < xs.length) : xs[i.toNat]? = some (rd xs i) := by
  have h : i.toNat < xs.length := by omega
  simp [rd, List.getD_eq_getElem?_getD, List.getElem?_eq_getElem h]
theorem rd_mem {xs : List Int} {i : Int} (h0 : 0 ≤ i) (h1 : i < xs.length) : rd xs i ∈ xs := List.mem_of_getElem? (rd_at h0 h1)
theorem ext_rd {xs ys : List Int} (hl : xs.length = ys.length) (h : ∀ i : Int, 0 ≤ i → i < xs.length → rd xs i = rd ys i) : xs = ys := by
  apply List.ext_getElem hl
  intro i h1 h2
  have := h i (by omega) (by omega)
  simpa [rd, List.getD_eq_getElem?_getD, List.getElem?_eq_getElem h1, List.getElem?_eq_getElem h2] using this
theorem row_get {g : List (List Int)} {j : Nat} (h : j < g.length) : row g (j : Int) = g[j] := by simp [row, List.getD_eq_getElem?_getD, List.getElem?_eq_getElem h]
theorem row_mem {g : List (List Int)} {a : Int} (h0 : 0 ≤ a) (h1 : a < g.length) : row g a ∈ g := by
  have h : a.toNat < g.length := by omega
  unfold row
  rw [List.getD_eq_getElem?_getD, List.getElem?_eq_getElem h]
  exact List.getElem_mem h
theorem mem_row {g : List (List Int)} {r : List Int} (h : r ∈ g) : ∃ i : Int, 0 ≤ i ∧ i < g.length ∧ row g i = r := by
  obtain ⟨i, hi, rfl⟩ := List.mem_iff_getElem.1 h
  exact ⟨i, by omega, by omega, row_get hi⟩
theorem ext_row {xs ys : List (List Int)} (hl : xs.length = ys.length) (h : ∀ i : Int, 0 ≤ i → i < xs.length → row xs i = row ys i) : xs = ys := by
  apply List.ext_getElem hl
  intro i h1 h2
  have := h i (by omega) (by omega)
  rwa [row_get h1, row_get h2] at this
def AllIn (n : Int) (xs : List Int) : Prop := ∀ i : Int, 0 ≤ i → i < xs.length → 0 ≤ rd xs i ∧ rd xs i < n
theorem allIn_one {n x : Int} (h0 : 0 ≤ x) (h1 : x < n) : AllIn n [x] := by
  intro i i0 i1
  have : i = 0 := by simp at i1; omega
  subst this; simp [rd, *]
theorem allIn_two {n x y : Int} (h0 : 0 ≤ x) (h1 : x < n) (h2 : 0 ≤ y) (h3 : y < n) : AllIn n [x, y] := by
  intro i i0 i1
  have : i = 0 ∨ i = 1 := by simp at i1; omega
  rcases this with rfl | rfl <;> simp [rd, *]
theorem AllIn.mem {n : Int} {xs : List Int} (h : AllIn n xs) {x : Int} (hx : x ∈ xs) : 0 ≤ x ∧ x < n := by
  obtain ⟨i, hi, rfl⟩ := List.mem_iff_getElem.1 hx
  have := h i (by omega) (by omega)
  rwa [rd_get hi] at this
theorem allIn_of {n : Int} {xs : List Int} (h : ∀ x ∈ xs, 0 ≤ x ∧ x < n) : AllIn n xs := fun i i0 i1 => h _ (rd_mem i0 i1)
theorem AllIn.drop {n : Int} {xs : List Int} (h : AllIn n xs) (j : Nat) : AllIn n (xs.drop j) := allIn_of fun x hx => h.mem (List.mem_of_mem_drop hx)
theorem AllIn.take {n : Int} {xs : List Int} (h : AllIn n xs) (j : Nat) : AllIn n (xs.take j) := allIn_of fun x hx => h.mem (List.mem_of_mem_take hx)
theorem AllIn.append {n : Int} {xs ys : List Int} (h : AllIn n xs) (k : AllIn n ys) : AllIn n (xs ++ ys) := allIn_of fun x hx => by
  rcases List.mem_append.1 hx with h' | h'
  · exact h.mem h'
  · exact k.mem h'
theorem tmod_nn {a m : Int} (h : 0 ≤ a) : Int.tmod a m = a % m := Int.tmod_eq_emod_of_nonneg h
theorem tdiv_nn {a m : Int} (h : 0 ≤ a) : Int.tdiv a m = a / m := Int.tdiv_eq_ediv_of_nonneg h
end Go.Proofs.Ytdiadcmkddkjpaa.V
set_option linter.unusedVariables false
set_option linter.unusedSimpArgs false
set_option maxHeartbeats 2000000
set_option maxRecDepth 20000
namespace Go.Proofs.Ytdiadcmkddkjpaa.V
open Go.RowKit Go.Proofs.Ytdiadcmkddkjpaa.D Go.Proofs.Ytdiadcmkddkjpaa.P
theorem copy_step {α : Type} (xs : List α) (d : α) (m : Nat) (hm : m < xs.length) :
    (xs.take m ++ List.replicate (xs.length - m) d).set m xs[m] = xs.take (m + 1) ++ List.replicate (xs.length - (m + 1)) d := by
  have h1 : (xs.take m).length = m := by rw [List.length_take]; omega
  rw [List.set_append, if_neg (by omega), h1, Nat.sub_self]
  rw [show xs.length - m = (xs.length - (m + 1)) + 1 by omega, List.replicate_succ, List.set_cons_zero]
  rw [List.take_succ_eq_append_getElem hm, List.append_assoc]; rfl
theorem copy_len {α : Type} (xs : List α) (d : α) (m : Nat) (hm : m ≤ xs.length) : (xs.take m ++ List.replicate (xs.length - m) d).length = xs.length := by
  rw [List.length_append, List.length_take, List.length_replicate]; omega
theorem toInt64S (xs : List Int) (hl : xs.length ≤ 1048576) : laws_toInt64S.f xs = some xs := by
  rw [laws_toInt64S.f_eq, Int.toNat_natCast]
  (with_reducible repeat (first | refine go_pos (by first | assumption | omega | rfl | exact B_pos (by omega)) ?_ | refine go_neg (by first | assumption | omega | decide | exact B_not (by omega)) ?_ | refine go_bind (by first | assumption) ?_ | dsimp only))
  have := up xs.length (fun m => laws_toInt64S.l0 xs (m : Int) (xs.take m ++ List.replicate (xs.length - m) 0)) (fun m hm => by
    have hw : wrapI ((m : Int) + 1) = ((m + 1 : Nat) : Int) := by rw [w64 (by omega) (by omega)]; omega
    have l1 := copy_len xs (0 : Int) m (by omega)
    rw [← copy_step xs 0 m hm, laws_toInt64S.l0_eq, hw, Int.toNat_natCast, rd_get hm]
    ((with_reducible repeat (first | refine go_pos (by first | assumption | omega | rfl | exact B_pos (by omega)) ?_ | refine go_neg (by first | assumption | omega | decide | exact B_not (by omega)) ?_ | refine go_bind (by first | assumption) ?_ | dsimp only)); first | done | (with_reducible rfl) | simp (disch := omega) only [w64] | (show False; done)))
  simp only [List.take_zero, List.nil_append, Nat.sub_zero, List.take_length, Nat.sub_self, List.replicate_zero, List.append_nil, Int.natCast_zero] at this
  rw [this, laws_toInt64S.l0_eq]
  ((with_reducible repeat (first | refine go_pos (by first | assumption | omega | rfl | exact B_pos (by omega)) ?_ | refine go_neg (by first | assumption | omega | decide | exact B_not (by omega)) ?_ | refine go_bind (by first | assumption) ?_ | dsimp only)); first | done | (with_reducible rfl) | simp (disch := omega) only [w64] | (show False; done))
theorem toInt64SS (g : List (List Int)) (hl : g.length ≤ 1048576) (hr : ∀ r ∈ g, r.length ≤ 1048576) : laws_toInt64SS.f g = some g := by
  rw [laws_toInt64SS.f_eq, Int.toNat_natCast]
  (with_reducible repeat (first | refine go_pos (by first | assumption | omega | rfl | exact B_pos (by omega)) ?_ | refine go_neg (by first | assumption | omega | decide | exact B_not (by omega)) ?_ | refine go_bind (by first | assumption) ?_ | dsimp only))
  have := up g.length (fun m => laws_toInt64SS.l0 g (m : Int) (g.take m ++ List.replicate (g.length - m) [])) (fun m hm => by
    have hw : wrapI ((m : Int) + 1) = ((m + 1 : Nat) : Int) := by rw [w64 (by omega) (by omega)]; omega
    have l1 := copy_len g ([] : List Int) m (by omega)
    have ht := toInt64S g[m] (hr _ (List.getElem_mem hm))
    rw [← copy_step g [] m hm, laws_toInt64SS.l0_eq, hw, Int.toNat_natCast, row_get hm]
    ((with_reducible repeat (first | refine go_pos (by first | assumption | omega | rfl | exact B_pos (by omega)) ?_ | refine go_neg (by first | assumption | omega | decide | exact B_not (by omega)) ?_ | refine go_bind (by first | assumption) ?_ | dsimp only)); first | done | (with_reducible rfl) | simp (disch := omega) only [w64] | (show False; done)))
  simp only [List.take_zero, List.nil_append, Nat.sub_zero, List.take_length, Nat.sub_self, List.replicate_zero, List.append_nil, Int.natCast_zero] at this
  rw [this, laws_toInt64SS.l0_eq]
  ((with_reducible repeat (first | refine go_pos (by first | assumption | omega | rfl | exact B_pos (by omega)) ?_ | refine go_neg (by first | assumption | omega | decide | exact B_not (by omega)) ?_ | refine go_bind (by first | assumption) ?_ | dsimp only)); first | done | (with_reducible rfl) | simp (disch := omega) only [w64] | (show False; done))
theorem toGroup (g : List (List Int)) (hl : g.length ≤ 1048576) (hr : ∀ r ∈ g, r.length ≤ 1048576) : laws_toGroup.f g = some g := by
  rw [laws_toGroup.f_eq]; ((with_reducible repeat (first | refine go_pos (by first | assumption | omega | rfl | exact B_pos (by omega)) ?_ | refine go_neg (by first | assumption | omega | decide | exact B_not (by omega)) ?_ | refine go_bind (by first | assumption | exact toInt64SS _ hl hr) ?_ | dsimp only)); first | done | (with_reducible rfl) | simp (disch := omega) only [w64] | (show False; done))
theorem toModule (m : Int) (u : List Int) (hl : u.length ≤ 1048576) : laws_toModule.f m u = some (m, u) := by
  rw [laws_toModule.f_eq]; ((with_reducible repeat (first | refine go_pos (by first | assumption | omega | rfl | exact B_pos (by omega)) ?_ | refine go_neg (by first | assumption | omega | decide | exact B_not (by omega)) ?_ | refine go_bind (by first | assumption | exact toInt64S _ hl) ?_ | dsimp only)); first | done | (with_reducible rfl) | simp (disch := omega) only [w64] | (show False; done))
theorem eqInt64S (xs ys : List Int) (hl : xs.length ≤ maxLen) : laws_eqInt64S.f xs ys = some (B (xs = ys)) := by
  have hm := maxLen_le
  rw [laws_eqInt64S.f_eq]
  by_cases h : (xs.length : Int) = ys.length
  rotate_left
  · rw [B_neg fun e => h (by rw [e])]
    ((with_reducible repeat (first | refine go_pos (by first | assumption | omega | rfl | exact B_pos (by omega)) ?_ | refine go_neg (by first | assumption | omega | decide | exact B_not (by omega)) ?_ | refine go_bind (by first | assumption) ?_ | dsimp only)); first | done | (with_reducible rfl) | simp (disch := omega) only [w64] | (show False; done))
  (with_reducible repeat (first | refine go_pos (by first | assumption | omega | rfl | exact B_pos (by omega)) ?_ | refine go_neg (by first | assumption | omega | decide | exact B_not (by omega)) ?_ | refine go_bind (by first | assumption) ?_ | dsimp only))
  rw [B_congr (show xs = ys ↔ ∀ i : Int, 0 ≤ i → i < xs.length → rd xs i = rd ys i from ⟨fun e i _ _ => by rw [e], fun e => ext_rd (by omega) e⟩)]
  refine scanT xs.length (fun i => laws_eqInt64S.l0 xs ys i) (fun i => rd xs i = rd ys i) (fun i i0 i1 _ => ?_) (fun _ => by (rw [laws_eqInt64S.l0_eq]); ((with_reducible repeat (first | refine go_pos (by first | assumption | omega | rfl | exact B_pos (by omega)) ?_ | refine go_neg (by first | assumption | omega | decide | exact B_not (by omega)) ?_ | refine go_bind (by first | assumption) ?_ | dsimp only)); first | done | (with_reducible rfl) | simp (disch := omega) only [w64] | (show False; done)))
  refine ⟨fun h => ?_, fun h => ?_⟩ <;> (rw [laws_eqInt64S.l0_eq]) <;> ((with_reducible repeat (first | refine go_pos (by first | assumption | omega | rfl | exact B_pos (by omega)) ?_ | refine go_neg (by first | assumption | omega | decide | exact B_not (by omega)) ?_ | refine go_bind (by first | assumption) ?_ | dsimp only)); first | done | (with_reducible rfl) | simp (disch := omega) only [w64] | (show False; done))
theorem eqInt64SS (xs ys : List (List Int)) (hl : xs.length ≤ maxLen) (hr : ∀ r ∈ xs, r.length ≤ maxLen) : laws_eqInt64SS.f xs ys = some (B (xs = ys)) := by
  have hm := maxLen_le
  rw [laws_eqInt64SS.f_eq]
  by_cases h : (xs.length : Int) = ys.length
  rotate_left
  · rw [B_neg fun e => h (by rw [e])]
    ((with_reducible repeat (first | refine go_pos (by first | assumption | omega | rfl | exact B_pos (by omega)) ?_ | refine go_neg (by first | assumption | omega | decide | exact B_not (by omega)) ?_ | refine go_bind (by first | assumption) ?_ | dsimp only)); first | done | (with_reducible rfl) | simp (disch := omega) only [w64] | (show False; done))
  (with_reducible repeat (first | refine go_pos (by first | assumption | omega | rfl | exact B_pos (by omega)) ?_ | refine go_neg (by first | assumption | omega | decide | exact B_not (by omega)) ?_ | refine go_bind (by first | assumption) ?_ | dsimp only))
  rw [B_congr (show xs = ys ↔ ∀ i : Int, 0 ≤ i → i < xs.length → row xs i = row ys i from ⟨fun e i _ _ => by rw [e], fun e => ext_row (by omega) e⟩)]
  refine scanT xs.length (fun i => laws_eqInt64SS.l0 xs ys i) (fun i => row xs i = row ys i) (fun i i0 i1 _ => ?_) (fun _ => by (rw [laws_eqInt64SS.l0_eq]); ((with_reducible repeat (first | refine go_pos (by first | assumption | omega | rfl | exact B_pos (by omega)) ?_ | refine go_neg (by first | assumption | omega | decide | exact B_not (by omega)) ?_ | refine go_bind (by first | assumption) ?_ | dsimp only)); first | done | (with_reducible rfl) | simp (disch := omega) only [w64] | (show False; done)))
  have he := eqInt64S (row xs i) (row ys i) (hr _ (row_mem i0 i1))
  refine ⟨fun h => ?_, fun h => ?_⟩
  · rw [B_pos h] at he
    (rw [laws_eqInt64SS.l0_eq])
    ((with_reducible repeat (first | refine go_pos (by first | assumption | omega | rfl | exact B_pos (by omega)) ?_ | refine go_neg (by first | assumption | omega | decide | exact B_not (by omega)) ?_ | refine go_bind (by first | assumption) ?_ | dsimp only)); first | done | (with_reducible rfl) | simp (disch := omega) only [w64] | (show False; done))
  · rw [B_neg h] at he
    (rw [laws_eqInt64SS.l0_eq])
    ((with_reducible repeat (first | refine go_pos (by first | assumption | omega | rfl | exact B_pos (by omega)) ?_ | refine go_neg (by first | assumption | omega | decide | exact B_not (by omega)) ?_ | refine go_bind (by first | assumption) ?_ | dsimp only)); first | done | (with_reducible rfl) | simp (disch := omega) only [w64] | (show False; done))
theorem eqGroup (xs ys : List (List Int)) (hl : xs.length ≤ maxLen) (hr : ∀ r ∈ xs, r.length ≤ maxLen) : laws_eqGroup.f xs ys = some (B (xs = ys)) := by
  have he := eqInt64SS xs ys hl hr
  rw [laws_eqGroup.f_eq, he]
  by_cases h : xs = ys
  · rw [B_pos h]; rfl
  · rw [B_neg h]; rfl
theorem eqModule (m n : Int) (u v : List Int) (hl : u.length ≤ maxLen) : laws_eqModule.f m u n v = some (B (m = n ∧ u = v)) := by
  have he := eqInt64S u v hl
  rw [laws_eqModule.f_eq]
  by_cases h : m = n ∧ u = v
  · rw [B_pos h.2] at he; rw [B_pos h]; ((with_reducible repeat (first | refine go_pos (by first | assumption | omega | rfl | exact B_pos (by omega)) ?_ | refine go_neg (by first | assumption | omega | decide | exact B_not (by omega)) ?_ | refine go_bind (by first | assumption) ?_ | dsimp only)); first | done | (with_reducible rfl) | simp (disch := omega) only [w64] | (show False; done))
  · rw [B_neg h]
    by_cases h1 : m = n
    · rw [B_neg fun k => h ⟨h1, k⟩] at he; ((with_reducible repeat (first | refine go_pos (by first | assumption | omega | rfl | exact B_pos (by omega)) ?_ | refine go_neg (by first | assumption | omega | decide | exact B_not (by omega)) ?_ | refine go_bind (by first | assumption) ?_ | dsimp only)); first | done | (with_reducible rfl) | simp (disch := omega) only [w64] | (show False; done))
    · ((with_reducible repeat (first | refine go_pos (by first | assumption | omega | rfl | exact B_pos (by omega)) ?_ | refine go_neg (by first | assumption | omega | decide | exact B_not (by omega)) ?_ | refine go_bind (by first | assumption) ?_ | dsimp only)); first | done | (with_reducible rfl) | simp (disch := omega) only [w64] | (show False; done))
theorem same_Ints (xs : List Int) (hl : xs.length ≤ maxLen) : laws_eqInt64S.f xs xs = some true := by rw [eqInt64S xs xs hl, B_pos rfl]
theorem same_Group (xs : List (List Int)) (hl : xs.length ≤ maxLen) (hr : ∀ r ∈ xs, r.length ≤ maxLen) : laws_eqGroup.f xs xs = some true := by rw [eqGroup xs xs hl hr, B_pos rfl]
theorem same_Module (m : Int) (u : List Int) (hl : u.length ≤ maxLen) : laws_eqModule.f m u m u = some true := by rw [eqModule m m u u hl, B_pos ⟨rfl, rfl⟩]
theorem szInt64S (xs : List Int) (left : Int) (hl : xs.length ≤ maxLen) (l0 : 0 ≤ left) (l1 : left ≤ 1048576) :
    ∃ t, laws_szInt64S.f xs left = some t ∧ (t < 0 ∨ (0 ≤ t ∧ t ≤ 1048576 ∧ xs.length ≤ 1048576)) := by
  have hm := maxLen_le
  rw [laws_szInt64S.f_eq, w64 (by omega) (by omega)]
  by_cases h : left - (xs.length : Int) < 0
  · exact ⟨_, if_pos h, .inl (by omega)⟩
  · exact ⟨_, if_neg h, .inr (by omega)⟩
theorem szInt64SS (g : List (List Int)) (left : Int) (hl : g.length ≤ maxLen) (hr : ∀ r ∈ g, r.length ≤ maxLen) (l0 : 0 ≤ left) (l1 : left ≤ 1048576) :
    ∃ t, laws_szInt64SS.f g left = some t ∧ (t < 0 ∨ (0 ≤ t ∧ t ≤ 1048576 ∧ g.length ≤ 1048576 ∧ ∀ r ∈ g, r.length ≤ 1048576)) := by
  have hm := maxLen_le
  rw [laws_szInt64SS.f_eq, w64 (by omega) (by omega)]
  by_cases h : left - (g.length : Int) < 0
  · exact ⟨_, if_pos h, .inl (by omega)⟩
  rw [if_neg h]
  have H : ∀ d m : Nat, m + d = g.length → ∀ s : Int, 0 ≤ s → s ≤ 1048576 → (∀ j, j < m → (row g j).length ≤ 1048576) → ∃ t, laws_szInt64SS.l0 g s (m : Int) = some t ∧ (t < 0 ∨ (0 ≤ t ∧ t ≤ 1048576 ∧ g.length ≤ 1048576 ∧ ∀ r ∈ g, r.length ≤ 1048576)) := by
    intro d
    induction d with
    | zero =>
      intro m hd s s0 s1 hs
      obtain rfl : m = g.length := by omega
      refine ⟨s, by (rw [laws_szInt64SS.l0_eq]); ((with_reducible repeat (first | refine go_pos (by first | assumption | omega | rfl | exact B_pos (by omega)) ?_ | refine go_neg (by first | assumption | omega | decide | exact B_not (by omega)) ?_ | refine go_bind (by first | assumption) ?_ | dsimp only)); first | done | (with_reducible rfl) | simp (disch := omega) only [w64] | (show False; done)), .inr ⟨s0, s1, by omega, fun r hr' => ?_⟩⟩
      obtain ⟨i, i0, i1, rfl⟩ := mem_row hr'
      have := hs i.toNat (by omega)
      rwa [show ((i.toNat : Nat) : Int) = i by omega] at this
    | succ d ih =>
      intro m hd s s0 s1 hs
      obtain ⟨t, ht, h⟩ := szInt64S (row g m) s (hr _ (row_mem (by omega) (by omega))) s0 s1
      have hw : wrapI ((m : Int) + 1) = ((m + 1 : Nat) : Int) := by rw [w64 (by omega) (by omega)]; omega
      rcases h with h | ⟨h0, h1, h2⟩
      · refine ⟨-1, ?_, .inl (by omega)⟩
        (rw [laws_szInt64SS.l0_eq])
        ((with_reducible repeat (first | refine go_pos (by first | assumption | omega | rfl | exact B_pos (by omega)) ?_ | refine go_neg (by first | assumption | omega | decide | exact B_not (by omega)) ?_ | refine go_bind (by first | assumption) ?_ | dsimp only)); first | done | (with_reducible rfl) | simp (disch := omega) only [w64] | (show False; done))
      · obtain ⟨t', ht', h'⟩ := ih (m + 1) (by omega) t h0 h1 (fun j hj => by
          by_cases e : j = m
          · rw [e]; exact h2
          · exact hs j (by omega))
        refine ⟨t', ?_, h'⟩
        (rw [laws_szInt64SS.l0_eq, hw])
        (with_reducible repeat (first | refine go_pos (by first | assumption | omega | rfl | exact B_pos (by omega)) ?_ | refine go_neg (by first | assumption | omega | decide | exact B_not (by omega)) ?_ | refine go_bind (by first | assumption) ?_ | dsimp only))
        exact ht'
  have := H g.length 0 (by omega) (left - g.length) (by omega) (by omega) (fun j hj => by omega)
  exact this
theorem szGroup (g : List (List Int)) (left : Int) (hl : g.length ≤ maxLen) (hr : ∀ r ∈ g, r.length ≤ maxLen) (l0 : 0 ≤ left) (l1 : left ≤ 1048576) :
    ∃ t, laws_szGroup.f g left = some t ∧ (t < 0 ∨ (0 ≤ t ∧ t ≤ 1048576 ∧ g.length ≤ 1048576 ∧ ∀ r ∈ g, r.length ≤ 1048576)) := by
  obtain ⟨t, ht, h⟩ := szInt64SS g left hl hr l0 l1
  rw [laws_szGroup.f_eq]
  rcases h with h | h
  · exact ⟨-1, by ((with_reducible repeat (first | refine go_pos (by first | assumption | omega | rfl | exact B_pos (by omega)) ?_ | refine go_neg (by first | assumption | omega | decide | exact B_not (by omega)) ?_ | refine go_bind (by first | assumption) ?_ | dsimp only)); first | done | (with_reducible rfl) | simp (disch := omega) only [w64] | (show False; done)), .inl (by omega)⟩
  · have := h.1
    exact ⟨t, by ((with_reducible repeat (first | refine go_pos (by first | assumption | omega | rfl | exact B_pos (by omega)) ?_ | refine go_neg (by first | assumption | omega | decide | exact B_not (by omega)) ?_ | refine go_bind (by first | assumption) ?_ | dsimp only)); first | done | (with_reducible rfl) | simp (disch := omega) only [w64] | (show False; done)), .inr h⟩
theorem szModule (m : Int) (u : List Int) (left : Int) (hl : u.length ≤ maxLen) (l0 : 0 ≤ left) (l1 : left ≤ 1048576) :
    ∃ t, laws_szModule.f m u left = some t ∧ (t < 0 ∨ (0 ≤ t ∧ t ≤ 1048576 ∧ u.length ≤ 1048576)) := by
  obtain ⟨t, ht, h⟩ := szInt64S u left hl l0 l1
  rw [laws_szModule.f_eq]
  rcases h with h | h
  · exact ⟨-1, by ((with_reducible repeat (first | refine go_pos (by first | assumption | omega | rfl | exact B_pos (by omega)) ?_ | refine go_neg (by first | assumption | omega | decide | exact B_not (by omega)) ?_ | refine go_bind (by first | assumption) ?_ | dsimp only)); first | done | (with_reducible rfl) | simp (disch := omega) only [w64] | (show False; done)), .inl (by omega)⟩
  · have := h.1
    exact ⟨t, by ((with_reducible repeat (first | refine go_pos (by first | assumption | omega | rfl | exact B_pos (by omega)) ?_ | refine go_neg (by first | assumption | omega | decide | exact B_not (by omega)) ?_ | refine go_bind (by first | assumption) ?_ | dsimp only)); first | done | (with_reducible rfl) | simp (disch := omega) only [w64] | (show False; done)), .inr h⟩
def MkS (a : Int) (n : Nat) : List Int := (List.range n).map fun (i : Nat) => a + (i : Int)
theorem MkS_length (a : Int) (n : Nat) : (MkS a n).length = n := by simp [MkS]
theorem MkS_rd {a : Int} {n : Nat} {i : Int} (h0 : 0 ≤ i) (h1 : i < n) : rd (MkS a n) i = a + i := by
  have h : i.toNat < n := by omega
  simp [rd, MkS, List.getD_eq_getElem?_getD, h]
  omega
theorem MkS_step (a : Int) (xs : List Int) (m : Nat) (hm : m < xs.length) : (MkS a m ++ xs.drop m).set m (a + m) = MkS a (m + 1) ++ xs.drop (m + 1) := by
  rw [List.set_append, if_neg (by rw [MkS_length]; omega), MkS_length, Nat.sub_self, List.drop_eq_getElem_cons hm, List.set_cons_zero]
  simp [MkS, List.range_succ]
theorem markS (xs : List Int) (a : Int) (h0 : 0 ≤ a) (h1 : a + xs.length ≤ 4611686018427387904) : laws_markInt64S.f xs a = some (a + xs.length, MkS a xs.length) := by
  rw [laws_markInt64S.f_eq]
  have := up xs.length (fun m => laws_markInt64S.l0 (a + (m : Int)) (m : Int) (MkS a m ++ xs.drop m)) (fun m hm => by
    have hw : wrapI ((m : Int) + 1) = ((m + 1 : Nat) : Int) := by rw [w64 (by omega) (by omega)]; omega
    have hw2 : wrapI (a + (m : Int) + 1) = a + ((m + 1 : Nat) : Int) := by rw [w64 (by omega) (by omega)]; omega
    have l1 : (MkS a m ++ xs.drop m).length = xs.length := by rw [List.length_append, MkS_length, List.length_drop]; omega
    rw [← MkS_step a xs m hm, laws_markInt64S.l0_eq, hw, hw2, Int.toNat_natCast]
    ((with_reducible repeat (first | refine go_pos (by first | assumption | omega | rfl | exact B_pos (by omega)) ?_ | refine go_neg (by first | assumption | omega | decide | exact B_not (by omega)) ?_ | refine go_bind (by first | assumption) ?_ | dsimp only)); first | done | (with_reducible rfl) | simp (disch := omega) only [w64] | (show False; done)))
  simp only [Int.natCast_zero, Int.add_zero, List.drop_zero, List.drop_length, List.append_nil, show MkS a 0 = [] from rfl, List.nil_append] at this
  have hl := MkS_length a xs.length
  rw [this, laws_markInt64S.l0_eq]
  ((with_reducible repeat (first | refine go_pos (by first | assumption | omega | rfl | exact B_pos (by omega)) ?_ | refine go_neg (by first | assumption | omega | decide | exact B_not (by omega)) ?_ | refine go_bind (by first | assumption) ?_ | dsimp only)); first | done | (with_reducible rfl) | simp (disch := omega) only [w64] | (show False; done))
theorem heldS (a : Int) (n : Nat) (h0 : 0 ≤ a) (h1 : a + n ≤ 4611686018427387904) : laws_heldInt64S.f (MkS a n) a = some (a + n) := by
  rw [laws_heldInt64S.f_eq]
  have hl := MkS_length a n
  have := up n (fun m => laws_heldInt64S.l0 (MkS a n) (a + (m : Int)) (m : Int)) (fun m hm => by
    have hw : wrapI ((m : Int) + 1) = ((m + 1 : Nat) : Int) := by rw [w64 (by omega) (by omega)]; omega
    have hw2 : wrapI (a + (m : Int) + 1) = a + ((m + 1 : Nat) : Int) := by rw [w64 (by omega) (by omega)]; omega
    have e := MkS_rd (a := a) (n := n) (i := m) (by omega) (by omega)
    rw [laws_heldInt64S.l0_eq, hw, hw2]
    ((with_reducible repeat (first | refine go_pos (by first | assumption | omega | rfl | exact B_pos (by omega)) ?_ | refine go_neg (by first | assumption | omega | decide | exact B_not (by omega)) ?_ | refine go_bind (by first | assumption) ?_ | dsimp only)); first | done | (with_reducible rfl) | simp (disch := omega) only [w64] | (show False; done)))
  simp only [Int.natCast_zero, Int.add_zero] at this
  rw [this, laws_heldInt64S.l0_eq]
  ((with_reducible repeat (first | refine go_pos (by first | assumption | omega | rfl | exact B_pos (by omega)) ?_ | refine go_neg (by first | assumption | omega | decide | exact B_not (by omega)) ?_ | refine go_bind (by first | assumption) ?_ | dsimp only)); first | done | (with_reducible rfl) | simp (disch := omega) only [w64] | (show False; done))
def tot : List (List Int) → Nat
  | [] => 0
  | r :: g => r.length + tot g
def MkSS (a : Int) : List (List Int) → List (List Int)
  | [] => []
  | r :: g => MkS a r.length :: MkSS (a + r.length) g
theorem tot_le (b : Nat) (g : List (List Int)) (h : ∀ r ∈ g, r.length ≤ b) : tot g ≤ g.length * b := by
  induction g with
  | nil => simp [tot]
  | cons r g ih =>
    have h1 := ih fun r hr => h r (List.mem_cons_of_mem _ hr)
    have h2 := h r (List.mem_cons_self ..)
    rw [List.length_cons, Nat.succ_mul, tot]
    omega
theorem tot_small {g : List (List Int)} (h1 : g.length ≤ 1048576) (h2 : ∀ r ∈ g, r.length ≤ 1048576) : tot g ≤ 1099511627776 :=
  Nat.le_trans (tot_le 1048576 g h2) (Nat.mul_le_mul_right 1048576 h1)
theorem markSS (g : List (List Int)) (a : Int) (h0 : 0 ≤ a) (h1 : a + tot g ≤ 4611686018427387904) (hl : g.length ≤ 4611686018427387904) : laws_markInt64SS.f g a = some (a + tot g, MkSS a g) := by
  rw [laws_markInt64SS.f_eq]
  suffices H : ∀ (g done : List (List Int)) (b : Int), 0 ≤ b → b + tot g ≤ 4611686018427387904 → done.length + g.length ≤ 4611686018427387904 → laws_markInt64SS.l0 b (done.length : Int) (done ++ g) = some (b + tot g, done ++ MkSS b g) from by
    simpa using H g [] a h0 h1 (by simpa using hl)
  intro g
  induction g with
  | nil =>
    intro done b b0 b1 hd
    rw [laws_markInt64SS.l0_eq, List.append_nil]
    have : b + ((tot [] : Nat) : Int) = b := by simp [tot]
    rw [this, MkSS, List.append_nil]
    ((with_reducible repeat (first | refine go_pos (by first | assumption | omega | rfl | exact B_pos (by omega)) ?_ | refine go_neg (by first | assumption | omega | decide | exact B_not (by omega)) ?_ | refine go_bind (by first | assumption) ?_ | dsimp only)); first | done | (with_reducible rfl) | simp (disch := omega) only [w64] | (show False; done))
  | cons r g ih =>
    intro done b b0 b1 hd
    simp only [tot, List.length_cons] at b1 hd
    have m1 : (done ++ r :: g).length = done.length + g.length + 1 := by rw [List.length_append, List.length_cons]; omega
    have hw : wrapI ((done.length : Int) + 1) = (((done ++ [MkS b r.length]).length : Nat) : Int) := by
      rw [w64 (by omega) (by omega), List.length_append, List.length_singleton]; omega
    have e : row (done ++ r :: g) (done.length : Int) = r := by simp [row, List.getD_eq_getElem?_getD]
    have e2 : (done ++ r :: g).set done.length (MkS b r.length) = (done ++ [MkS b r.length]) ++ g := by
      rw [List.set_append, if_neg (by omega), Nat.sub_self, List.set_cons_zero]; simp
    have hm := markS r b b0 (by omega)
    rw [laws_markInt64SS.l0_eq, hw, e, Int.toNat_natCast]
    (with_reducible repeat (first | refine go_pos (by first | assumption | omega | rfl | exact B_pos (by omega)) ?_ | refine go_neg (by first | assumption | omega | decide | exact B_not (by omega)) ?_ | refine go_bind (by first | assumption) ?_ | dsimp only))
    have := ih (done ++ [MkS b r.length]) (b + r.length) (by omega) (by omega) (by rw [List.length_append, List.length_singleton]; omega)
    rw [e2, this]
    simp only [MkSS, tot, List.append_assoc, List.singleton_append, Int.natCast_add, Int.add_assoc]
theorem markGroup (g : List (List Int)) (a : Int) (h0 : 0 ≤ a) (h1 : a + tot g ≤ 4611686018427387904) (hl : g.length ≤ 4611686018427387904) : laws_markGroup.f g a = some (a + tot g, MkSS a g) := by
  have := markSS g a h0 h1 hl
  rw [laws_markGroup.f_eq]; ((with_reducible repeat (first | refine go_pos (by first | assumption | omega | rfl | exact B_pos (by omega)) ?_ | refine go_neg (by first | assumption | omega | decide | exact B_not (by omega)) ?_ | refine go_bind (by first | assumption) ?_ | dsimp only)); first | done | (with_reducible rfl) | simp (disch := omega) only [w64] | (show False; done))
theorem markModule (m : Int) (xs : List Int) (a : Int) (h0 : 0 ≤ a) (h1 : a + xs.length ≤ 4611686018427387904) : laws_markModule.f m xs a = some (a + xs.length, MkS a xs.length) := by
  have := markS xs a h0 h1
  rw [laws_markModule.f_eq]; ((with_reducible repeat (first | refine go_pos (by first | assumption | omega | rfl | exact B_pos (by omega)) ?_ | refine go_neg (by first | assumption | omega | decide | exact B_not (by omega)) ?_ | refine go_bind (by first | assumption) ?_ | dsimp only)); first | done | (with_reducible rfl) | simp (disch := omega) only [w64] | (show False; done))
end Go.Proofs.Ytdiadcmkddkjpaa.V
set_option linter.unusedVariables false
namespace Go.Proofs.Ytdiadcmkddkjpaa.P
open Go Go.RowKit Go.Proofs.Ytdiadcmkddkjpaa.D
end Go.Proofs.Ytdiadcmkddkjpaa.P
set_option linter.unusedVariables false
set_option linter.unusedSimpArgs false
set_option maxHeartbeats 2000000
namespace Go.Proofs.Ytdiadcmkddkjpaa.V
open Go.RowKit Go.Proofs.Ytdiadcmkddkjpaa.D Go.Proofs.Ytdiadcmkddkjpaa.P
theorem toCochain (m : Int) (u : List Int) (hl : u.length ≤ 1048576) : laws_toCochain.f m u = some (m, u) := by
  rw [laws_toCochain.f_eq]; ((with_reducible repeat (first | refine go_pos (by first | assumption | omega | rfl | exact B_pos (by omega)) ?_ | refine go_neg (by first | assumption | omega | decide | exact B_not (by omega)) ?_ | refine go_bind (by first | assumption | exact toInt64S _ hl) ?_ | dsimp only)); first | done | (with_reducible rfl) | simp (disch := omega) only [w64] | (show False; done))
theorem eqCochain (m n : Int) (u v : List Int) (hl : u.length ≤ maxLen) : laws_eqCochain.f m u n v = some (B (m = n ∧ u = v)) := by
  have he := eqInt64S u v hl
  rw [laws_eqCochain.f_eq]
  by_cases h : m = n ∧ u = v
  · rw [B_pos h.2] at he; rw [B_pos h]; ((with_reducible repeat (first | refine go_pos (by first | assumption | omega | rfl | exact B_pos (by omega)) ?_ | refine go_neg (by first | assumption | omega | decide | exact B_not (by omega)) ?_ | refine go_bind (by first | assumption) ?_ | dsimp only)); first | done | (with_reducible rfl) | simp (disch := omega) only [w64] | (show False; done))
  · rw [B_neg h]
    by_cases h1 : m = n
    · rw [B_neg fun k => h ⟨h1, k⟩] at he; ((with_reducible repeat (first | refine go_pos (by first | assumption | omega | rfl | exact B_pos (by omega)) ?_ | refine go_neg (by first | assumption | omega | decide | exact B_not (by omega)) ?_ | refine go_bind (by first | assumption) ?_ | dsimp only)); first | done | (with_reducible rfl) | simp (disch := omega) only [w64] | (show False; done))
    · ((with_reducible repeat (first | refine go_pos (by first | assumption | omega | rfl | exact B_pos (by omega)) ?_ | refine go_neg (by first | assumption | omega | decide | exact B_not (by omega)) ?_ | refine go_bind (by first | assumption) ?_ | dsimp only)); first | done | (with_reducible rfl) | simp (disch := omega) only [w64] | (show False; done))
theorem same_Cochain (m : Int) (u : List Int) (hl : u.length ≤ maxLen) : laws_eqCochain.f m u m u = some true := by rw [eqCochain m m u u hl, B_pos ⟨rfl, rfl⟩]
theorem szCochain (m : Int) (u : List Int) (left : Int) (hl : u.length ≤ maxLen) (l0 : 0 ≤ left) (l1 : left ≤ 1048576) :
    ∃ t, laws_szCochain.f m u left = some t ∧ (t < 0 ∨ (0 ≤ t ∧ t ≤ 1048576 ∧ u.length ≤ 1048576)) := by
  obtain ⟨t, ht, h⟩ := szInt64S u left hl l0 l1
  rw [laws_szCochain.f_eq]
  rcases h with h | h
  · exact ⟨-1, by ((with_reducible repeat (first | refine go_pos (by first | assumption | omega | rfl | exact B_pos (by omega)) ?_ | refine go_neg (by first | assumption | omega | decide | exact B_not (by omega)) ?_ | refine go_bind (by first | assumption) ?_ | dsimp only)); first | done | (with_reducible rfl) | simp (disch := omega) only [w64] | (show False; done)), .inl (by omega)⟩
  · have := h.1
    exact ⟨t, by ((with_reducible repeat (first | refine go_pos (by first | assumption | omega | rfl | exact B_pos (by omega)) ?_ | refine go_neg (by first | assumption | omega | decide | exact B_not (by omega)) ?_ | refine go_bind (by first | assumption) ?_ | dsimp only)); first | done | (with_reducible rfl) | simp (disch := omega) only [w64] | (show False; done)), .inr h⟩
theorem markCochain (m : Int) (xs : List Int) (a : Int) (h0 : 0 ≤ a) (h1 : a + xs.length ≤ 4611686018427387904) : laws_markCochain.f m xs a = some (a + xs.length, MkS a xs.length) := by
  have := markS xs a h0 h1
  rw [laws_markCochain.f_eq]; ((with_reducible repeat (first | refine go_pos (by first | assumption | omega | rfl | exact B_pos (by omega)) ?_ | refine go_neg (by first | assumption | omega | decide | exact B_not (by omega)) ?_ | refine go_bind (by first | assumption) ?_ | dsimp only)); first | done | (with_reducible rfl) | simp (disch := omega) only [w64] | (show False; done))
end Go.Proofs.Ytdiadcmkddkjpaa.V
set_option linter.unusedVariables false
namespace Go.Proofs.Ytdiadcmkddkjpaa.P
open Go Go.RowKit Go.Proofs.Ytdiadcmkddkjpaa.D
end Go.Proofs.Ytdiadcmkddkjpaa.P
set_option linter.unusedVariables false
namespace Go.Proofs.Ytdiadcmkddkjpaa.P
open Go Go.RowKit Go.Proofs.Ytdiadcmkddkjpaa.D
end Go.Proofs.Ytdiadcmkddkjpaa.P
set_option linter.unusedVariables false
namespace Go.Proofs.Ytdiadcmkddkjpaa.P
open Go Go.RowKit Go.Proofs.Ytdiadcmkddkjpaa.D
end Go.Proofs.Ytdiadcmkddkjpaa.P
set_option linter.unusedVariables false
namespace Go.Proofs.Ytdiadcmkddkjpaa.P
open Go Go.RowKit Go.Proofs.Ytdiadcmkddkjpaa.D
end Go.Proofs.Ytdiadcmkddkjpaa.P
set_option linter.unusedVariables false
namespace Go.Proofs.Ytdiadcmkddkjpaa.P
open Go Go.RowKit Go.Proofs.Ytdiadcmkddkjpaa.D
end Go.Proofs.Ytdiadcmkddkjpaa.P
set_option linter.unusedVariables false
namespace Go.Proofs.Ytdiadcmkddkjpaa.P
open Go Go.RowKit Go.Proofs.Ytdiadcmkddkjpaa.D
end Go.Proofs.Ytdiadcmkddkjpaa.P
set_option linter.unusedVariables false
set_option linter.unusedSimpArgs false
set_option maxHeartbeats 2000000
set_option maxRecDepth 20000
namespace Go.Proofs.Ytdiadcmkddkjpaa.V
open Go.RowKit Go.Proofs.Ytdiadcmkddkjpaa.D Go.Proofs.Ytdiadcmkddkjpaa.P
theorem areIn (n : Int) (xs : List Int) (hl : xs.length ≤ maxLen) : impl_areIn.f n xs = some (B (AllIn n xs)) := by
  have hm := maxLen_le
  rw [impl_areIn.f_eq]
  refine scanT xs.length (fun i => impl_areIn.l0 n xs (xs.length : Int) i) (fun i => 0 ≤ rd xs i ∧ rd xs i < n) (fun i h0 h1 _ => ?_) (fun _ => ?_)
  · refine ⟨fun h => ?_, fun h => ?_⟩ <;> (rw [impl_areIn.l0_eq])
    · ((with_reducible repeat (first | refine go_pos (by first | assumption | omega | rfl | exact B_pos (by omega)) ?_ | refine go_neg (by first | assumption | omega | decide | exact B_not (by omega)) ?_ | refine go_bind (by first | assumption) ?_ | dsimp only)); first | done | (with_reducible rfl) | simp (disch := omega) only [w64] | (show False; done))
    · by_cases h2 : rd xs i < 0 <;> ((with_reducible repeat (first | refine go_pos (by first | assumption | omega | rfl | exact B_pos (by omega)) ?_ | refine go_neg (by first | assumption | omega | decide | exact B_not (by omega)) ?_ | refine go_bind (by first | assumption) ?_ | dsimp only)); first | done | (with_reducible rfl) | simp (disch := omega) only [w64] | (show False; done))
  · (rw [impl_areIn.l0_eq])
    ((with_reducible repeat (first | refine go_pos (by first | assumption | omega | rfl | exact B_pos (by omega)) ?_ | refine go_neg (by first | assumption | omega | decide | exact B_not (by omega)) ?_ | refine go_bind (by first | assumption) ?_ | dsimp only)); first | done | (with_reducible rfl) | simp (disch := omega) only [w64] | (show False; done))
theorem index_ (xs : List Int) (x : Int) (hl : xs.length ≤ maxLen) :
    ((∀ i : Int, 0 ≤ i → i < xs.length → rd xs i ≠ x) ∧ slices_Index_int64.f xs x = some (-1)) ∨
    ∃ i : Int, 0 ≤ i ∧ i < xs.length ∧ (∀ j : Int, 0 ≤ j → j < i → rd xs j ≠ x) ∧ rd xs i = x ∧ slices_Index_int64.f xs x = some i := by
  have hm := maxLen_le
  rw [slices_Index_int64.f_eq]
  suffices H : ∀ d m : Nat, m + d = xs.length → (∀ j : Int, 0 ≤ j → j < m → rd xs j ≠ x) →
      ((∀ i : Int, 0 ≤ i → i < xs.length → rd xs i ≠ x) ∧ slices_Index_int64.l0 xs x (xs.length : Int) m = some (-1)) ∨
      ∃ i : Int, 0 ≤ i ∧ i < xs.length ∧ (∀ j : Int, 0 ≤ j → j < i → rd xs j ≠ x) ∧ rd xs i = x ∧ slices_Index_int64.l0 xs x (xs.length : Int) m = some i from
    H xs.length 0 (by omega) (fun j h0 h1 => by omega)
  intro d
  induction d with
  | zero =>
    intro m hd hp
    obtain rfl : m = xs.length := by omega
    refine .inl ⟨hp, ?_⟩
    (rw [slices_Index_int64.l0_eq])
    ((with_reducible repeat (first | refine go_pos (by first | assumption | omega | rfl | exact B_pos (by omega)) ?_ | refine go_neg (by first | assumption | omega | decide | exact B_not (by omega)) ?_ | refine go_bind (by first | assumption) ?_ | dsimp only)); first | done | (with_reducible rfl) | simp (disch := omega) only [w64] | (show False; done))
  | succ d ih =>
    intro m hd hp
    by_cases h2 : x = rd xs m
    · refine .inr ⟨m, by omega, by omega, hp, h2.symm, ?_⟩
      (rw [slices_Index_int64.l0_eq])
      ((with_reducible repeat (first | refine go_pos (by first | assumption | omega | rfl | exact B_pos (by omega)) ?_ | refine go_neg (by first | assumption | omega | decide | exact B_not (by omega)) ?_ | refine go_bind (by first | assumption) ?_ | dsimp only)); first | done | (with_reducible rfl) | simp (disch := omega) only [w64] | (show False; done))
    · have st : slices_Index_int64.l0 xs x (xs.length : Int) m = slices_Index_int64.l0 xs x (xs.length : Int) ((m + 1 : Nat) : Int) := by
        rw [Int.natCast_add, Int.natCast_one]
        (rw [slices_Index_int64.l0_eq])
        ((with_reducible repeat (first | refine go_pos (by first | assumption | omega | rfl | exact B_pos (by omega)) ?_ | refine go_neg (by first | assumption | omega | decide | exact B_not (by omega)) ?_ | refine go_bind (by first | assumption) ?_ | dsimp only)); first | done | (with_reducible rfl) | simp (disch := omega) only [w64] | (show False; done))
      rw [st]
      refine ih (m + 1) (by omega) fun j k0 k1 => ?_
      by_cases e : j = m
      · rw [e]; exact fun h => h2 h.symm
      · exact hp j k0 (by omega)
theorem contains_ (xs : List Int) (x : Int) (hl : xs.length ≤ maxLen) : slices_Contains_int64.f xs x = some (B (∃ i : Int, 0 ≤ i ∧ i < xs.length ∧ rd xs i = x)) := by
  rw [slices_Contains_int64.f_eq]
  rcases index_ xs x hl with ⟨h, e⟩ | ⟨i, h0, h1, _, h2, e⟩
  · rw [e, B_neg fun ⟨i, h0, h1, h2⟩ => h i h0 h1 h2]; rfl
  · rw [e, B_pos ⟨i, h0, h1, h2⟩]; simp [h0]
structure Grp (g : List (List Int)) : Prop where
  n1 : 1 ≤ g.length
  n8 : g.length ≤ 8
  row : ∀ a : Int, 0 ≤ a → a < g.length → (row g a).length = g.length
  ent : ∀ a b : Int, 0 ≤ a → a < g.length → 0 ≤ b → b < g.length → 0 ≤ T g a b ∧ T g a b < g.length
  one : ∀ a : Int, 0 ≤ a → a < g.length → T g 0 a = a
  one' : ∀ a : Int, 0 ≤ a → a < g.length → T g a 0 = a
  assoc : ∀ a b c : Int, 0 ≤ a → a < g.length → 0 ≤ b → b < g.length → 0 ≤ c → c < g.length → T g (T g a b) c = T g a (T g b c)
  inv : ∀ a : Int, 0 ≤ a → a < g.length → ∃ b : Int, 0 ≤ b ∧ b < g.length ∧ T g a b = 0
theorem Grp.inv2 {g : List (List Int)} (h : Grp g) {a : Int} (h0 : 0 ≤ a) (h1 : a < g.length) : ∃ b : Int, 0 ≤ b ∧ b < g.length ∧ T g a b = 0 ∧ T g b a = 0 := by
  obtain ⟨b, b0, b1, hb⟩ := h.inv a h0 h1
  obtain ⟨c, c0, c1, hc⟩ := h.inv b b0 b1
  refine ⟨b, b0, b1, hb, ?_⟩
  have hac : c = a := by
    have e1 := h.assoc a b c h0 h1 b0 b1 c0 c1
    rw [hb, hc, h.one c c0 c1, h.one' a h0 h1] at e1
    exact e1
  rw [← hac]; exact hc
theorem rows_len {g : List (List Int)} (hr : ∀ r ∈ g, r.length ≤ maxLen) {a : Int} (h0 : 0 ≤ a) (h1 : a < g.length) : (row g a).length ≤ maxLen := hr _ (row_mem h0 h1)
def Tab (g : List (List Int)) : Prop := ∀ a : Int, 0 ≤ a → a < g.length → (row g a).length = g.length ∧ AllIn g.length (row g a)
def Law (g : List (List Int)) (a : Int) : Prop := T g 0 a = a ∧ T g a 0 = a ∧ (∃ b : Int, 0 ≤ b ∧ b < g.length ∧ T g a b = 0) ∧ ∀ b : Int, 0 ≤ b → b < g.length → ∀ c : Int, 0 ≤ c → c < g.length → T g (T g a b) c = T g a (T g b c)
theorem grp_iff (g : List (List Int)) : Grp g ↔ (1 ≤ g.length ∧ g.length ≤ 8) ∧ Tab g ∧ ∀ a : Int, 0 ≤ a → a < g.length → Law g a := by
  constructor
  · intro h
    refine ⟨⟨h.n1, h.n8⟩, fun a h0 h1 => ⟨h.row a h0 h1, fun i i0 i1 => ?_⟩, fun a h0 h1 => ⟨h.one a h0 h1, h.one' a h0 h1, h.inv a h0 h1, fun b b0 b1 c c0 c1 => h.assoc a b c h0 h1 b0 b1 c0 c1⟩⟩
    have := h.row a h0 h1
    exact h.ent a i h0 h1 i0 (by omega)
  · rintro ⟨⟨h1, h8⟩, ht, hl⟩
    refine ⟨h1, h8, fun a a0 a1 => (ht a a0 a1).1, fun a b a0 a1 b0 b1 => ?_, fun a a0 a1 => (hl a a0 a1).1, fun a a0 a1 => (hl a a0 a1).2.1, fun a b c a0 a1 b0 b1 c0 c1 => (hl a a0 a1).2.2.2 b b0 b1 c c0 c1, fun a a0 a1 => (hl a a0 a1).2.2.1⟩
    have := (ht a a0 a1).1
    exact (ht a a0 a1).2 b b0 (by omega)
theorem isGroup (g : List (List Int)) (hl : g.length ≤ maxLen) (hr : ∀ r ∈ g, r.length ≤ maxLen) : impl_IsGroup.f g = some (B (Grp g)) := by
  have hm := maxLen_le
  rw [B_congr (grp_iff g)]
  (rw [impl_IsGroup.f_eq])
  by_cases c1 : (g.length : Int) < 1 ∨ (g.length : Int) > 8
  · rw [B_neg fun h => by omega]
    by_cases c2 : (g.length : Int) < 1 <;> ((with_reducible repeat (first | refine go_pos (by first | assumption | omega | rfl | exact B_pos (by omega)) ?_ | refine go_neg (by first | assumption | omega | decide | exact B_not (by omega)) ?_ | refine go_bind (by first | assumption | exact impl_order.f_eq _) ?_ | dsimp only)); first | done | (with_reducible rfl) | simp (disch := omega) only [w64] | (show False; done))
  rw [B_congr (show ((1 ≤ g.length ∧ g.length ≤ 8) ∧ Tab g ∧ ∀ a : Int, 0 ≤ a → a < g.length → Law g a) ↔ (Tab g ∧ ∀ a : Int, 0 ≤ a → a < g.length → Law g a) from ⟨fun h => h.2, fun h => ⟨by omega, h⟩⟩)]
  (with_reducible repeat (first | refine go_pos (by first | assumption | omega | rfl | exact B_pos (by omega)) ?_ | refine go_neg (by first | assumption | omega | decide | exact B_not (by omega)) ?_ | refine go_bind (by first | assumption | exact impl_order.f_eq _) ?_ | dsimp only))
  refine scanB g.length (fun i => impl_IsGroup.l0 (g.length : Int) g (g.length : Int) i g) (fun a => (row g a).length = g.length ∧ AllIn g.length (row g a)) _ (fun i h0 h1 _ => ?_) (fun ht => ?_)
  · have ha := areIn g.length (row g i) (rows_len hr h0 h1)
    refine ⟨fun h => ?_, fun h => ?_⟩ <;> (rw [impl_IsGroup.l0_eq])
    · have h1 := h.1
      rw [B_pos h.2] at ha
      ((with_reducible repeat (first | refine go_pos (by first | assumption | omega | rfl | exact B_pos (by omega)) ?_ | refine go_neg (by first | assumption | omega | decide | exact B_not (by omega)) ?_ | refine go_bind (by first | assumption) ?_ | dsimp only)); first | done | (with_reducible rfl) | simp (disch := omega) only [w64] | (show False; done))
    · by_cases h2 : ((row g i).length : Int) = g.length
      · rw [B_neg fun h3 => h ⟨by omega, h3⟩] at ha
        ((with_reducible repeat (first | refine go_pos (by first | assumption | omega | rfl | exact B_pos (by omega)) ?_ | refine go_neg (by first | assumption | omega | decide | exact B_not (by omega)) ?_ | refine go_bind (by first | assumption) ?_ | dsimp only)); first | done | (with_reducible rfl) | simp (disch := omega) only [w64] | (show False; done))
      · ((with_reducible repeat (first | refine go_pos (by first | assumption | omega | rfl | exact B_pos (by omega)) ?_ | refine go_neg (by first | assumption | omega | decide | exact B_not (by omega)) ?_ | refine go_bind (by first | assumption) ?_ | dsimp only)); first | done | (with_reducible rfl) | simp (disch := omega) only [w64] | (show False; done))
  (rw [impl_IsGroup.l0_eq])
  (with_reducible repeat (first | refine go_pos (by first | assumption | omega | rfl | exact B_pos (by omega)) ?_ | refine go_neg (by first | assumption | omega | decide | exact B_not (by omega)) ?_ | refine go_bind (by first | assumption) ?_ | dsimp only))
  refine scanT g.length (fun i => impl_IsGroup.l1 (g.length : Int) (g.length : Int) i g) (Law g) (fun a a0 a1 _ => ?_) (fun _ => ?_)
  rotate_left
  · (rw [impl_IsGroup.l1_eq])
    ((with_reducible repeat (first | refine go_pos (by first | assumption | omega | rfl | exact B_pos (by omega)) ?_ | refine go_neg (by first | assumption | omega | decide | exact B_not (by omega)) ?_ | refine go_bind (by first | assumption) ?_ | dsimp only)); first | done | (with_reducible rfl) | simp (disch := omega) only [w64] | (show False; done))
  have hlen : ∀ x : Int, 0 ≤ x → x < g.length → ((row g x).length : Int) = g.length := fun x x0 x1 => by rw [(ht x x0 x1).1]
  have hent : ∀ x y : Int, 0 ≤ x → x < g.length → 0 ≤ y → y < g.length → 0 ≤ T g x y ∧ T g x y < g.length := fun x y x0 x1 y0 y1 => (ht x x0 x1).2 y y0 (by rw [hlen x x0 x1]; exact y1)
  have l0 := hlen 0 (by omega) (by omega)
  have la := hlen a a0 a1
  have hc := contains_ (row g a) 0 (rows_len hr a0 a1)
  rw [B_congr (show (∃ i : Int, 0 ≤ i ∧ i < (row g a).length ∧ rd (row g a) i = 0) ↔ ∃ b : Int, 0 ≤ b ∧ b < g.length ∧ T g a b = 0 by rw [la]; exact Iff.rfl)] at hc
  by_cases h2 : T g 0 a = a
  rotate_left
  · refine ⟨fun h => absurd h.1 h2, fun _ => ?_⟩
    (rw [impl_IsGroup.l1_eq])
    ((with_reducible repeat (first | refine go_pos (by first | assumption | omega | rfl | exact B_pos (by omega)) ?_ | refine go_neg (by first | assumption | omega | decide | exact B_not (by omega)) ?_ | refine go_bind (by first | assumption) ?_ | dsimp only)); first | done | (with_reducible rfl) | simp (disch := omega) only [w64] | (show False; done))
  by_cases h3 : T g a 0 = a
  rotate_left
  · refine ⟨fun h => absurd h.2.1 h3, fun _ => ?_⟩
    (rw [impl_IsGroup.l1_eq])
    ((with_reducible repeat (first | refine go_pos (by first | assumption | omega | rfl | exact B_pos (by omega)) ?_ | refine go_neg (by first | assumption | omega | decide | exact B_not (by omega)) ?_ | refine go_bind (by first | assumption) ?_ | dsimp only)); first | done | (with_reducible rfl) | simp (disch := omega) only [w64] | (show False; done))
  by_cases h4 : ∃ b : Int, 0 ≤ b ∧ b < g.length ∧ T g a b = 0
  rotate_left
  · refine ⟨fun h => absurd h.2.2.1 h4, fun _ => ?_⟩
    rw [B_neg h4] at hc
    (rw [impl_IsGroup.l1_eq])
    ((with_reducible repeat (first | refine go_pos (by first | assumption | omega | rfl | exact B_pos (by omega)) ?_ | refine go_neg (by first | assumption | omega | decide | exact B_not (by omega)) ?_ | refine go_bind (by first | assumption) ?_ | dsimp only)); first | done | (with_reducible rfl) | simp (disch := omega) only [w64] | (show False; done))
  rw [B_pos h4] at hc
  have inner := scanI g.length (fun b => impl_IsGroup.l2 (g.length : Int) a (g.length : Int) a (g.length : Int) b g) (fun b => ∀ c : Int, 0 ≤ c → c < g.length → T g (T g a b) c = T g a (T g b c)) (some false) (impl_IsGroup.l1 (g.length : Int) (g.length : Int) (a + 1) g)
    (fun b b0 b1 _ => by
      obtain ⟨e0, e1⟩ := hent a b a0 a1 b0 b1
      have le := hlen _ e0 e1
      have lb := hlen b b0 b1
      have := scanI g.length (fun c => impl_IsGroup.l3 (g.length : Int) a b (g.length : Int) a (g.length : Int) b (g.length : Int) c g) (fun c => T g (T g a b) c = T g a (T g b c)) (some false) (impl_IsGroup.l2 (g.length : Int) a (g.length : Int) a (g.length : Int) (b + 1) g)
        (fun c c0 c1 _ => by
          obtain ⟨f0, f1⟩ := hent b c b0 b1 c0 c1
          refine ⟨fun h => ?_, fun h => ?_⟩ <;> (rw [impl_IsGroup.l3_eq]) <;> ((with_reducible repeat (first | refine go_pos (by first | assumption | omega | rfl | exact B_pos (by omega)) ?_ | refine go_neg (by first | assumption | omega | decide | exact B_not (by omega)) ?_ | refine go_bind (by first | assumption) ?_ | dsimp only)); first | done | (with_reducible rfl) | simp (disch := omega) only [w64] | (show False; done))) (fun _ => by (rw [impl_IsGroup.l3_eq]); ((with_reducible repeat (first | refine go_pos (by first | assumption | omega | rfl | exact B_pos (by omega)) ?_ | refine go_neg (by first | assumption | omega | decide | exact B_not (by omega)) ?_ | refine go_bind (by first | assumption) ?_ | dsimp only)); first | done | (with_reducible rfl) | simp (disch := omega) only [w64] | (show False; done)))
      refine ⟨fun h => ?_, fun h => ?_⟩ <;> (rw [impl_IsGroup.l2_eq])
      · (with_reducible repeat (first | refine go_pos (by first | assumption | omega | rfl | exact B_pos (by omega)) ?_ | refine go_neg (by first | assumption | omega | decide | exact B_not (by omega)) ?_ | refine go_bind (by first | assumption) ?_ | dsimp only))
        exact this.1 h
      · (with_reducible repeat (first | refine go_pos (by first | assumption | omega | rfl | exact B_pos (by omega)) ?_ | refine go_neg (by first | assumption | omega | decide | exact B_not (by omega)) ?_ | refine go_bind (by first | assumption) ?_ | dsimp only))
        exact this.2 h) (fun _ => by (rw [impl_IsGroup.l2_eq]); ((with_reducible repeat (first | refine go_pos (by first | assumption | omega | rfl | exact B_pos (by omega)) ?_ | refine go_neg (by first | assumption | omega | decide | exact B_not (by omega)) ?_ | refine go_bind (by first | assumption) ?_ | dsimp only)); first | done | (with_reducible rfl) | simp (disch := omega) only [w64] | (show False; done)))
  refine ⟨fun h => ?_, fun h => ?_⟩ <;> (rw [impl_IsGroup.l1_eq]) <;> (with_reducible repeat (first | refine go_pos (by first | assumption | omega | rfl | exact B_pos (by omega)) ?_ | refine go_neg (by first | assumption | omega | decide | exact B_not (by omega)) ?_ | refine go_bind (by first | assumption) ?_ | dsimp only))
  · exact inner.1 h.2.2.2
  · exact inner.2 fun k => h ⟨h2, h3, h4, k⟩
end Go.Proofs.Ytdiadcmkddkjpaa.V
set_option linter.unusedVariables false
set_option linter.unusedSimpArgs false
set_option maxHeartbeats 2000000
set_option maxRecDepth 20000
namespace Go.Proofs.Ytdiadcmkddkjpaa.V
open Go.RowKit Go.Proofs.Ytdiadcmkddkjpaa.D Go.Proofs.Ytdiadcmkddkjpaa.P
theorem In_ (x lo hi : Int) : spec_l01In.f x lo hi = some (B (lo ≤ x ∧ x ≤ hi)) := by
  rw [spec_l01In.f_eq]
  by_cases h : x ≥ lo
  · rw [if_pos h, B_decide, B_congr (show x ≤ hi ↔ (lo ≤ x ∧ x ≤ hi) from ⟨fun h' => ⟨h, h'⟩, fun h' => h'.2⟩)]
  · rw [if_neg h, B_neg (fun h' => h h'.1)]
def LawS (g : List (List Int)) (a : Int) : Prop := T g 0 a = a ∧ T g a 0 = a ∧ (∀ b : Int, 0 ≤ b → b < g.length → ∀ c : Int, 0 ≤ c → c < g.length → T g (T g a b) c = T g a (T g b c)) ∧ ∃ b : Int, 0 ≤ b ∧ b < g.length ∧ T g a b = 0 ∧ T g b a = 0
theorem grp_iffS (g : List (List Int)) : Grp g ↔ (1 ≤ g.length ∧ g.length ≤ 8) ∧ Tab g ∧ ∀ a : Int, 0 ≤ a → a < g.length → LawS g a := by
  rw [grp_iff]
  constructor
  · intro h
    have hg := (grp_iff g).2 h
    refine ⟨h.1, h.2.1, fun a a0 a1 => ?_⟩
    obtain ⟨h1, h2, _, h4⟩ := h.2.2 a a0 a1
    exact ⟨h1, h2, h4, hg.inv2 a0 a1⟩
  · rintro ⟨h1, h2, h3⟩
    refine ⟨h1, h2, fun a a0 a1 => ?_⟩
    obtain ⟨k1, k2, k3, b, b0, b1, hb, _⟩ := h3 a a0 a1
    exact ⟨k1, k2, ⟨b, b0, b1, hb⟩, k3⟩
theorem Is_ (g : List (List Int)) : spec_l01Is.f g = some (B (Grp g)) := by
  rw [B_congr (grp_iffS g)]
  (rw [spec_l01Is.f_eq])
  by_cases c1 : 1 ≤ (g.length : Int) ∧ (g.length : Int) ≤ 8
  rotate_left
  · rw [B_neg fun h => c1 (by omega)]
    ((with_reducible repeat (first | refine go_pos (by first | assumption | omega | rfl | exact B_pos (by omega)) ?_ | refine go_neg (by first | assumption | omega | decide | exact B_not (by omega)) ?_ | refine go_bind (by first | assumption | exact In_ _ _ _) ?_ | dsimp only)); first | done | (with_reducible rfl) | simp (disch := omega) only [w64] | (show False; done))
  rw [B_congr (show ((1 ≤ g.length ∧ g.length ≤ 8) ∧ Tab g ∧ ∀ a : Int, 0 ≤ a → a < g.length → LawS g a) ↔ (Tab g ∧ ∀ a : Int, 0 ≤ a → a < g.length → LawS g a) from ⟨fun h => h.2, fun h => ⟨by omega, h⟩⟩)]
  (with_reducible repeat (first | refine go_pos (by first | assumption | omega | rfl | exact B_pos (by omega)) ?_ | refine go_neg (by first | assumption | omega | decide | exact B_not (by omega)) ?_ | refine go_bind (by first | assumption | exact In_ _ _ _) ?_ | dsimp only))
  have hw1 : wrapI ((g.length : Int) - 1) = g.length - 1 := w64 (by omega) (by omega)
  refine scanB g.length (fun i => spec_l01Is.l0 (g.length : Int) i g) (fun a => (row g a).length = g.length ∧ AllIn g.length (row g a)) (∀ a : Int, 0 ≤ a → a < g.length → LawS g a) (fun a a0 a1 _ => ?_) (fun ht => ?_)
  · by_cases h2 : ((row g a).length : Int) = g.length
    rotate_left
    · refine ⟨fun h => absurd h.1 (by omega), fun _ => ?_⟩
      (rw [spec_l01Is.l0_eq])
      ((with_reducible repeat (first | refine go_pos (by first | assumption | omega | rfl | exact B_pos (by omega)) ?_ | refine go_neg (by first | assumption | omega | decide | exact B_not (by omega)) ?_ | refine go_bind (by first | assumption) ?_ | dsimp only)); first | done | (with_reducible rfl) | simp (disch := omega) only [w64] | (show False; done))
    have inner := scanI g.length (fun b => spec_l01Is.l1 (g.length : Int) a b g) (fun b => 0 ≤ T g a b ∧ T g a b < g.length) (some false) (spec_l01Is.l0 (g.length : Int) (a + 1) g)
      (fun b b0 b1 _ => by refine ⟨fun h => ?_, fun h => ?_⟩ <;> (rw [spec_l01Is.l1_eq, hw1]) <;> ((with_reducible repeat (first | refine go_pos (by first | assumption | omega | rfl | exact B_pos (by omega)) ?_ | refine go_neg (by first | assumption | omega | decide | exact B_not (by omega)) ?_ | refine go_bind (by first | assumption | exact In_ _ _ _) ?_ | dsimp only)); first | done | (with_reducible rfl) | simp (disch := omega) only [w64] | (show False; done))) (fun _ => by (rw [spec_l01Is.l1_eq]); ((with_reducible repeat (first | refine go_pos (by first | assumption | omega | rfl | exact B_pos (by omega)) ?_ | refine go_neg (by first | assumption | omega | decide | exact B_not (by omega)) ?_ | refine go_bind (by first | assumption) ?_ | dsimp only)); first | done | (with_reducible rfl) | simp (disch := omega) only [w64] | (show False; done)))
    refine ⟨fun h => ?_, fun h => ?_⟩ <;> (rw [spec_l01Is.l0_eq]) <;> (with_reducible repeat (first | refine go_pos (by first | assumption | omega | rfl | exact B_pos (by omega)) ?_ | refine go_neg (by first | assumption | omega | decide | exact B_not (by omega)) ?_ | refine go_bind (by first | assumption) ?_ | dsimp only))
    · exact inner.1 fun j j0 j1 => h.2 j j0 (by omega)
    · exact inner.2 fun k => h ⟨by omega, fun j j0 j1 => k j j0 (by omega)⟩
  (rw [spec_l01Is.l0_eq])
  (with_reducible repeat (first | refine go_pos (by first | assumption | omega | rfl | exact B_pos (by omega)) ?_ | refine go_neg (by first | assumption | omega | decide | exact B_not (by omega)) ?_ | refine go_bind (by first | assumption) ?_ | dsimp only))
  refine scanT g.length (fun i => spec_l01Is.l2 (g.length : Int) i g) (LawS g) (fun a a0 a1 _ => ?_) (fun _ => by (rw [spec_l01Is.l2_eq]); ((with_reducible repeat (first | refine go_pos (by first | assumption | omega | rfl | exact B_pos (by omega)) ?_ | refine go_neg (by first | assumption | omega | decide | exact B_not (by omega)) ?_ | refine go_bind (by first | assumption) ?_ | dsimp only)); first | done | (with_reducible rfl) | simp (disch := omega) only [w64] | (show False; done)))
  have hlen : ∀ x : Int, 0 ≤ x → x < g.length → ((row g x).length : Int) = g.length := fun x x0 x1 => by rw [(ht x x0 x1).1]
  have hent : ∀ x y : Int, 0 ≤ x → x < g.length → 0 ≤ y → y < g.length → 0 ≤ T g x y ∧ T g x y < g.length := fun x y x0 x1 y0 y1 => (ht x x0 x1).2 y y0 (by rw [hlen x x0 x1]; exact y1)
  have l0 := hlen 0 (by omega) (by omega)
  have la := hlen a a0 a1
  by_cases h2 : T g 0 a = a
  rotate_left
  · refine ⟨fun h => absurd h.1 h2, fun _ => ?_⟩
    (rw [spec_l01Is.l2_eq])
    ((with_reducible repeat (first | refine go_pos (by first | assumption | omega | rfl | exact B_pos (by omega)) ?_ | refine go_neg (by first | assumption | omega | decide | exact B_not (by omega)) ?_ | refine go_bind (by first | assumption) ?_ | dsimp only)); first | done | (with_reducible rfl) | simp (disch := omega) only [w64] | (show False; done))
  by_cases h3 : T g a 0 = a
  rotate_left
  · refine ⟨fun h => absurd h.2.1 h3, fun _ => ?_⟩
    (rw [spec_l01Is.l2_eq])
    ((with_reducible repeat (first | refine go_pos (by first | assumption | omega | rfl | exact B_pos (by omega)) ?_ | refine go_neg (by first | assumption | omega | decide | exact B_not (by omega)) ?_ | refine go_bind (by first | assumption) ?_ | dsimp only)); first | done | (with_reducible rfl) | simp (disch := omega) only [w64] | (show False; done))
  let Fd : Int → Prop := fun b => ∃ j : Int, 0 ≤ j ∧ j < b ∧ T g a j = 0 ∧ T g j a = 0
  have fd0 : B (Fd 0) = false := B_neg fun ⟨j, j0, j1, _⟩ => by omega
  have inner := scan g.length (fun b => spec_l01Is.l3 (g.length : Int) a (B (Fd b)) b g) (fun b => ∀ c : Int, 0 ≤ c → c < g.length → T g (T g a b) c = T g a (T g b c)) (some false) (fun b b0 b1 _ => by
    obtain ⟨e0, e1⟩ := hent a b a0 a1 b0 b1
    have le := hlen _ e0 e1
    have lb := hlen b b0 b1
    have toj : spec_l01Is.l3 (g.length : Int) a (B (Fd b)) b g = spec_l01Is.l4 (g.length : Int) a (B (Fd (b + 1))) b 0 g := by
      by_cases k1 : Fd b
      · rw [B_pos k1, B_pos (show Fd (b + 1) from by obtain ⟨j, j0, j1, h⟩ := k1; exact ⟨j, j0, by omega, h⟩)]
        (rw [spec_l01Is.l3_eq])
        ((with_reducible repeat (first | refine go_pos (by first | assumption | omega | rfl | exact B_pos (by omega)) ?_ | refine go_neg (by first | assumption | omega | decide | exact B_not (by omega)) ?_ | refine go_bind (by first | assumption) ?_ | dsimp only)); first | done | (with_reducible rfl) | simp (disch := omega) only [w64] | (show False; done))
      · rw [B_neg k1]
        by_cases k2 : T g a b = 0
        · have e : B (Fd (b + 1)) = decide (T g b a = 0) := by
            by_cases k3 : T g b a = 0
            · rw [B_pos ⟨b, b0, by omega, k2, k3⟩]; simp [k3]
            · rw [B_neg]
              · simp [k3]
              · rintro ⟨j, j0, j1, ja, jb⟩
                by_cases ej : j = b
                · subst ej; exact k3 jb
                · exact k1 ⟨j, j0, by omega, ja, jb⟩
          rw [e]
          (rw [spec_l01Is.l3_eq])
          ((with_reducible repeat (first | refine go_pos (by first | assumption | omega | rfl | exact B_pos (by omega)) ?_ | refine go_neg (by first | assumption | omega | decide | exact B_not (by omega)) ?_ | refine go_bind (by first | assumption) ?_ | dsimp only)); first | done | (with_reducible rfl) | simp (disch := omega) only [w64] | (show False; done))
        · rw [B_neg (show ¬ Fd (b + 1) from by
            rintro ⟨j, j0, j1, ja, jb⟩
            by_cases ej : j = b
            · subst ej; exact k2 ja
            · exact k1 ⟨j, j0, by omega, ja, jb⟩)]
          (rw [spec_l01Is.l3_eq])
          ((with_reducible repeat (first | refine go_pos (by first | assumption | omega | rfl | exact B_pos (by omega)) ?_ | refine go_neg (by first | assumption | omega | decide | exact B_not (by omega)) ?_ | refine go_bind (by first | assumption) ?_ | dsimp only)); first | done | (with_reducible rfl) | simp (disch := omega) only [w64] | (show False; done))
    have inner4 := scanI g.length (fun c => spec_l01Is.l4 (g.length : Int) a (B (Fd (b + 1))) b c g) (fun c => T g (T g a b) c = T g a (T g b c)) (some false) (spec_l01Is.l3 (g.length : Int) a (B (Fd (b + 1))) (b + 1) g) (fun c c0 c1 _ => by
      obtain ⟨f0, f1⟩ := hent b c b0 b1 c0 c1
      refine ⟨fun h => ?_, fun h => ?_⟩ <;> (rw [spec_l01Is.l4_eq]) <;> ((with_reducible repeat (first | refine go_pos (by first | assumption | omega | rfl | exact B_pos (by omega)) ?_ | refine go_neg (by first | assumption | omega | decide | exact B_not (by omega)) ?_ | refine go_bind (by first | assumption) ?_ | dsimp only)); first | done | (with_reducible rfl) | simp (disch := omega) only [w64] | (show False; done))) (fun _ => by (rw [spec_l01Is.l4_eq]); ((with_reducible repeat (first | refine go_pos (by first | assumption | omega | rfl | exact B_pos (by omega)) ?_ | refine go_neg (by first | assumption | omega | decide | exact B_not (by omega)) ?_ | refine go_bind (by first | assumption) ?_ | dsimp only)); first | done | (with_reducible rfl) | simp (disch := omega) only [w64] | (show False; done)))
    exact ⟨fun h => toj.trans (inner4.1 h), fun h => toj.trans (inner4.2 h)⟩)
  have st : spec_l01Is.l2 (g.length : Int) a g = spec_l01Is.l3 (g.length : Int) a (B (Fd 0)) 0 g := by
    rw [fd0]
    (rw [spec_l01Is.l2_eq])
    ((with_reducible repeat (first | refine go_pos (by first | assumption | omega | rfl | exact B_pos (by omega)) ?_ | refine go_neg (by first | assumption | omega | decide | exact B_not (by omega)) ?_ | refine go_bind (by first | assumption) ?_ | dsimp only)); first | done | (with_reducible rfl) | simp (disch := omega) only [w64] | (show False; done))
  rw [st]
  rcases inner with ⟨h5, h6⟩ | ⟨b, b0, b1, _, h5, _, h6⟩
  · simp only [h6]
    by_cases h7 : Fd g.length
    · refine ⟨fun _ => ?_, fun h => absurd ⟨h2, h3, h5, h7⟩ h⟩
      rw [B_pos h7]
      (rw [spec_l01Is.l3_eq])
      ((with_reducible repeat (first | refine go_pos (by first | assumption | omega | rfl | exact B_pos (by omega)) ?_ | refine go_neg (by first | assumption | omega | decide | exact B_not (by omega)) ?_ | refine go_bind (by first | assumption) ?_ | dsimp only)); first | done | (with_reducible rfl) | simp (disch := omega) only [w64] | (show False; done))
    · refine ⟨fun h => absurd h.2.2.2 h7, fun h => ?_⟩
      rw [B_neg h7]
      (rw [spec_l01Is.l3_eq])
      ((with_reducible repeat (first | refine go_pos (by first | assumption | omega | rfl | exact B_pos (by omega)) ?_ | refine go_neg (by first | assumption | omega | decide | exact B_not (by omega)) ?_ | refine go_bind (by first | assumption) ?_ | dsimp only)); first | done | (with_reducible rfl) | simp (disch := omega) only [w64] | (show False; done))
  · exact ⟨fun h => absurd (h.2.2.1 b b0 b1) h5, fun _ => h6⟩
theorem gcd0 (y : Nat) : ∀ x : Nat, impl_gcd.l0 (x : Int) (y : Int) = some ((Nat.gcd x y : Nat) : Int) := by
  induction y using Nat.strongRecOn with
  | _ y ih =>
    intro x
    (rw [impl_gcd.l0_eq])
    by_cases h : y = 0
    · subst h
      simp
    · have e : Int.tmod (x : Int) (y : Int) = ((x % y : Nat) : Int) := by rw [Int.ofNat_tmod]
      have := ih (x % y) (Nat.mod_lt _ (by omega)) y
      rw [show Nat.gcd y (x % y) = Nat.gcd x y by rw [Nat.gcd_comm x y, Nat.gcd_rec y x, Nat.gcd_comm]] at this
      rw [e]
      (with_reducible repeat (first | refine go_pos (by first | assumption | omega | rfl | exact B_pos (by omega)) ?_ | refine go_neg (by first | assumption | omega | decide | exact B_not (by omega)) ?_ | refine go_bind (by first | assumption) ?_ | dsimp only))
      exact this
theorem gcd_ {a b : Int} (ha : 0 ≤ a) (hb : 0 ≤ b) : impl_gcd.f a b = some ((Int.gcd a b : Nat) : Int) := by
  obtain ⟨x, rfl⟩ := Int.eq_ofNat_of_zero_le ha
  obtain ⟨y, rfl⟩ := Int.eq_ofNat_of_zero_le hb
  have := gcd0 y x
  rw [impl_gcd.f_eq]
  simpa [Int.gcd] using this
theorem Gcd0 (y : Nat) : ∀ x : Nat, x ≤ 9223372036854775807 → y ≤ 9223372036854775807 → spec_l01Gcd.l0 (x : Int) (y : Int) = some ((Nat.gcd x y : Nat) : Int) := by
  induction y using Nat.strongRecOn with
  | _ y ih =>
    intro x hx hy
    (rw [spec_l01Gcd.l0_eq])
    by_cases h : y = 0
    · subst h
      have hw : wrapI (0 - (x : Int)) = -(x : Int) := by rw [w64 (by omega) (by omega)]; omega
      rw [hw, if_pos (by simp), if_neg (by omega)]
      simp
    · have e : Int.tmod (x : Int) (y : Int) = ((x % y : Nat) : Int) := by rw [Int.ofNat_tmod]
      have hlt := Nat.mod_lt x (show y > 0 by omega)
      have := ih (x % y) hlt y hy (by omega)
      rw [show Nat.gcd y (x % y) = Nat.gcd x y by rw [Nat.gcd_comm x y, Nat.gcd_rec y x, Nat.gcd_comm]] at this
      rw [e]
      (with_reducible repeat (first | refine go_pos (by first | assumption | omega | rfl | exact B_pos (by omega)) ?_ | refine go_neg (by first | assumption | omega | decide | exact B_not (by omega)) ?_ | refine go_bind (by first | assumption) ?_ | dsimp only))
      exact this
theorem Gcd_ {a b : Int} (ha : 0 ≤ a) (hb : 0 ≤ b) (ha' : a ≤ 9223372036854775807) (hb' : b ≤ 9223372036854775807) : spec_l01Gcd.f a b = some ((Int.gcd a b : Nat) : Int) := by
  obtain ⟨x, rfl⟩ := Int.eq_ofNat_of_zero_le ha
  obtain ⟨y, rfl⟩ := Int.eq_ofNat_of_zero_le hb
  have := Gcd0 y x (by omega) (by omega)
  rw [spec_l01Gcd.f_eq]
  simpa [Int.gcd] using this
theorem Grp.foldl_in {g : List (List Int)} (hg : Grp g) : ∀ (xs : List Int) (x : Int), AllIn g.length xs → 0 ≤ x → x < g.length → 0 ≤ xs.foldl (T g) x ∧ xs.foldl (T g) x < g.length := by
  intro xs
  induction xs with
  | nil => exact fun x _ a b => ⟨a, b⟩
  | cons y ys ih =>
    intro x hx x0 x1
    obtain ⟨y0, y1⟩ := hx.mem (List.mem_cons_self ..)
    obtain ⟨z0, z1⟩ := hg.ent x y x0 x1 y0 y1
    exact ih _ (allIn_of fun z hz => hx.mem (List.mem_cons_of_mem _ hz)) z0 z1
theorem drop_rd {xs : List Int} {m : Nat} (h : m < xs.length) : xs.drop m = rd xs m :: xs.drop (m + 1) := by
  rw [List.drop_eq_getElem_cons h, rd_get h]
theorem take_rd {xs : List Int} {m : Nat} (h : m < xs.length) : xs.take (m + 1) = xs.take m ++ [rd xs m] := by
  rw [List.take_succ_eq_append_getElem h, rd_get h]
theorem times {g : List (List Int)} (hg : Grp g) (xs : List Int) (hx : AllIn g.length xs) (hl : xs.length ≤ maxLen) : impl_Group_times.f g xs = some (xs.foldl (T g) 0) := by
  have hm := maxLen_le
  have n1 := hg.n1
  rw [impl_Group_times.f_eq]
  have := up xs.length (fun i => impl_Group_times.l0 ((xs.take i).foldl (T g) 0) xs (xs.length : Int) (i : Int) g) (fun i hi => by
    obtain ⟨z0, z1⟩ := hg.foldl_in (xs.take i) 0 (hx.take i) (by omega) (by omega)
    obtain ⟨y0, y1⟩ := hx i (by omega) (by omega)
    have hr : ((row g ((xs.take i).foldl (T g) 0)).length : Int) = g.length := by rw [hg.row _ z0 z1]
    have hw : wrapI ((i : Int) + 1) = ((i + 1 : Nat) : Int) := by rw [w64 (by omega) (by omega)]; omega
    rw [take_rd hi, List.foldl_append, List.foldl_cons, List.foldl_nil]
    (rw [impl_Group_times.l0_eq, hw])
    ((with_reducible repeat (first | refine go_pos (by first | assumption | omega | rfl | exact B_pos (by omega)) ?_ | refine go_neg (by first | assumption | omega | decide | exact B_not (by omega)) ?_ | refine go_bind (by first | assumption) ?_ | dsimp only)); first | done | (with_reducible rfl) | simp (disch := omega) only [w64] | (show False; done)))
  simp only [List.take_zero, List.foldl_nil, List.take_length, Int.natCast_zero] at this
  rw [this]
  (rw [impl_Group_times.l0_eq])
  ((with_reducible repeat (first | refine go_pos (by first | assumption | omega | rfl | exact B_pos (by omega)) ?_ | refine go_neg (by first | assumption | omega | decide | exact B_not (by omega)) ?_ | refine go_bind (by first | assumption) ?_ | dsimp only)); first | done | (with_reducible rfl) | simp (disch := omega) only [w64] | (show False; done))
theorem times2 {g : List (List Int)} (hg : Grp g) {x y : Int} (x0 : 0 ≤ x) (x1 : x < g.length) (y0 : 0 ≤ y) (y1 : y < g.length) : impl_Group_times.f g [x, y] = some (T g x y) := by
  have := times hg [x, y] (allIn_two x0 x1 y0 y1) (by unfold maxLen; simp)
  simpa [hg.one x x0 x1] using this
end Go.Proofs.Ytdiadcmkddkjpaa.V
