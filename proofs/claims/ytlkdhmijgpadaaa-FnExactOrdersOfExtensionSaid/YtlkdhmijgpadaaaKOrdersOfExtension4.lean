/- What the proof of the law OrdersOfExtension stands on, part 4: words, each Go function's Lean function, and that the Go code comes to its answers; no condition. (Packed by wip/myprint/pack.py out of what the kit's printer wrote, its words among it, partly by our patches of it, and out of texts of this session.) -/
import Derived.Test.YtlkdhmijgpadaaaKOrdersOfExtension3
set_option linter.unusedVariables false
namespace Go.Proofs.Ytlkdhmijgpadaaa.P
open Go Go.RowKit Go.Proofs.Ytlkdhmijgpadaaa.D
noncomputable def spec_l03Cells.E : Env := { tt := TT, con := [(84, spec_l01N.con)], frz := [], rows := [], live := [(2, [1, 2, 5])], n := 16, pin := 0, nils := [] }
noncomputable def spec_l03Cells.fn : D.Fn := { body := Try.f93.body.getD .skip, res := Try.f93.results.toList, ins := [.agg [.v (.sl 25 (.sl 2 (.int .i64)))], .one (.v (.int .i64))], outs := [.one (.v (.int .i64))] }
def spec_l03Cells.enc (y : lsd (flats spec_l03Cells.fn.outs) × lsd (ios spec_l03Cells.fn.ins)) : Int := y.1.1
noncomputable def spec_l03Cells.f (l0_0 : List (List Int)) (a1 : Int) : Option Int := denF spec_l03Cells.E spec_l03Cells.fn spec_l03Cells.enc (l0_0, a1, ())
noncomputable def spec_l03Cells.l0 (x1 : Int) (x5 : Int) (b0_0 : List (List Int)) : Option Int := denAt spec_l03Cells.E spec_l03Cells.fn spec_l03Cells.enc [1, 1, 0, 0] { fr := [(1, .lf (.int .i64 x1)), (2, .lf (.box 0 0)), (5, .lf (.int .i64 x5))], ob := [(0, .box 35 false [.sl (.sl 2 (.int .i64)) b0_0])], nx := 1 }
set_option maxRecDepth 100000 in
theorem spec_l03Cells.f_eq (l0_0 : List (List Int)) (a1 : Int) : spec_l03Cells.f l0_0 a1 = spec_l03Cells.l0 a1 1 l0_0 := by kernel_rfl
set_option maxRecDepth 100000 in
theorem spec_l03Cells.l0_eq (x1 : Int) (x5 : Int) (b0_0 : List (List Int)) : spec_l03Cells.l0 x1 x5 b0_0 = if x1 > 0 then ((spec_l01N.f b0_0).bind fun t12 => spec_l03Cells.l0 (wrapI (x1 - 1)) (wrapI (x5 * (wrapI (t12 - 1)))) b0_0) else (some x5) := (loop_unfold _ _ _ _).trans (by kernel_rfl)
noncomputable def spec_l03Cells.con : Con := ⟨spec_l03Cells.fn.ins, spec_l03Cells.fn.outs, Int, fun x => spec_l03Cells.f x.1 x.2.1, fun r => ((r, ()), (()))⟩
theorem spec_l03Cells.valid : Valid Try.prog 93 spec_l03Cells.con := fn_valid (f := spec_l03Cells.fn) (E := spec_l03Cells.E) (enc := spec_l03Cells.enc) ⟨ttOk, (conCons spec_l01N.valid conNil)⟩ (Checked.mixed Try.checked) ⟨Try.func93, by kernel_rfl, by kernel_rfl, by kernel_rfl, by kernel_rfl, by decide, by kernel_rfl, by kernel_rfl⟩ (fun _ => rfl)
end Go.Proofs.Ytlkdhmijgpadaaa.P
set_option linter.unusedVariables false
namespace Go.Proofs.Ytlkdhmijgpadaaa.P
open Go Go.RowKit Go.Proofs.Ytlkdhmijgpadaaa.D
noncomputable def spec_l03Is.E : Env := { tt := TT, con := [(92, spec_l01In.con), (93, spec_l03Cells.con)], frz := [], rows := [], live := [(4, [4, 5, 7])], n := 39, pin := 0, nils := [] }
noncomputable def spec_l03Is.fn : D.Fn := { body := Try.f133.body.getD .skip, res := Try.f133.results.toList, ins := [.agg [.v (.sl 25 (.sl 2 (.int .i64)))], .agg [.v (.int .i64), .v (.sl 2 (.int .i64))], .agg [.v (.int .i64), .v (.sl 2 (.int .i64))]], outs := [.one (.v .bool)] }
def spec_l03Is.enc (y : lsd (flats spec_l03Is.fn.outs) × lsd (ios spec_l03Is.fn.ins)) : Bool := y.1.1
noncomputable def spec_l03Is.f (l0_0 : List (List Int)) (a1_0 : Int) (l1_1 : List Int) (a2_0 : Int) (l2_1 : List Int) : Option Bool := denF spec_l03Is.E spec_l03Is.fn spec_l03Is.enc (l0_0, a1_0, l1_1, a2_0, l2_1, ())
noncomputable def spec_l03Is.l0 (x7 : Int) (b0_0 : Int) (b0_1 : List Int) (b1_0 : Int) (b1_1 : List Int) : Option Bool := denAt spec_l03Is.E spec_l03Is.fn spec_l03Is.enc [1, 1, 0, 1, 0] { fr := [(4, .lf (.box 0 0)), (5, .lf (.box 1 0)), (7, .lf (.int .i64 x7))], ob := [(0, .box 37 false [.int .i64 b0_0, .sl (.int .i64) b0_1]), (1, .box 39 false [.int .i64 b1_0, .sl (.int .i64) b1_1])], nx := 2 }
set_option maxRecDepth 100000 in
theorem spec_l03Is.f_eq (l0_0 : List (List Int)) (a1_0 : Int) (l1_1 : List Int) (a2_0 : Int) (l2_1 : List Int) : spec_l03Is.f l0_0 a1_0 l1_1 a2_0 l2_1 = (spec_l01In.f a2_0 0 3).bind fun t10 => if t10 = true then ((spec_l03Cells.f l0_0 a2_0).bind fun t19 => if (l2_1.length : Int) = t19 then (spec_l03Is.l0 0 a1_0 l1_1 a2_0 l2_1) else (some false)) else (some false) := by kernel_rfl
set_option maxRecDepth 100000 in
theorem spec_l03Is.l0_eq (x7 : Int) (b0_0 : Int) (b0_1 : List Int) (b1_0 : Int) (b1_1 : List Int) : spec_l03Is.l0 x7 b0_0 b0_1 b1_0 b1_1 = if x7 < (b1_1.length : Int) then (if 0 ≤ x7 then (if x7 < (b1_1.length : Int) then ((spec_l01In.f (rd b1_1 x7) 0 (wrapI (b0_0 - 1))).bind fun t37 => if t37 = true then (spec_l03Is.l0 (wrapI (x7 + 1)) b0_0 b0_1 b1_0 b1_1) else (some false)) else none) else none) else (some true) := (loop_unfold _ _ _ _).trans (by kernel_rfl)
noncomputable def spec_l03Is.con : Con := ⟨spec_l03Is.fn.ins, spec_l03Is.fn.outs, Bool, fun x => spec_l03Is.f x.1 x.2.1 x.2.2.1 x.2.2.2.1 x.2.2.2.2.1, fun r => ((r, ()), (()))⟩
theorem spec_l03Is.valid : Valid Try.prog 133 spec_l03Is.con := fn_valid (f := spec_l03Is.fn) (E := spec_l03Is.E) (enc := spec_l03Is.enc) ⟨ttOk, (conCons spec_l01In.valid (conCons spec_l03Cells.valid conNil))⟩ (Checked.mixed Try.checked) ⟨Try.func133, by kernel_rfl, by kernel_rfl, by kernel_rfl, by kernel_rfl, by decide, by kernel_rfl, by kernel_rfl⟩ (fun _ => rfl)
end Go.Proofs.Ytlkdhmijgpadaaa.P
set_option linter.unusedVariables false
namespace Go.Proofs.Ytlkdhmijgpadaaa.P
open Go Go.RowKit Go.Proofs.Ytlkdhmijgpadaaa.D
noncomputable def spec_l03Code.E : Env := { tt := TT, con := [(71, spec_l01Is.con), (72, spec_l02Is.con), (133, spec_l03Is.con)], frz := [], rows := [], live := [(4, [2, 3, 4, 7])], n := 31, pin := 0, nils := [] }
noncomputable def spec_l03Code.fn : D.Fn := { body := Try.f83.body.getD .skip, res := Try.f83.results.toList, ins := [.agg [.v (.sl 25 (.sl 2 (.int .i64)))], .agg [.v (.int .i64), .v (.sl 2 (.int .i64))], .one (.v (.sl 39 (.pr (.int .i64) (.sl 2 (.int .i64)))))], outs := [.one (.v (.int .i64))] }
def spec_l03Code.enc (y : lsd (flats spec_l03Code.fn.outs) × lsd (ios spec_l03Code.fn.ins)) : Int := y.1.1
noncomputable def spec_l03Code.f (l0_0 : List (List Int)) (a1_0 : Int) (l1_1 : List Int) (l2 : List (Int × (List Int))) : Option Int := denF spec_l03Code.E spec_l03Code.fn spec_l03Code.enc (l0_0, a1_0, l1_1, l2, ())
noncomputable def spec_l03Code.l0 (x2 : List (Int × (List Int))) (x7 : Int) (b0_0 : List (List Int)) (b1_0 : Int) (b1_1 : List Int) : Option Int := denAt spec_l03Code.E spec_l03Code.fn spec_l03Code.enc [1, 1, 0, 1, 0] { fr := [(2, .lf (.sl (.pr (.int .i64) (.sl 2 (.int .i64))) x2)), (3, .lf (.box 0 0)), (4, .lf (.box 1 0)), (7, .lf (.int .i64 x7))], ob := [(0, .box 35 false [.sl (.sl 2 (.int .i64)) b0_0]), (1, .box 37 false [.int .i64 b1_0, .sl (.int .i64) b1_1])], nx := 2 }
set_option maxRecDepth 100000 in
theorem spec_l03Code.f_eq (l0_0 : List (List Int)) (a1_0 : Int) (l1_1 : List Int) (l2 : List (Int × (List Int))) : spec_l03Code.f l0_0 a1_0 l1_1 l2 = (spec_l01Is.f l0_0).bind fun t9 => if t9 = true then ((spec_l02Is.f l0_0 a1_0 l1_1).bind fun t14 => if t14 = true then (spec_l03Code.l0 l2 0 l0_0 a1_0 l1_1) else (some 1)) else (some 1) := by kernel_rfl
set_option maxRecDepth 100000 in
theorem spec_l03Code.l0_eq (x2 : List (Int × (List Int))) (x7 : Int) (b0_0 : List (List Int)) (b1_0 : Int) (b1_1 : List Int) : spec_l03Code.l0 x2 x7 b0_0 b1_0 b1_1 = if x7 < (x2.length : Int) then (if 0 ≤ x7 then (if x7 < (x2.length : Int) then ((spec_l03Is.f b0_0 b1_0 b1_1 ((Ty.rd (.pr (.int .i64) (.sl 2 (.int .i64))) x2 x7).1) ((Ty.rd (.pr (.int .i64) (.sl 2 (.int .i64))) x2 x7).2)).bind fun t29 => if t29 = true then (spec_l03Code.l0 x2 (wrapI (x7 + 1)) b0_0 b1_0 b1_1) else (some 1)) else none) else none) else (some 0) := (loop_unfold _ _ _ _).trans (by kernel_rfl)
noncomputable def spec_l03Code.con : Con := ⟨spec_l03Code.fn.ins, spec_l03Code.fn.outs, Int, fun x => spec_l03Code.f x.1 x.2.1 x.2.2.1 x.2.2.2.1, fun r => ((r, ()), (()))⟩
theorem spec_l03Code.valid : Valid Try.prog 83 spec_l03Code.con := fn_valid (f := spec_l03Code.fn) (E := spec_l03Code.E) (enc := spec_l03Code.enc) ⟨ttOk, (conCons spec_l01Is.valid (conCons spec_l02Is.valid (conCons spec_l03Is.valid conNil)))⟩ (Checked.mixed Try.checked) ⟨Try.func83, by kernel_rfl, by kernel_rfl, by kernel_rfl, by kernel_rfl, by decide, by kernel_rfl, by kernel_rfl⟩ (fun _ => rfl)
end Go.Proofs.Ytlkdhmijgpadaaa.P
set_option linter.unusedVariables false
namespace Go.Proofs.Ytlkdhmijgpadaaa.P
open Go Go.RowKit Go.Proofs.Ytlkdhmijgpadaaa.D
noncomputable def spec_l03At.E : Env := { tt := TT, con := [(84, spec_l01N.con)], frz := [], rows := [], live := [(3, [2, 3, 4, 7, 8])], n := 36, pin := 0, nils := [] }
noncomputable def spec_l03At.fn : D.Fn := { body := Try.f86.body.getD .skip, res := Try.f86.results.toList, ins := [.agg [.v (.sl 25 (.sl 2 (.int .i64)))], .agg [.v (.int .i64), .v (.sl 2 (.int .i64))], .one (.v (.sl 2 (.int .i64)))], outs := [.one (.v (.int .i64))] }
def spec_l03At.enc (y : lsd (flats spec_l03At.fn.outs) × lsd (ios spec_l03At.fn.ins)) : Int := y.1.1
noncomputable def spec_l03At.f (l0_0 : List (List Int)) (a1_0 : Int) (l1_1 : List Int) (l2 : List Int) : Option Int := denF spec_l03At.E spec_l03At.fn spec_l03At.enc (l0_0, a1_0, l1_1, l2, ())
noncomputable def spec_l03At.l0 (x2 : List Int) (x7 : Int) (x8 : Int) (b0_0 : List (List Int)) (b1_0 : Int) (b1_1 : List Int) : Option Int := denAt spec_l03At.E spec_l03At.fn spec_l03At.enc [1, 1, 0, 1, 0] { fr := [(2, .lf (.sl (.int .i64) x2)), (3, .lf (.box 0 0)), (4, .lf (.box 1 0)), (7, .lf (.int .i64 x7)), (8, .lf (.int .i64 x8))], ob := [(0, .box 35 false [.sl (.sl 2 (.int .i64)) b0_0]), (1, .box 39 false [.int .i64 b1_0, .sl (.int .i64) b1_1])], nx := 2 }
set_option maxRecDepth 100000 in
theorem spec_l03At.f_eq (l0_0 : List (List Int)) (a1_0 : Int) (l1_1 : List Int) (l2 : List Int) : spec_l03At.f l0_0 a1_0 l1_1 l2 = spec_l03At.l0 l2 0 0 l0_0 a1_0 l1_1 := by kernel_rfl
set_option maxRecDepth 100000 in
theorem spec_l03At.l0_eq (x2 : List Int) (x7 : Int) (x8 : Int) (b0_0 : List (List Int)) (b1_0 : Int) (b1_1 : List Int) : spec_l03At.l0 x2 x7 x8 b0_0 b1_0 b1_1 = if x8 < (x2.length : Int) then (if 0 ≤ x8 then (if x8 < (x2.length : Int) then (if (rd x2 x8) = 0 then (some 0) else ((spec_l01N.f b0_0).bind fun t22 => if 0 ≤ x8 then (if x8 < (x2.length : Int) then (spec_l03At.l0 x2 (wrapI ((wrapI ((wrapI (x7 * (wrapI (t22 - 1)))) + (rd x2 x8))) - 1)) (wrapI (x8 + 1)) b0_0 b1_0 b1_1) else none) else none)) else none) else none) else (if 0 ≤ x7 then (if x7 < (b1_1.length : Int) then (some (rd b1_1 x7)) else none) else none) := (loop_unfold _ _ _ _).trans (by kernel_rfl)
noncomputable def spec_l03At.con : Con := ⟨spec_l03At.fn.ins, spec_l03At.fn.outs, Int, fun x => spec_l03At.f x.1 x.2.1 x.2.2.1 x.2.2.2.1, fun r => ((r, ()), (()))⟩
theorem spec_l03At.valid : Valid Try.prog 86 spec_l03At.con := fn_valid (f := spec_l03At.fn) (E := spec_l03At.E) (enc := spec_l03At.enc) ⟨ttOk, (conCons spec_l01N.valid conNil)⟩ (Checked.mixed Try.checked) ⟨Try.func86, by kernel_rfl, by kernel_rfl, by kernel_rfl, by kernel_rfl, by decide, by kernel_rfl, by kernel_rfl⟩ (fun _ => rfl)
end Go.Proofs.Ytlkdhmijgpadaaa.P
set_option linter.unusedVariables false
namespace Go.Proofs.Ytlkdhmijgpadaaa.P
open Go Go.RowKit Go.Proofs.Ytlkdhmijgpadaaa.D
noncomputable def spec_l01Own.E : Env := { tt := TT, con := [], frz := [], rows := [], live := [], n := 6, pin := 0, nils := [] }
noncomputable def spec_l01Own.fn : D.Fn := { body := Try.f122.body.getD .skip, res := Try.f122.results.toList, ins := [.one (.v (.sl 2 (.int .i64)))], outs := [.one (.own 2 true (.int .i64))] }
def spec_l01Own.enc (y : lsd (flats spec_l01Own.fn.outs) × lsd (ios spec_l01Own.fn.ins)) : (List Int) := y.1.1
noncomputable def spec_l01Own.f (l0 : List Int) : Option (List Int) := denF spec_l01Own.E spec_l01Own.fn spec_l01Own.enc (l0, ())
set_option maxRecDepth 100000 in
theorem spec_l01Own.f_eq (l0 : List Int) : spec_l01Own.f l0 = if ([] : List Int).length + l0.length ≤ 17592186044416 then (some (([] : List Int) ++ l0)) else none := by kernel_rfl
noncomputable def spec_l01Own.con : Con := ⟨spec_l01Own.fn.ins, spec_l01Own.fn.outs, (List Int), fun x => spec_l01Own.f x.1, fun r => ((r, ()), (()))⟩
theorem spec_l01Own.valid : Valid Try.prog 122 spec_l01Own.con := fn_valid (f := spec_l01Own.fn) (E := spec_l01Own.E) (enc := spec_l01Own.enc) ⟨ttOk, conNil⟩ (Checked.mixed Try.checked) ⟨Try.func122, by kernel_rfl, by kernel_rfl, by kernel_rfl, by kernel_rfl, by decide, by kernel_rfl, by kernel_rfl⟩ (fun _ => rfl)
end Go.Proofs.Ytlkdhmijgpadaaa.P
set_option linter.unusedVariables false
namespace Go.Proofs.Ytlkdhmijgpadaaa.P
open Go Go.RowKit Go.Proofs.Ytlkdhmijgpadaaa.D
noncomputable def spec_l01Mod.E : Env := { tt := TT, con := [], frz := [], rows := [], live := [], n := 12, pin := 0, nils := [] }
noncomputable def spec_l01Mod.fn : D.Fn := { body := Try.f123.body.getD .skip, res := Try.f123.results.toList, ins := [.one (.v (.int .i64)), .one (.v (.int .i64))], outs := [.one (.v (.int .i64))] }
def spec_l01Mod.enc (y : lsd (flats spec_l01Mod.fn.outs) × lsd (ios spec_l01Mod.fn.ins)) : Int := y.1.1
noncomputable def spec_l01Mod.f (a0 : Int) (a1 : Int) : Option Int := denF spec_l01Mod.E spec_l01Mod.fn spec_l01Mod.enc (a0, a1, ())
set_option maxRecDepth 100000 in
theorem spec_l01Mod.f_eq (a0 : Int) (a1 : Int) : spec_l01Mod.f a0 a1 = if a1 = 0 then none else (if a1 = 0 then none else (some ((wrapI (((a0 : Int).tmod a1) + a1) : Int).tmod a1))) := by kernel_rfl
noncomputable def spec_l01Mod.con : Con := ⟨spec_l01Mod.fn.ins, spec_l01Mod.fn.outs, Int, fun x => spec_l01Mod.f x.1 x.2.1, fun r => ((r, ()), (()))⟩
theorem spec_l01Mod.valid : Valid Try.prog 123 spec_l01Mod.con := fn_valid (f := spec_l01Mod.fn) (E := spec_l01Mod.E) (enc := spec_l01Mod.enc) ⟨ttOk, conNil⟩ (Checked.mixed Try.checked) ⟨Try.func123, by kernel_rfl, by kernel_rfl, by kernel_rfl, by kernel_rfl, by decide, by kernel_rfl, by kernel_rfl⟩ (fun _ => rfl)
end Go.Proofs.Ytlkdhmijgpadaaa.P
set_option linter.unusedVariables false
namespace Go.Proofs.Ytlkdhmijgpadaaa.P
open Go Go.RowKit Go.Proofs.Ytlkdhmijgpadaaa.D
noncomputable def spec_l03Side.E : Env := { tt := TT, con := [(86, spec_l03At.con), (122, spec_l01Own.con), (123, spec_l01Mod.con)], frz := [], rows := [], live := [(4, [3, 4, 5, 6, 9, 10, 11, 12])], n := 85, pin := 0, nils := [] }
noncomputable def spec_l03Side.fn : D.Fn := { body := Try.f134.body.getD .skip, res := Try.f134.results.toList, ins := [.agg [.v (.sl 25 (.sl 2 (.int .i64)))], .agg [.v (.int .i64), .v (.sl 2 (.int .i64))], .agg [.v (.int .i64), .v (.sl 2 (.int .i64))], .one (.v (.sl 2 (.int .i64)))], outs := [.one (.v (.int .i64))] }
def spec_l03Side.enc (y : lsd (flats spec_l03Side.fn.outs) × lsd (ios spec_l03Side.fn.ins)) : Int := y.1.1
noncomputable def spec_l03Side.f (l0_0 : List (List Int)) (a1_0 : Int) (l1_1 : List Int) (a2_0 : Int) (l2_1 : List Int) (l3 : List Int) : Option Int := denF spec_l03Side.E spec_l03Side.fn spec_l03Side.enc (l0_0, a1_0, l1_1, a2_0, l2_1, l3, ())
noncomputable def spec_l03Side.l0 (x3 : List Int) (x9 : Int) (x10 : Int) (x11 : Int) (x12 : Int) (b0_0 : List (List Int)) (b1_0 : Int) (b1_1 : List Int) (b2_0 : Int) (b2_1 : List Int) : Option Int := denAt spec_l03Side.E spec_l03Side.fn spec_l03Side.enc [1, 1, 1, 0, 1, 0] { fr := [(3, .lf (.sl (.int .i64) x3)), (4, .lf (.box 0 0)), (5, .lf (.box 1 0)), (6, .lf (.box 2 0)), (9, .lf (.int .i64 x9)), (10, .lf (.int .i64 x10)), (11, .lf (.int .i64 x11)), (12, .lf (.int .i64 x12))], ob := [(0, .box 35 false [.sl (.sl 2 (.int .i64)) b0_0]), (1, .box 37 false [.int .i64 b1_0, .sl (.int .i64) b1_1]), (2, .box 39 false [.int .i64 b2_0, .sl (.int .i64) b2_1])], nx := 3 }
set_option maxRecDepth 100000 in
theorem spec_l03Side.f_eq (l0_0 : List (List Int)) (a1_0 : Int) (l1_1 : List Int) (a2_0 : Int) (l2_1 : List Int) (l3 : List Int) : spec_l03Side.f l0_0 a1_0 l1_1 a2_0 l2_1 l3 = if 0 < (l3.length : Int) then (if 0 ≤ rd l3 0 then (if rd l3 0 < (l1_1.length : Int) then (if 1 ≤ (l3.length : Int) then ((spec_l03At.f l0_0 a2_0 l2_1 (l3.drop (1 : Int).toNat)).bind fun t28 => spec_l03Side.l0 l3 (wrapI ((l3.length : Int) - 1)) (wrapI ((rd l1_1 (rd l3 0)) * t28)) (-1) 0 l0_0 a1_0 l1_1 a2_0 l2_1) else none) else none) else none) else none := by kernel_rfl
set_option maxRecDepth 100000 in
theorem spec_l03Side.l0_eq (x3 : List Int) (x9 : Int) (x10 : Int) (x11 : Int) (x12 : Int) (b0_0 : List (List Int)) (b1_0 : Int) (b1_1 : List Int) (b2_0 : Int) (b2_1 : List Int) : spec_l03Side.l0 x3 x9 x10 x11 x12 b0_0 b1_0 b1_1 b2_0 b2_1 = if x12 < x9 then (if 0 ≤ x12 then (if x12 ≤ (x3.length : Int) then ((spec_l01Own.f (x3.take (x12 : Int).toNat)).bind fun t38 => if 0 ≤ x12 then (if x12 < (x3.length : Int) then (if 0 ≤ rd x3 x12 then (if rd x3 x12 < (b0_0.length : Int) then (if 0 ≤ wrapI (x12 + 1) then (if wrapI (x12 + 1) < (x3.length : Int) then (if 0 ≤ rd x3 (wrapI (x12 + 1)) then (if rd x3 (wrapI (x12 + 1)) < ((row b0_0 (rd x3 x12)).length : Int) then (if t38.length + ([T b0_0 (rd x3 x12) (rd x3 (wrapI (x12 + 1)))] : List Int).length ≤ 17592186044416 then (if 0 ≤ wrapI (x12 + 2) then (if wrapI (x12 + 2) ≤ (x3.length : Int) then (if (t38 ++ ([T b0_0 (rd x3 x12) (rd x3 (wrapI (x12 + 1)))] : List Int)).length + (x3.drop (wrapI (x12 + 2) : Int).toNat).length ≤ 17592186044416 then ((spec_l03At.f b0_0 b2_0 b2_1 ((t38 ++ ([T b0_0 (rd x3 x12) (rd x3 (wrapI (x12 + 1)))] : List Int)) ++ (x3.drop (wrapI (x12 + 2) : Int).toNat))).bind fun t67 => spec_l03Side.l0 x3 x9 (wrapI (x10 + (wrapI (x11 * t67)))) (wrapI (0 - x11)) (wrapI (x12 + 1)) b0_0 b1_0 b1_1 b2_0 b2_1) else none) else none) else none) else none) else none) else none) else none) else none) else none) else none) else none) else none) else none) else none) else (if 0 ≤ x9 then (if x9 ≤ (x3.length : Int) then ((spec_l03At.f b0_0 b2_0 b2_1 (x3.take (x9 : Int).toNat)).bind fun t79 => (spec_l01Mod.f (wrapI (x10 + (wrapI (x11 * t79)))) b1_0).bind fun t84 => some t84) else none) else none) := (loop_unfold _ _ _ _).trans (by kernel_rfl)
noncomputable def spec_l03Side.con : Con := ⟨spec_l03Side.fn.ins, spec_l03Side.fn.outs, Int, fun x => spec_l03Side.f x.1 x.2.1 x.2.2.1 x.2.2.2.1 x.2.2.2.2.1 x.2.2.2.2.2.1, fun r => ((r, ()), (()))⟩
theorem spec_l03Side.valid : Valid Try.prog 134 spec_l03Side.con := fn_valid (f := spec_l03Side.fn) (E := spec_l03Side.E) (enc := spec_l03Side.enc) ⟨ttOk, (conCons spec_l03At.valid (conCons spec_l01Own.valid (conCons spec_l01Mod.valid conNil)))⟩ (Checked.mixed Try.checked) ⟨Try.func134, by kernel_rfl, by kernel_rfl, by kernel_rfl, by kernel_rfl, by decide, by kernel_rfl, by kernel_rfl⟩ (fun _ => rfl)
end Go.Proofs.Ytlkdhmijgpadaaa.P
set_option linter.unusedVariables false
namespace Go.Proofs.Ytlkdhmijgpadaaa.P
open Go Go.RowKit Go.Proofs.Ytlkdhmijgpadaaa.D
noncomputable def spec_l03List.E : Env := { tt := TT, con := [(84, spec_l01N.con)], frz := [], rows := [], live := [(3, [2, 7, 8, 9])], n := 32, pin := 0, nils := [] }
noncomputable def spec_l03List.fn : D.Fn := { body := Try.f135.body.getD .skip, res := Try.f135.results.toList, ins := [.agg [.v (.sl 25 (.sl 2 (.int .i64)))], .one (.v (.int .i64)), .one (.v (.int .i64))], outs := [.one (.own 2 true (.int .i64))] }
def spec_l03List.enc (y : lsd (flats spec_l03List.fn.outs) × lsd (ios spec_l03List.fn.ins)) : (List Int) := y.1.1
noncomputable def spec_l03List.f (l0_0 : List (List Int)) (a1 : Int) (a2 : Int) : Option (List Int) := denF spec_l03List.E spec_l03List.fn spec_l03List.enc (l0_0, a1, a2, ())
noncomputable def spec_l03List.l0 (x2 : Int) (x8 : Int) (x9 : Int) (r0 : List Int) : Option (List Int) := denAt spec_l03List.E spec_l03List.fn spec_l03List.enc [1, 1, 0, 1, 0] { fr := [(2, .lf (.int .i64 x2)), (7, .lf (.own 0)), (8, .lf (.int .i64 x8)), (9, .lf (.int .i64 x9))], ob := [(0, .row 2 true (.int .i64) r0)], nx := 1 }
set_option maxRecDepth 100000 in
theorem spec_l03List.f_eq (l0_0 : List (List Int)) (a1 : Int) (a2 : Int) : spec_l03List.f l0_0 a1 a2 = if a1 = a1 then (if 0 ≤ a1 then (if (a1 : Int).toNat ≤ 17592186044416 then ((spec_l01N.f l0_0).bind fun t13 => spec_l03List.l0 a2 (wrapI (t13 - 1)) (wrapI (a1 - 1)) (List.replicate (a1 : Int).toNat (0 : Int))) else none) else none) else none := by kernel_rfl
set_option maxRecDepth 100000 in
theorem spec_l03List.l0_eq (x2 : Int) (x8 : Int) (x9 : Int) (r0 : List Int) : spec_l03List.l0 x2 x8 x9 r0 = if x9 ≥ 0 then (if x8 = 0 then none else (if 0 ≤ x9 then (if x9 < (r0.length : Int) then (if 0 ≤ x9 then (if x9 < (r0.length : Int) then (if x8 = 0 then none else (spec_l03List.l0 (wrapI ((x2 : Int).tdiv x8)) x8 (wrapI (x9 - 1)) (r0.set (x9 : Int).toNat (wrapI (((x2 : Int).tmod x8) + 1))))) else none) else none) else none) else none)) else (some r0) := (loop_unfold _ _ _ _).trans (by kernel_rfl)
noncomputable def spec_l03List.con : Con := ⟨spec_l03List.fn.ins, spec_l03List.fn.outs, (List Int), fun x => spec_l03List.f x.1 x.2.1 x.2.2.1, fun r => ((r, ()), (()))⟩
theorem spec_l03List.valid : Valid Try.prog 135 spec_l03List.con := fn_valid (f := spec_l03List.fn) (E := spec_l03List.E) (enc := spec_l03List.enc) ⟨ttOk, (conCons spec_l01N.valid conNil)⟩ (Checked.mixed Try.checked) ⟨Try.func135, by kernel_rfl, by kernel_rfl, by kernel_rfl, by kernel_rfl, by decide, by kernel_rfl, by kernel_rfl⟩ (fun _ => rfl)
end Go.Proofs.Ytlkdhmijgpadaaa.P
set_option linter.unusedVariables false
namespace Go.Proofs.Ytlkdhmijgpadaaa.P
open Go Go.RowKit Go.Proofs.Ytlkdhmijgpadaaa.D
noncomputable def spec_l03Cocycle.E : Env := { tt := TT, con := [(93, spec_l03Cells.con), (135, spec_l03List.con), (134, spec_l03Side.con)], frz := [], rows := [], live := [(2, [3, 4, 5, 7])], n := 28, pin := 0, nils := [] }
noncomputable def spec_l03Cocycle.fn : D.Fn := { body := Try.f85.body.getD .skip, res := Try.f85.results.toList, ins := [.agg [.v (.sl 25 (.sl 2 (.int .i64)))], .agg [.v (.int .i64), .v (.sl 2 (.int .i64))], .agg [.v (.int .i64), .v (.sl 2 (.int .i64))]], outs := [.one (.v .bool)] }
def spec_l03Cocycle.enc (y : lsd (flats spec_l03Cocycle.fn.outs) × lsd (ios spec_l03Cocycle.fn.ins)) : Bool := y.1.1
noncomputable def spec_l03Cocycle.f (l0_0 : List (List Int)) (a1_0 : Int) (l1_1 : List Int) (a2_0 : Int) (l2_1 : List Int) : Option Bool := denF spec_l03Cocycle.E spec_l03Cocycle.fn spec_l03Cocycle.enc (l0_0, a1_0, l1_1, a2_0, l2_1, ())
noncomputable def spec_l03Cocycle.l0 (x7 : Int) (b0_0 : List (List Int)) (b1_0 : Int) (b1_1 : List Int) (b2_0 : Int) (b2_1 : List Int) : Option Bool := denAt spec_l03Cocycle.E spec_l03Cocycle.fn spec_l03Cocycle.enc [1, 0, 1, 0] { fr := [(3, .lf (.box 0 0)), (4, .lf (.box 1 0)), (5, .lf (.box 2 0)), (7, .lf (.int .i64 x7))], ob := [(0, .box 35 false [.sl (.sl 2 (.int .i64)) b0_0]), (1, .box 37 false [.int .i64 b1_0, .sl (.int .i64) b1_1]), (2, .box 39 false [.int .i64 b2_0, .sl (.int .i64) b2_1])], nx := 3 }
set_option maxRecDepth 100000 in
theorem spec_l03Cocycle.f_eq (l0_0 : List (List Int)) (a1_0 : Int) (l1_1 : List Int) (a2_0 : Int) (l2_1 : List Int) : spec_l03Cocycle.f l0_0 a1_0 l1_1 a2_0 l2_1 = spec_l03Cocycle.l0 0 l0_0 a1_0 l1_1 a2_0 l2_1 := by kernel_rfl
set_option maxRecDepth 100000 in
theorem spec_l03Cocycle.l0_eq (x7 : Int) (b0_0 : List (List Int)) (b1_0 : Int) (b1_1 : List Int) (b2_0 : Int) (b2_1 : List Int) : spec_l03Cocycle.l0 x7 b0_0 b1_0 b1_1 b2_0 b2_1 = (spec_l03Cells.f b0_0 (wrapI (b2_0 + 1))).bind fun t13 => if x7 < t13 then ((spec_l03List.f b0_0 (wrapI (b2_0 + 1)) x7).bind fun t25 => (spec_l03Side.f b0_0 b1_0 b1_1 b2_0 b2_1 t25).bind fun t26 => if t26 = 0 then (spec_l03Cocycle.l0 (wrapI (x7 + 1)) b0_0 b1_0 b1_1 b2_0 b2_1) else (some false)) else (some true) := (loop_unfold _ _ _ _).trans (by kernel_rfl)
noncomputable def spec_l03Cocycle.con : Con := ⟨spec_l03Cocycle.fn.ins, spec_l03Cocycle.fn.outs, Bool, fun x => spec_l03Cocycle.f x.1 x.2.1 x.2.2.1 x.2.2.2.1 x.2.2.2.2.1, fun r => ((r, ()), (()))⟩
theorem spec_l03Cocycle.valid : Valid Try.prog 85 spec_l03Cocycle.con := fn_valid (f := spec_l03Cocycle.fn) (E := spec_l03Cocycle.E) (enc := spec_l03Cocycle.enc) ⟨ttOk, (conCons spec_l03Cells.valid (conCons spec_l03List.valid (conCons spec_l03Side.valid conNil)))⟩ (Checked.mixed Try.checked) ⟨Try.func85, by kernel_rfl, by kernel_rfl, by kernel_rfl, by kernel_rfl, by decide, by kernel_rfl, by kernel_rfl⟩ (fun _ => rfl)
end Go.Proofs.Ytlkdhmijgpadaaa.P
set_option linter.unusedVariables false
namespace Go.Proofs.Ytlkdhmijgpadaaa.P
open Go Go.RowKit Go.Proofs.Ytlkdhmijgpadaaa.D
noncomputable def spec_l06Given.E : Env := { tt := TT, con := [(83, spec_l03Code.con), (84, spec_l01N.con), (85, spec_l03Cocycle.con)], frz := [], rows := [13], live := [], n := 36, pin := 0, nils := [] }
noncomputable def spec_l06Given.fn : D.Fn := { body := Try.f44.body.getD .skip, res := Try.f44.results.toList, ins := [.agg [.v (.sl 25 (.sl 2 (.int .i64)))], .agg [.v (.int .i64), .v (.sl 2 (.int .i64))], .agg [.v (.int .i64), .v (.sl 2 (.int .i64))], .one (.v (.int .i64))], outs := [.one (.v (.int .i64))] }
def spec_l06Given.enc (y : lsd (flats spec_l06Given.fn.outs) × lsd (ios spec_l06Given.fn.ins)) : Int := y.1.1
noncomputable def spec_l06Given.f (l0_0 : List (List Int)) (a1_0 : Int) (l1_1 : List Int) (a2_0 : Int) (l2_1 : List Int) (a3 : Int) : Option Int := denF spec_l06Given.E spec_l06Given.fn spec_l06Given.enc (l0_0, a1_0, l1_1, a2_0, l2_1, a3, ())
set_option maxRecDepth 100000 in
theorem spec_l06Given.f_eq (l0_0 : List (List Int)) (a1_0 : Int) (l1_1 : List Int) (a2_0 : Int) (l2_1 : List Int) (a3 : Int) : spec_l06Given.f l0_0 a1_0 l1_1 a2_0 l2_1 a3 = (spec_l03Code.f l0_0 a1_0 l1_1 ([(a2_0, l2_1)] : List (Int × (List Int)))).bind fun t14 => if t14 = 0 then (if a2_0 = 2 then ((spec_l01N.f l0_0).bind fun t24 => if (wrapI (t24 * a1_0)) > a3 then (some 3) else ((spec_l03Cocycle.f l0_0 a1_0 l1_1 a2_0 l2_1).bind fun t34 => if t34 = true then (some 0) else (some 5))) else (some 2)) else (some t14) := by kernel_rfl
noncomputable def spec_l06Given.con : Con := ⟨spec_l06Given.fn.ins, spec_l06Given.fn.outs, Int, fun x => spec_l06Given.f x.1 x.2.1 x.2.2.1 x.2.2.2.1 x.2.2.2.2.1 x.2.2.2.2.2.1, fun r => ((r, ()), (()))⟩
theorem spec_l06Given.valid : Valid Try.prog 44 spec_l06Given.con := fn_valid (f := spec_l06Given.fn) (E := spec_l06Given.E) (enc := spec_l06Given.enc) ⟨ttOk, (conCons spec_l03Code.valid (conCons spec_l01N.valid (conCons spec_l03Cocycle.valid conNil)))⟩ (Checked.mixed Try.checked) ⟨Try.func44, by kernel_rfl, by kernel_rfl, by kernel_rfl, by kernel_rfl, by decide, by kernel_rfl, by kernel_rfl⟩ (fun _ => rfl)
end Go.Proofs.Ytlkdhmijgpadaaa.P
set_option linter.unusedVariables false
namespace Go.Proofs.Ytlkdhmijgpadaaa.P
open Go Go.RowKit Go.Proofs.Ytlkdhmijgpadaaa.D
noncomputable def spec_l06Table.E : Env := { tt := TT, con := [(84, spec_l01N.con), (86, spec_l03At.con)], frz := [], rows := [], live := [(3, [3, 4, 5, 7, 8, 9]), (7, [3, 4, 5, 7, 8, 9, 10, 11])], n := 86, pin := 0, nils := [] }
noncomputable def spec_l06Table.fn : D.Fn := { body := Try.f45.body.getD .skip, res := Try.f45.results.toList, ins := [.agg [.v (.sl 25 (.sl 2 (.int .i64)))], .agg [.v (.int .i64), .v (.sl 2 (.int .i64))], .agg [.v (.int .i64), .v (.sl 2 (.int .i64))]], outs := [.one (.own 25 true (.sl 2 (.int .i64)))] }
def spec_l06Table.enc (y : lsd (flats spec_l06Table.fn.outs) × lsd (ios spec_l06Table.fn.ins)) : (List (List Int)) := y.1.1
noncomputable def spec_l06Table.f (l0_0 : List (List Int)) (a1_0 : Int) (l1_1 : List Int) (a2_0 : Int) (l2_1 : List Int) : Option (List (List Int)) := denF spec_l06Table.E spec_l06Table.fn spec_l06Table.enc (l0_0, a1_0, l1_1, a2_0, l2_1, ())
noncomputable def spec_l06Table.l0 (x7 : Int) (x9 : Int) (b0_0 : List (List Int)) (b1_0 : Int) (b1_1 : List Int) (b2_0 : Int) (b2_1 : List Int) (r3 : List (List Int)) : Option (List (List Int)) := denAt spec_l06Table.E spec_l06Table.fn spec_l06Table.enc [1, 1, 0, 1, 0] { fr := [(3, .lf (.box 0 0)), (4, .lf (.box 1 0)), (5, .lf (.box 2 0)), (7, .lf (.int .i64 x7)), (8, .lf (.own 3)), (9, .lf (.int .i64 x9))], ob := [(0, .box 35 false [.sl (.sl 2 (.int .i64)) b0_0]), (1, .box 37 false [.int .i64 b1_0, .sl (.int .i64) b1_1]), (2, .box 39 false [.int .i64 b2_0, .sl (.int .i64) b2_1]), (3, .row 25 true (.sl 2 (.int .i64)) r3)], nx := 4 }
noncomputable def spec_l06Table.l1 (x7 : Int) (x9 : Int) (x11 : Int) (b0_0 : List (List Int)) (b1_0 : Int) (b1_1 : List Int) (b2_0 : Int) (b2_1 : List Int) (r3 : List (List Int)) (r4 : List Int) : Option (List (List Int)) := denAt spec_l06Table.E spec_l06Table.fn spec_l06Table.enc [1, 1, 0, 1, 0, 0, 1, 0, 0, 1, 0, 1, 0] { fr := [(3, .lf (.box 0 0)), (4, .lf (.box 1 0)), (5, .lf (.box 2 0)), (7, .lf (.int .i64 x7)), (8, .lf (.own 3)), (9, .lf (.int .i64 x9)), (10, .lf (.own 4)), (11, .lf (.int .i64 x11))], ob := [(0, .box 35 false [.sl (.sl 2 (.int .i64)) b0_0]), (1, .box 37 false [.int .i64 b1_0, .sl (.int .i64) b1_1]), (2, .box 39 false [.int .i64 b2_0, .sl (.int .i64) b2_1]), (3, .row 25 true (.sl 2 (.int .i64)) r3), (4, .row 2 true (.int .i64) r4)], nx := 5 }
set_option maxRecDepth 100000 in
theorem spec_l06Table.f_eq (l0_0 : List (List Int)) (a1_0 : Int) (l1_1 : List Int) (a2_0 : Int) (l2_1 : List Int) : spec_l06Table.f l0_0 a1_0 l1_1 a2_0 l2_1 = (spec_l01N.f l0_0).bind fun t16 => spec_l06Table.l0 (wrapI (t16 * a1_0)) 0 l0_0 a1_0 l1_1 a2_0 l2_1 ([] : List (List Int)) := by kernel_rfl
set_option maxRecDepth 100000 in
theorem spec_l06Table.l0_eq (x7 : Int) (x9 : Int) (b0_0 : List (List Int)) (b1_0 : Int) (b1_1 : List Int) (b2_0 : Int) (b2_1 : List Int) (r3 : List (List Int)) : spec_l06Table.l0 x7 x9 b0_0 b1_0 b1_1 b2_0 b2_1 r3 = if x9 < x7 then (spec_l06Table.l1 x7 x9 0 b0_0 b1_0 b1_1 b2_0 b2_1 r3 ([] : List Int)) else (some r3) := (loop_unfold _ _ _ _).trans (by kernel_rfl)
set_option maxRecDepth 100000 in
theorem spec_l06Table.l1_eq (x7 : Int) (x9 : Int) (x11 : Int) (b0_0 : List (List Int)) (b1_0 : Int) (b1_1 : List Int) (b2_0 : Int) (b2_1 : List Int) (r3 : List (List Int)) (r4 : List Int) : spec_l06Table.l1 x7 x9 x11 b0_0 b1_0 b1_1 b2_0 b2_1 r3 r4 = if x11 < x7 then (if b1_0 = 0 then none else (if b1_0 = 0 then none else (if b1_0 = 0 then none else (if 0 ≤ wrapI ((x9 : Int).tdiv b1_0) then (if wrapI ((x9 : Int).tdiv b1_0) < (b1_1.length : Int) then (if b1_0 = 0 then none else ((spec_l03At.f b0_0 b2_0 b2_1 ([wrapI ((x9 : Int).tdiv b1_0), wrapI ((x11 : Int).tdiv b1_0)] : List Int)).bind fun t60 => if b1_0 = 0 then none else (if 0 ≤ wrapI ((x9 : Int).tdiv b1_0) then (if wrapI ((x9 : Int).tdiv b1_0) < (b0_0.length : Int) then (if 0 ≤ wrapI ((x11 : Int).tdiv b1_0) then (if wrapI ((x11 : Int).tdiv b1_0) < ((row b0_0 (wrapI ((x9 : Int).tdiv b1_0))).length : Int) then (if r4.length + ([wrapI ((wrapI (b1_0 * (T b0_0 (wrapI ((x9 : Int).tdiv b1_0)) (wrapI ((x11 : Int).tdiv b1_0))))) + ((wrapI ((wrapI (((x9 : Int).tmod b1_0) + (wrapI ((rd b1_1 (wrapI ((x9 : Int).tdiv b1_0))) * ((x11 : Int).tmod b1_0))))) + t60) : Int).tmod b1_0))] : List Int).length ≤ 17592186044416 then (spec_l06Table.l1 x7 x9 (wrapI (x11 + 1)) b0_0 b1_0 b1_1 b2_0 b2_1 r3 (r4 ++ ([wrapI ((wrapI (b1_0 * (T b0_0 (wrapI ((x9 : Int).tdiv b1_0)) (wrapI ((x11 : Int).tdiv b1_0))))) + ((wrapI ((wrapI (((x9 : Int).tmod b1_0) + (wrapI ((rd b1_1 (wrapI ((x9 : Int).tdiv b1_0))) * ((x11 : Int).tmod b1_0))))) + t60) : Int).tmod b1_0))] : List Int))) else none) else none) else none) else none) else none))) else none) else none)))) else (if r3.length + ([r4] : List (List Int)).length ≤ 5864062014805 then (spec_l06Table.l0 x7 (wrapI (x9 + 1)) b0_0 b1_0 b1_1 b2_0 b2_1 (r3 ++ ([r4] : List (List Int)))) else none) := (loop_unfold _ _ _ _).trans (by kernel_rfl)
noncomputable def spec_l06Table.con : Con := ⟨spec_l06Table.fn.ins, spec_l06Table.fn.outs, (List (List Int)), fun x => spec_l06Table.f x.1 x.2.1 x.2.2.1 x.2.2.2.1 x.2.2.2.2.1, fun r => ((r, ()), (()))⟩
theorem spec_l06Table.valid : Valid Try.prog 45 spec_l06Table.con := fn_valid (f := spec_l06Table.fn) (E := spec_l06Table.E) (enc := spec_l06Table.enc) ⟨ttOk, (conCons spec_l01N.valid (conCons spec_l03At.valid conNil))⟩ (Checked.mixed Try.checked) ⟨Try.func45, by kernel_rfl, by kernel_rfl, by kernel_rfl, by kernel_rfl, by decide, by kernel_rfl, by kernel_rfl⟩ (fun _ => rfl)
end Go.Proofs.Ytlkdhmijgpadaaa.P
set_option linter.unusedVariables false
namespace Go.Proofs.Ytlkdhmijgpadaaa.P
open Go Go.RowKit Go.Proofs.Ytlkdhmijgpadaaa.D
noncomputable def spec_OrdersOfExtension.E : Env := { tt := TT, con := [(44, spec_l06Given.con), (45, spec_l06Table.con)], frz := [24], rows := [], live := [(6, [9, 10, 11]), (10, [9, 10, 11, 12, 13])], n := 49, pin := 0, nils := [] }
noncomputable def spec_OrdersOfExtension.fn : D.Fn := { body := Try.f12.body.getD .skip, res := Try.f12.results.toList, ins := [.agg [.v (.sl 25 (.sl 2 (.int .i64)))], .agg [.v (.int .i64), .v (.sl 2 (.int .i64))], .agg [.v (.int .i64), .v (.sl 2 (.int .i64))]], outs := [.one (.own 2 true (.int .i64)), .one (.v (.int .i64))] }
def spec_OrdersOfExtension.enc (y : lsd (flats spec_OrdersOfExtension.fn.outs) × lsd (ios spec_OrdersOfExtension.fn.ins)) : (List Int) × Int := (y.1.1, y.1.2.1)
noncomputable def spec_OrdersOfExtension.f (l0_0 : List (List Int)) (a1_0 : Int) (l1_1 : List Int) (a2_0 : Int) (l2_1 : List Int) : Option ((List Int) × Int) := denF spec_OrdersOfExtension.E spec_OrdersOfExtension.fn spec_OrdersOfExtension.enc (l0_0, a1_0, l1_1, a2_0, l2_1, ())
noncomputable def spec_OrdersOfExtension.l0 (x9 : List (List Int)) (x11 : Int) (r0 : List Int) : Option ((List Int) × Int) := denAt spec_OrdersOfExtension.E spec_OrdersOfExtension.fn spec_OrdersOfExtension.enc [1, 1, 1, 0, 1, 0] { fr := [(9, .lf (.sl (.sl 2 (.int .i64)) x9)), (10, .lf (.own 0)), (11, .lf (.int .i64 x11))], ob := [(0, .row 2 true (.int .i64) r0)], nx := 1 }
noncomputable def spec_OrdersOfExtension.l1 (x9 : List (List Int)) (x11 : Int) (x12 : Int) (x13 : Int) (r0 : List Int) : Option ((List Int) × Int) := denAt spec_OrdersOfExtension.E spec_OrdersOfExtension.fn spec_OrdersOfExtension.enc [1, 1, 1, 0, 1, 0, 0, 1, 0, 0, 1, 0, 1, 0] { fr := [(9, .lf (.sl (.sl 2 (.int .i64)) x9)), (10, .lf (.own 0)), (11, .lf (.int .i64 x11)), (12, .lf (.int .i64 x12)), (13, .lf (.int .i64 x13))], ob := [(0, .row 2 true (.int .i64) r0)], nx := 1 }
set_option maxRecDepth 100000 in
theorem spec_OrdersOfExtension.f_eq (l0_0 : List (List Int)) (a1_0 : Int) (l1_1 : List Int) (a2_0 : Int) (l2_1 : List Int) : spec_OrdersOfExtension.f l0_0 a1_0 l1_1 a2_0 l2_1 = (spec_l06Given.f l0_0 a1_0 l1_1 a2_0 l2_1 64).bind fun t17 => if t17 = 0 then ((spec_l06Table.f l0_0 a1_0 l1_1 a2_0 l2_1).bind fun t24 => spec_OrdersOfExtension.l0 t24 0 ([] : List Int)) else (some (([] : List Int), t17)) := by kernel_rfl
set_option maxRecDepth 100000 in
theorem spec_OrdersOfExtension.l0_eq (x9 : List (List Int)) (x11 : Int) (r0 : List Int) : spec_OrdersOfExtension.l0 x9 x11 r0 = if x11 < (x9.length : Int) then (spec_OrdersOfExtension.l1 x9 x11 1 x11 r0) else (some (r0, 0)) := (loop_unfold _ _ _ _).trans (by kernel_rfl)
set_option maxRecDepth 100000 in
theorem spec_OrdersOfExtension.l1_eq (x9 : List (List Int)) (x11 : Int) (x12 : Int) (x13 : Int) (r0 : List Int) : spec_OrdersOfExtension.l1 x9 x11 x12 x13 r0 = if x13 = 0 then (if r0.length + ([x12] : List Int).length ≤ 17592186044416 then (spec_OrdersOfExtension.l0 x9 (wrapI (x11 + 1)) (r0 ++ ([x12] : List Int))) else none) else (if 0 ≤ x13 then (if x13 < (x9.length : Int) then (if 0 ≤ x11 then (if x11 < ((row x9 x13).length : Int) then (spec_OrdersOfExtension.l1 x9 x11 (wrapI (x12 + 1)) (T x9 x13 x11) r0) else none) else none) else none) else none) := (loop_unfold _ _ _ _).trans (by kernel_rfl)
noncomputable def spec_OrdersOfExtension.con : Con := ⟨spec_OrdersOfExtension.fn.ins, spec_OrdersOfExtension.fn.outs, (List Int) × Int, fun x => spec_OrdersOfExtension.f x.1 x.2.1 x.2.2.1 x.2.2.2.1 x.2.2.2.2.1, fun r => ((r.1, r.2, ()), (()))⟩
theorem spec_OrdersOfExtension.valid : Valid Try.prog 12 spec_OrdersOfExtension.con := fn_valid (f := spec_OrdersOfExtension.fn) (E := spec_OrdersOfExtension.E) (enc := spec_OrdersOfExtension.enc) ⟨ttOk, (conCons spec_l06Given.valid (conCons spec_l06Table.valid conNil))⟩ (Checked.mixed Try.checked) ⟨Try.func12, by kernel_rfl, by kernel_rfl, by kernel_rfl, by kernel_rfl, by decide, by kernel_rfl, by kernel_rfl⟩ (fun _ => rfl)
end Go.Proofs.Ytlkdhmijgpadaaa.P
set_option linter.unusedVariables false
namespace Go.Proofs.Ytlkdhmijgpadaaa.P
open Go Go.RowKit Go.Proofs.Ytlkdhmijgpadaaa.D
noncomputable def laws_toInt64S.E : Env := { tt := TT, con := [], frz := [], rows := [], live := [(3, [0, 3, 4])], n := 22, pin := 0, nils := [] }
noncomputable def laws_toInt64S.fn : D.Fn := { body := Try.f47.body.getD .skip, res := Try.f47.results.toList, ins := [.one (.v (.sl 2 (.int .i64)))], outs := [.one (.own 2 true (.int .i64))] }
def laws_toInt64S.enc (y : lsd (flats laws_toInt64S.fn.outs) × lsd (ios laws_toInt64S.fn.ins)) : (List Int) := y.1.1
noncomputable def laws_toInt64S.f (l0 : List Int) : Option (List Int) := denF laws_toInt64S.E laws_toInt64S.fn laws_toInt64S.enc (l0, ())
noncomputable def laws_toInt64S.l0 (x0 : List Int) (x4 : Int) (r0 : List Int) : Option (List Int) := denAt laws_toInt64S.E laws_toInt64S.fn laws_toInt64S.enc [1, 1, 0, 1, 0] { fr := [(0, .lf (.sl (.int .i64) x0)), (3, .lf (.own 0)), (4, .lf (.int .i64 x4))], ob := [(0, .row 2 true (.int .i64) r0)], nx := 1 }
set_option maxRecDepth 100000 in
theorem laws_toInt64S.f_eq (l0 : List Int) : laws_toInt64S.f l0 = if (l0.length : Int) = (l0.length : Int) then (if 0 ≤ (l0.length : Int) then (if ((l0.length : Int) : Int).toNat ≤ 17592186044416 then (laws_toInt64S.l0 l0 0 (List.replicate ((l0.length : Int) : Int).toNat (0 : Int))) else none) else none) else none := by kernel_rfl
set_option maxRecDepth 100000 in
theorem laws_toInt64S.l0_eq (x0 : List Int) (x4 : Int) (r0 : List Int) : laws_toInt64S.l0 x0 x4 r0 = if x4 < (x0.length : Int) then (if 0 ≤ x4 then (if x4 < (x0.length : Int) then (if 0 ≤ x4 then (if x4 < (r0.length : Int) then (if 0 ≤ x4 then (if x4 < (r0.length : Int) then (laws_toInt64S.l0 x0 (wrapI (x4 + 1)) (r0.set (x4 : Int).toNat (rd x0 x4))) else none) else none) else none) else none) else none) else none) else (some r0) := (loop_unfold _ _ _ _).trans (by kernel_rfl)
noncomputable def laws_toInt64S.con : Con := ⟨laws_toInt64S.fn.ins, laws_toInt64S.fn.outs, (List Int), fun x => laws_toInt64S.f x.1, fun r => ((r, ()), (()))⟩
theorem laws_toInt64S.valid : Valid Try.prog 47 laws_toInt64S.con := fn_valid (f := laws_toInt64S.fn) (E := laws_toInt64S.E) (enc := laws_toInt64S.enc) ⟨ttOk, conNil⟩ (Checked.mixed Try.checked) ⟨Try.func47, by kernel_rfl, by kernel_rfl, by kernel_rfl, by kernel_rfl, by decide, by kernel_rfl, by kernel_rfl⟩ (fun _ => rfl)
end Go.Proofs.Ytlkdhmijgpadaaa.P
set_option linter.unusedVariables false
namespace Go.Proofs.Ytlkdhmijgpadaaa.P
open Go Go.RowKit Go.Proofs.Ytlkdhmijgpadaaa.D
noncomputable def laws_toInt64SS.E : Env := { tt := TT, con := [(47, laws_toInt64S.con)], frz := [], rows := [], live := [(3, [0, 3, 4])], n := 23, pin := 0, nils := [] }
noncomputable def laws_toInt64SS.fn : D.Fn := { body := Try.f46.body.getD .skip, res := Try.f46.results.toList, ins := [.one (.v (.sl 25 (.sl 2 (.int .i64))))], outs := [.one (.own 25 true (.sl 2 (.int .i64)))] }
def laws_toInt64SS.enc (y : lsd (flats laws_toInt64SS.fn.outs) × lsd (ios laws_toInt64SS.fn.ins)) : (List (List Int)) := y.1.1
noncomputable def laws_toInt64SS.f (l0 : List (List Int)) : Option (List (List Int)) := denF laws_toInt64SS.E laws_toInt64SS.fn laws_toInt64SS.enc (l0, ())
noncomputable def laws_toInt64SS.l0 (x0 : List (List Int)) (x4 : Int) (r0 : List (List Int)) : Option (List (List Int)) := denAt laws_toInt64SS.E laws_toInt64SS.fn laws_toInt64SS.enc [1, 1, 0, 1, 0] { fr := [(0, .lf (.sl (.sl 2 (.int .i64)) x0)), (3, .lf (.own 0)), (4, .lf (.int .i64 x4))], ob := [(0, .row 25 true (.sl 2 (.int .i64)) r0)], nx := 1 }
set_option maxRecDepth 100000 in
theorem laws_toInt64SS.f_eq (l0 : List (List Int)) : laws_toInt64SS.f l0 = if (l0.length : Int) = (l0.length : Int) then (if 0 ≤ (l0.length : Int) then (if ((l0.length : Int) : Int).toNat ≤ 5864062014805 then (laws_toInt64SS.l0 l0 0 (List.replicate ((l0.length : Int) : Int).toNat ([] : List Int))) else none) else none) else none := by kernel_rfl
set_option maxRecDepth 100000 in
theorem laws_toInt64SS.l0_eq (x0 : List (List Int)) (x4 : Int) (r0 : List (List Int)) : laws_toInt64SS.l0 x0 x4 r0 = if x4 < (x0.length : Int) then (if 0 ≤ x4 then (if x4 < (x0.length : Int) then ((laws_toInt64S.f (row x0 x4)).bind fun t20 => if 0 ≤ x4 then (if x4 < (r0.length : Int) then (if 0 ≤ x4 then (if x4 < (r0.length : Int) then (laws_toInt64SS.l0 x0 (wrapI (x4 + 1)) (r0.set (x4 : Int).toNat t20)) else none) else none) else none) else none) else none) else none) else (some r0) := (loop_unfold _ _ _ _).trans (by kernel_rfl)
noncomputable def laws_toInt64SS.con : Con := ⟨laws_toInt64SS.fn.ins, laws_toInt64SS.fn.outs, (List (List Int)), fun x => laws_toInt64SS.f x.1, fun r => ((r, ()), (()))⟩
theorem laws_toInt64SS.valid : Valid Try.prog 46 laws_toInt64SS.con := fn_valid (f := laws_toInt64SS.fn) (E := laws_toInt64SS.E) (enc := laws_toInt64SS.enc) ⟨ttOk, (conCons laws_toInt64S.valid conNil)⟩ (Checked.mixed Try.checked) ⟨Try.func46, by kernel_rfl, by kernel_rfl, by kernel_rfl, by kernel_rfl, by decide, by kernel_rfl, by kernel_rfl⟩ (fun _ => rfl)
end Go.Proofs.Ytlkdhmijgpadaaa.P
set_option linter.unusedVariables false
namespace Go.Proofs.Ytlkdhmijgpadaaa.P
open Go Go.RowKit Go.Proofs.Ytlkdhmijgpadaaa.D
noncomputable def laws_toGroup.E : Env := { tt := TT, con := [(46, laws_toInt64SS.con)], frz := [], rows := [], live := [], n := 9, pin := 0, nils := [] }
noncomputable def laws_toGroup.fn : D.Fn := { body := Try.f13.body.getD .skip, res := Try.f13.results.toList, ins := [.agg [.v (.sl 25 (.sl 2 (.int .i64)))]], outs := [.agg [.own 25 true (.sl 2 (.int .i64))]] }
def laws_toGroup.enc (y : lsd (flats laws_toGroup.fn.outs) × lsd (ios laws_toGroup.fn.ins)) : (List (List Int)) := y.1.1
noncomputable def laws_toGroup.f (l0_0 : List (List Int)) : Option (List (List Int)) := denF laws_toGroup.E laws_toGroup.fn laws_toGroup.enc (l0_0, ())
set_option maxRecDepth 100000 in
theorem laws_toGroup.f_eq (l0_0 : List (List Int)) : laws_toGroup.f l0_0 = (laws_toInt64SS.f l0_0).bind fun t6 => some t6 := by kernel_rfl
noncomputable def laws_toGroup.con : Con := ⟨laws_toGroup.fn.ins, laws_toGroup.fn.outs, (List (List Int)), fun x => laws_toGroup.f x.1, fun r => ((r, ()), (()))⟩
theorem laws_toGroup.valid : Valid Try.prog 13 laws_toGroup.con := fn_valid (f := laws_toGroup.fn) (E := laws_toGroup.E) (enc := laws_toGroup.enc) ⟨ttOk, (conCons laws_toInt64SS.valid conNil)⟩ (Checked.mixed Try.checked) ⟨Try.func13, by kernel_rfl, by kernel_rfl, by kernel_rfl, by kernel_rfl, by decide, by kernel_rfl, by kernel_rfl⟩ (fun _ => rfl)
end Go.Proofs.Ytlkdhmijgpadaaa.P
set_option linter.unusedVariables false
namespace Go.Proofs.Ytlkdhmijgpadaaa.P
open Go Go.RowKit Go.Proofs.Ytlkdhmijgpadaaa.D
noncomputable def laws_toModule.E : Env := { tt := TT, con := [(47, laws_toInt64S.con)], frz := [], rows := [], live := [], n := 12, pin := 0, nils := [] }
noncomputable def laws_toModule.fn : D.Fn := { body := Try.f14.body.getD .skip, res := Try.f14.results.toList, ins := [.agg [.v (.int .i64), .v (.sl 2 (.int .i64))]], outs := [.agg [.v (.int .i64), .own 2 true (.int .i64)]] }
def laws_toModule.enc (y : lsd (flats laws_toModule.fn.outs) × lsd (ios laws_toModule.fn.ins)) : Int × (List Int) := (y.1.1, y.1.2.1)
noncomputable def laws_toModule.f (a0_0 : Int) (l0_1 : List Int) : Option (Int × (List Int)) := denF laws_toModule.E laws_toModule.fn laws_toModule.enc (a0_0, l0_1, ())
set_option maxRecDepth 100000 in
theorem laws_toModule.f_eq (a0_0 : Int) (l0_1 : List Int) : laws_toModule.f a0_0 l0_1 = (laws_toInt64S.f l0_1).bind fun t9 => some (a0_0, t9) := by kernel_rfl
noncomputable def laws_toModule.con : Con := ⟨laws_toModule.fn.ins, laws_toModule.fn.outs, Int × (List Int), fun x => laws_toModule.f x.1 x.2.1, fun r => ((r.1, r.2, ()), (()))⟩
theorem laws_toModule.valid : Valid Try.prog 14 laws_toModule.con := fn_valid (f := laws_toModule.fn) (E := laws_toModule.E) (enc := laws_toModule.enc) ⟨ttOk, (conCons laws_toInt64S.valid conNil)⟩ (Checked.mixed Try.checked) ⟨Try.func14, by kernel_rfl, by kernel_rfl, by kernel_rfl, by kernel_rfl, by decide, by kernel_rfl, by kernel_rfl⟩ (fun _ => rfl)
end Go.Proofs.Ytlkdhmijgpadaaa.P
set_option linter.unusedVariables false
namespace Go.Proofs.Ytlkdhmijgpadaaa.P
open Go Go.RowKit Go.Proofs.Ytlkdhmijgpadaaa.D
noncomputable def laws_toCochain.E : Env := { tt := TT, con := [(47, laws_toInt64S.con)], frz := [], rows := [], live := [], n := 12, pin := 0, nils := [] }
noncomputable def laws_toCochain.fn : D.Fn := { body := Try.f15.body.getD .skip, res := Try.f15.results.toList, ins := [.agg [.v (.int .i64), .v (.sl 2 (.int .i64))]], outs := [.agg [.v (.int .i64), .own 2 true (.int .i64)]] }
def laws_toCochain.enc (y : lsd (flats laws_toCochain.fn.outs) × lsd (ios laws_toCochain.fn.ins)) : Int × (List Int) := (y.1.1, y.1.2.1)
noncomputable def laws_toCochain.f (a0_0 : Int) (l0_1 : List Int) : Option (Int × (List Int)) := denF laws_toCochain.E laws_toCochain.fn laws_toCochain.enc (a0_0, l0_1, ())
set_option maxRecDepth 100000 in
theorem laws_toCochain.f_eq (a0_0 : Int) (l0_1 : List Int) : laws_toCochain.f a0_0 l0_1 = (laws_toInt64S.f l0_1).bind fun t9 => some (a0_0, t9) := by kernel_rfl
noncomputable def laws_toCochain.con : Con := ⟨laws_toCochain.fn.ins, laws_toCochain.fn.outs, Int × (List Int), fun x => laws_toCochain.f x.1 x.2.1, fun r => ((r.1, r.2, ()), (()))⟩
theorem laws_toCochain.valid : Valid Try.prog 15 laws_toCochain.con := fn_valid (f := laws_toCochain.fn) (E := laws_toCochain.E) (enc := laws_toCochain.enc) ⟨ttOk, (conCons laws_toInt64S.valid conNil)⟩ (Checked.mixed Try.checked) ⟨Try.func15, by kernel_rfl, by kernel_rfl, by kernel_rfl, by kernel_rfl, by decide, by kernel_rfl, by kernel_rfl⟩ (fun _ => rfl)
end Go.Proofs.Ytlkdhmijgpadaaa.P
set_option linter.unusedVariables false
namespace Go.Proofs.Ytlkdhmijgpadaaa.P
open Go Go.RowKit Go.Proofs.Ytlkdhmijgpadaaa.D
noncomputable def impl_order.E : Env := { tt := TT, con := [], frz := [], rows := [], live := [], n := 6, pin := 0, nils := [] }
noncomputable def impl_order.fn : D.Fn := { body := Try.f52.body.getD .skip, res := Try.f52.results.toList, ins := [.agg [.v (.sl 25 (.sl 2 (.int .i64)))]], outs := [.one (.v (.int .i64))] }
def impl_order.enc (y : lsd (flats impl_order.fn.outs) × lsd (ios impl_order.fn.ins)) : Int := y.1.1
noncomputable def impl_order.f (l0_0 : List (List Int)) : Option Int := denF impl_order.E impl_order.fn impl_order.enc (l0_0, ())
set_option maxRecDepth 100000 in
theorem impl_order.f_eq (l0_0 : List (List Int)) : impl_order.f l0_0 = some (l0_0.length : Int) := by kernel_rfl
noncomputable def impl_order.con : Con := ⟨impl_order.fn.ins, impl_order.fn.outs, Int, fun x => impl_order.f x.1, fun r => ((r, ()), (()))⟩
theorem impl_order.valid : Valid Try.prog 52 impl_order.con := fn_valid (f := impl_order.fn) (E := impl_order.E) (enc := impl_order.enc) ⟨ttOk, conNil⟩ (Checked.mixed Try.checked) ⟨Try.func52, by kernel_rfl, by kernel_rfl, by kernel_rfl, by kernel_rfl, by decide, by kernel_rfl, by kernel_rfl⟩ (fun _ => rfl)
end Go.Proofs.Ytlkdhmijgpadaaa.P
set_option linter.unusedVariables false
namespace Go.Proofs.Ytlkdhmijgpadaaa.P
open Go Go.RowKit Go.Proofs.Ytlkdhmijgpadaaa.D
noncomputable def impl_areIn.E : Env := { tt := TT, con := [], frz := [], rows := [], live := [(2, [0, 7, 8, 9])], n := 21, pin := 0, nils := [] }
noncomputable def impl_areIn.fn : D.Fn := { body := Try.f153.body.getD .skip, res := Try.f153.results.toList, ins := [.one (.v (.int .i64)), .one (.v (.sl 2 (.int .i64)))], outs := [.one (.v .bool)] }
def impl_areIn.enc (y : lsd (flats impl_areIn.fn.outs) × lsd (ios impl_areIn.fn.ins)) : Bool := y.1.1
noncomputable def impl_areIn.f (a0 : Int) (l1 : List Int) : Option Bool := denF impl_areIn.E impl_areIn.fn impl_areIn.enc (a0, l1, ())
noncomputable def impl_areIn.l0 (x0 : Int) (x7 : List Int) (x8 : Int) (x9 : Int) : Option Bool := denAt impl_areIn.E impl_areIn.fn impl_areIn.enc [1, 0, 1, 0] { fr := [(0, .lf (.int .i64 x0)), (7, .lf (.sl (.int .i64) x7)), (8, .lf (.int .i64 x8)), (9, .lf (.int .i64 x9))], ob := [], nx := 0 }
set_option maxRecDepth 100000 in
theorem impl_areIn.f_eq (a0 : Int) (l1 : List Int) : impl_areIn.f a0 l1 = impl_areIn.l0 a0 l1 (l1.length : Int) 0 := by kernel_rfl
set_option maxRecDepth 100000 in
theorem impl_areIn.l0_eq (x0 : Int) (x7 : List Int) (x8 : Int) (x9 : Int) : impl_areIn.l0 x0 x7 x8 x9 = if x9 < x8 then (if 0 ≤ x9 then (if x9 < (x7.length : Int) then (if (rd x7 x9) < 0 then (some false) else (if (rd x7 x9) ≥ x0 then (some false) else (impl_areIn.l0 x0 x7 x8 (wrapI (x9 + 1))))) else none) else none) else (some true) := (loop_unfold _ _ _ _).trans (by kernel_rfl)
noncomputable def impl_areIn.con : Con := ⟨impl_areIn.fn.ins, impl_areIn.fn.outs, Bool, fun x => impl_areIn.f x.1 x.2.1, fun r => ((r, ()), (()))⟩
theorem impl_areIn.valid : Valid Try.prog 153 impl_areIn.con := fn_valid (f := impl_areIn.fn) (E := impl_areIn.E) (enc := impl_areIn.enc) ⟨ttOk, conNil⟩ (Checked.mixed Try.checked) ⟨Try.func153, by kernel_rfl, by kernel_rfl, by kernel_rfl, by kernel_rfl, by decide, by kernel_rfl, by kernel_rfl⟩ (fun _ => rfl)
end Go.Proofs.Ytlkdhmijgpadaaa.P
set_option linter.unusedVariables false
namespace Go.Proofs.Ytlkdhmijgpadaaa.P
open Go Go.RowKit Go.Proofs.Ytlkdhmijgpadaaa.D
noncomputable def slices_Index_int64.E : Env := { tt := TT, con := [], frz := [], rows := [], live := [(2, [0, 1, 7, 8])], n := 19, pin := 0, nils := [] }
noncomputable def slices_Index_int64.fn : D.Fn := { body := Try.f120.body.getD .skip, res := Try.f120.results.toList, ins := [.one (.v (.sl 2 (.int .i64))), .one (.v (.int .i64))], outs := [.one (.v (.int .i64))] }
def slices_Index_int64.enc (y : lsd (flats slices_Index_int64.fn.outs) × lsd (ios slices_Index_int64.fn.ins)) : Int := y.1.1
noncomputable def slices_Index_int64.f (l0 : List Int) (a1 : Int) : Option Int := denF slices_Index_int64.E slices_Index_int64.fn slices_Index_int64.enc (l0, a1, ())
noncomputable def slices_Index_int64.l0 (x0 : List Int) (x1 : Int) (x7 : Int) (x8 : Int) : Option Int := denAt slices_Index_int64.E slices_Index_int64.fn slices_Index_int64.enc [1, 0, 1, 0] { fr := [(0, .lf (.sl (.int .i64) x0)), (1, .lf (.int .i64 x1)), (7, .lf (.int .i64 x7)), (8, .lf (.int .i64 x8))], ob := [], nx := 0 }
set_option maxRecDepth 100000 in
theorem slices_Index_int64.f_eq (l0 : List Int) (a1 : Int) : slices_Index_int64.f l0 a1 = slices_Index_int64.l0 l0 a1 (l0.length : Int) 0 := by kernel_rfl
set_option maxRecDepth 100000 in
theorem slices_Index_int64.l0_eq (x0 : List Int) (x1 : Int) (x7 : Int) (x8 : Int) : slices_Index_int64.l0 x0 x1 x7 x8 = if x8 < x7 then (if 0 ≤ x8 then (if x8 < (x0.length : Int) then (if x1 = (rd x0 x8) then (some x8) else (slices_Index_int64.l0 x0 x1 x7 (wrapI (x8 + 1)))) else none) else none) else (some (-1)) := (loop_unfold _ _ _ _).trans (by kernel_rfl)
noncomputable def slices_Index_int64.con : Con := ⟨slices_Index_int64.fn.ins, slices_Index_int64.fn.outs, Int, fun x => slices_Index_int64.f x.1 x.2.1, fun r => ((r, ()), (()))⟩
theorem slices_Index_int64.valid : Valid Try.prog 120 slices_Index_int64.con := fn_valid (f := slices_Index_int64.fn) (E := slices_Index_int64.E) (enc := slices_Index_int64.enc) ⟨ttOk, conNil⟩ (Checked.mixed Try.checked) ⟨Try.func120, by kernel_rfl, by kernel_rfl, by kernel_rfl, by kernel_rfl, by decide, by kernel_rfl, by kernel_rfl⟩ (fun _ => rfl)
end Go.Proofs.Ytlkdhmijgpadaaa.P
set_option linter.unusedVariables false
namespace Go.Proofs.Ytlkdhmijgpadaaa.P
open Go Go.RowKit Go.Proofs.Ytlkdhmijgpadaaa.D
noncomputable def slices_Contains_int64.E : Env := { tt := TT, con := [(120, slices_Index_int64.con)], frz := [], rows := [], live := [], n := 9, pin := 0, nils := [] }
noncomputable def slices_Contains_int64.fn : D.Fn := { body := Try.f154.body.getD .skip, res := Try.f154.results.toList, ins := [.one (.v (.sl 2 (.int .i64))), .one (.v (.int .i64))], outs := [.one (.v .bool)] }
def slices_Contains_int64.enc (y : lsd (flats slices_Contains_int64.fn.outs) × lsd (ios slices_Contains_int64.fn.ins)) : Bool := y.1.1
noncomputable def slices_Contains_int64.f (l0 : List Int) (a1 : Int) : Option Bool := denF slices_Contains_int64.E slices_Contains_int64.fn slices_Contains_int64.enc (l0, a1, ())
set_option maxRecDepth 100000 in
theorem slices_Contains_int64.f_eq (l0 : List Int) (a1 : Int) : slices_Contains_int64.f l0 a1 = (slices_Index_int64.f l0 a1).bind fun t7 => some (decide (t7 ≥ 0)) := by kernel_rfl
noncomputable def slices_Contains_int64.con : Con := ⟨slices_Contains_int64.fn.ins, slices_Contains_int64.fn.outs, Bool, fun x => slices_Contains_int64.f x.1 x.2.1, fun r => ((r, ()), (()))⟩
theorem slices_Contains_int64.valid : Valid Try.prog 154 slices_Contains_int64.con := fn_valid (f := slices_Contains_int64.fn) (E := slices_Contains_int64.E) (enc := slices_Contains_int64.enc) ⟨ttOk, (conCons slices_Index_int64.valid conNil)⟩ (Checked.mixed Try.checked) ⟨Try.func154, by kernel_rfl, by kernel_rfl, by kernel_rfl, by kernel_rfl, by decide, by kernel_rfl, by kernel_rfl⟩ (fun _ => rfl)
end Go.Proofs.Ytlkdhmijgpadaaa.P
set_option linter.unusedVariables false
namespace Go.Proofs.Ytlkdhmijgpadaaa.P
open Go Go.RowKit Go.Proofs.Ytlkdhmijgpadaaa.D
noncomputable def impl_IsGroup.E : Env := { tt := TT, con := [(52, impl_order.con), (153, impl_areIn.con), (154, slices_Contains_int64.con)], frz := [], rows := [], live := [(5, [1, 3, 18, 19, 20]), (11, [1, 3, 35, 36]), (16, [1, 3, 6, 35, 36, 68, 69]), (19, [1, 3, 6, 7, 35, 36, 68, 69, 72, 73])], n := 110, pin := 0, nils := [] }
noncomputable def impl_IsGroup.fn : D.Fn := { body := Try.f114.body.getD .skip, res := Try.f114.results.toList, ins := [.agg [.v (.sl 25 (.sl 2 (.int .i64)))]], outs := [.one (.v .bool)] }
def impl_IsGroup.enc (y : lsd (flats impl_IsGroup.fn.outs) × lsd (ios impl_IsGroup.fn.ins)) : Bool := y.1.1
noncomputable def impl_IsGroup.f (l0_0 : List (List Int)) : Option Bool := denF impl_IsGroup.E impl_IsGroup.fn impl_IsGroup.enc (l0_0, ())
noncomputable def impl_IsGroup.l0 (x3 : Int) (x18 : List (List Int)) (x19 : Int) (x20 : Int) (b0_0 : List (List Int)) : Option Bool := denAt impl_IsGroup.E impl_IsGroup.fn impl_IsGroup.enc [1, 1, 1, 0, 1, 0] { fr := [(1, .lf (.box 0 0)), (3, .lf (.int .i64 x3)), (18, .lf (.sl (.sl 2 (.int .i64)) x18)), (19, .lf (.int .i64 x19)), (20, .lf (.int .i64 x20))], ob := [(0, .box 35 false [.sl (.sl 2 (.int .i64)) b0_0])], nx := 1 }
noncomputable def impl_IsGroup.l1 (x3 : Int) (x35 : Int) (x36 : Int) (b0_0 : List (List Int)) : Option Bool := denAt impl_IsGroup.E impl_IsGroup.fn impl_IsGroup.enc [1, 1, 1, 1, 0, 1, 0] { fr := [(1, .lf (.box 0 0)), (3, .lf (.int .i64 x3)), (35, .lf (.int .i64 x35)), (36, .lf (.int .i64 x36))], ob := [(0, .box 35 false [.sl (.sl 2 (.int .i64)) b0_0])], nx := 1 }
noncomputable def impl_IsGroup.l2 (x3 : Int) (x6 : Int) (x35 : Int) (x36 : Int) (x68 : Int) (x69 : Int) (b0_0 : List (List Int)) : Option Bool := denAt impl_IsGroup.E impl_IsGroup.fn impl_IsGroup.enc [1, 1, 1, 1, 0, 1, 0, 0, 1, 1, 0, 0, 1, 1, 1, 0] { fr := [(1, .lf (.box 0 0)), (3, .lf (.int .i64 x3)), (6, .lf (.int .i64 x6)), (35, .lf (.int .i64 x35)), (36, .lf (.int .i64 x36)), (68, .lf (.int .i64 x68)), (69, .lf (.int .i64 x69))], ob := [(0, .box 35 false [.sl (.sl 2 (.int .i64)) b0_0])], nx := 1 }
noncomputable def impl_IsGroup.l3 (x3 : Int) (x6 : Int) (x7 : Int) (x35 : Int) (x36 : Int) (x68 : Int) (x69 : Int) (x72 : Int) (x73 : Int) (b0_0 : List (List Int)) : Option Bool := denAt impl_IsGroup.E impl_IsGroup.fn impl_IsGroup.enc [1, 1, 1, 1, 0, 1, 0, 0, 1, 1, 0, 0, 1, 1, 1, 0, 0, 1, 1, 0, 0, 1, 1, 0] { fr := [(1, .lf (.box 0 0)), (3, .lf (.int .i64 x3)), (6, .lf (.int .i64 x6)), (7, .lf (.int .i64 x7)), (35, .lf (.int .i64 x35)), (36, .lf (.int .i64 x36)), (68, .lf (.int .i64 x68)), (69, .lf (.int .i64 x69)), (72, .lf (.int .i64 x72)), (73, .lf (.int .i64 x73))], ob := [(0, .box 35 false [.sl (.sl 2 (.int .i64)) b0_0])], nx := 1 }
set_option maxRecDepth 100000 in
theorem impl_IsGroup.f_eq (l0_0 : List (List Int)) : impl_IsGroup.f l0_0 = (impl_order.f l0_0).bind fun t10 => if t10 < 1 then (some false) else (if t10 > 8 then (some false) else (impl_IsGroup.l0 t10 l0_0 (l0_0.length : Int) 0 l0_0)) := by kernel_rfl
set_option maxRecDepth 100000 in
theorem impl_IsGroup.l0_eq (x3 : Int) (x18 : List (List Int)) (x19 : Int) (x20 : Int) (b0_0 : List (List Int)) : impl_IsGroup.l0 x3 x18 x19 x20 b0_0 = if x20 < x19 then (if 0 ≤ x20 then (if x20 < (x18.length : Int) then (if ((row x18 x20).length : Int) = x3 then ((impl_areIn.f x3 (row x18 x20)).bind fun t31 => if t31 = true then (impl_IsGroup.l0 x3 x18 x19 (wrapI (x20 + 1)) b0_0) else (some false)) else (some false)) else none) else none) else (impl_IsGroup.l1 x3 x3 0 b0_0) := (loop_unfold _ _ _ _).trans (by kernel_rfl)
set_option maxRecDepth 100000 in
theorem impl_IsGroup.l1_eq (x3 : Int) (x35 : Int) (x36 : Int) (b0_0 : List (List Int)) : impl_IsGroup.l1 x3 x35 x36 b0_0 = if x36 < x35 then (if 0 < (b0_0.length : Int) then (if 0 ≤ x36 then (if x36 < ((row b0_0 0).length : Int) then (if (T b0_0 0 x36) = x36 then (if 0 ≤ x36 then (if x36 < (b0_0.length : Int) then (if 0 < ((row b0_0 x36).length : Int) then (if (T b0_0 x36 0) = x36 then (if 0 ≤ x36 then (if x36 < (b0_0.length : Int) then ((slices_Contains_int64.f (row b0_0 x36) 0).bind fun t65 => if t65 = true then (impl_IsGroup.l2 x3 x36 x35 x36 x3 0 b0_0) else (some false)) else none) else none) else (some false)) else none) else none) else none) else (some false)) else none) else none) else none) else (some true) := (loop_unfold _ _ _ _).trans (by kernel_rfl)
set_option maxRecDepth 100000 in
theorem impl_IsGroup.l2_eq (x3 : Int) (x6 : Int) (x35 : Int) (x36 : Int) (x68 : Int) (x69 : Int) (b0_0 : List (List Int)) : impl_IsGroup.l2 x3 x6 x35 x36 x68 x69 b0_0 = if x69 < x68 then (impl_IsGroup.l3 x3 x6 x69 x35 x36 x68 x69 x3 0 b0_0) else (impl_IsGroup.l1 x3 x35 (wrapI (x36 + 1)) b0_0) := (loop_unfold _ _ _ _).trans (by kernel_rfl)
set_option maxRecDepth 100000 in
theorem impl_IsGroup.l3_eq (x3 : Int) (x6 : Int) (x7 : Int) (x35 : Int) (x36 : Int) (x68 : Int) (x69 : Int) (x72 : Int) (x73 : Int) (b0_0 : List (List Int)) : impl_IsGroup.l3 x3 x6 x7 x35 x36 x68 x69 x72 x73 b0_0 = if x73 < x72 then (if 0 ≤ x6 then (if x6 < (b0_0.length : Int) then (if 0 ≤ x7 then (if x7 < ((row b0_0 x6).length : Int) then (if 0 ≤ T b0_0 x6 x7 then (if T b0_0 x6 x7 < (b0_0.length : Int) then (if 0 ≤ x73 then (if x73 < ((row b0_0 (T b0_0 x6 x7)).length : Int) then (if 0 ≤ x6 then (if x6 < (b0_0.length : Int) then (if 0 ≤ x7 then (if x7 < (b0_0.length : Int) then (if 0 ≤ x73 then (if x73 < ((row b0_0 x7).length : Int) then (if 0 ≤ T b0_0 x7 x73 then (if T b0_0 x7 x73 < ((row b0_0 x6).length : Int) then (if (T b0_0 (T b0_0 x6 x7) x73) = (T b0_0 x6 (T b0_0 x7 x73)) then (impl_IsGroup.l3 x3 x6 x7 x35 x36 x68 x69 x72 (wrapI (x73 + 1)) b0_0) else (some false)) else none) else none) else none) else none) else none) else none) else none) else none) else none) else none) else none) else none) else none) else none) else none) else none) else (impl_IsGroup.l2 x3 x6 x35 x36 x68 (wrapI (x69 + 1)) b0_0) := (loop_unfold _ _ _ _).trans (by kernel_rfl)
noncomputable def impl_IsGroup.con : Con := ⟨impl_IsGroup.fn.ins, impl_IsGroup.fn.outs, Bool, fun x => impl_IsGroup.f x.1, fun r => ((r, ()), (()))⟩
theorem impl_IsGroup.valid : Valid Try.prog 114 impl_IsGroup.con := fn_valid (f := impl_IsGroup.fn) (E := impl_IsGroup.E) (enc := impl_IsGroup.enc) ⟨ttOk, (conCons impl_order.valid (conCons impl_areIn.valid (conCons slices_Contains_int64.valid conNil)))⟩ (Checked.mixed Try.checked) ⟨Try.func114, by kernel_rfl, by kernel_rfl, by kernel_rfl, by kernel_rfl, by decide, by kernel_rfl, by kernel_rfl⟩ (fun _ => rfl)
end Go.Proofs.Ytlkdhmijgpadaaa.P
set_option linter.unusedVariables false
namespace Go.Proofs.Ytlkdhmijgpadaaa.P
open Go Go.RowKit Go.Proofs.Ytlkdhmijgpadaaa.D
noncomputable def impl_Group_times.E : Env := { tt := TT, con := [], frz := [], rows := [], live := [(3, [2, 5, 8, 9, 10])], n := 24, pin := 0, nils := [] }
noncomputable def impl_Group_times.fn : D.Fn := { body := Try.f69.body.getD .skip, res := Try.f69.results.toList, ins := [.agg [.v (.sl 25 (.sl 2 (.int .i64)))], .one (.v (.sl 2 (.int .i64)))], outs := [.one (.v (.int .i64))] }
def impl_Group_times.enc (y : lsd (flats impl_Group_times.fn.outs) × lsd (ios impl_Group_times.fn.ins)) : Int := y.1.1
noncomputable def impl_Group_times.f (l0_0 : List (List Int)) (l1 : List Int) : Option Int := denF impl_Group_times.E impl_Group_times.fn impl_Group_times.enc (l0_0, l1, ())
noncomputable def impl_Group_times.l0 (x5 : Int) (x8 : List Int) (x9 : Int) (x10 : Int) (b0_0 : List (List Int)) : Option Int := denAt impl_Group_times.E impl_Group_times.fn impl_Group_times.enc [1, 1, 0, 1, 0] { fr := [(2, .lf (.box 0 0)), (5, .lf (.int .i64 x5)), (8, .lf (.sl (.int .i64) x8)), (9, .lf (.int .i64 x9)), (10, .lf (.int .i64 x10))], ob := [(0, .box 35 false [.sl (.sl 2 (.int .i64)) b0_0])], nx := 1 }
set_option maxRecDepth 100000 in
theorem impl_Group_times.f_eq (l0_0 : List (List Int)) (l1 : List Int) : impl_Group_times.f l0_0 l1 = impl_Group_times.l0 0 l1 (l1.length : Int) 0 l0_0 := by kernel_rfl
set_option maxRecDepth 100000 in
theorem impl_Group_times.l0_eq (x5 : Int) (x8 : List Int) (x9 : Int) (x10 : Int) (b0_0 : List (List Int)) : impl_Group_times.l0 x5 x8 x9 x10 b0_0 = if x10 < x9 then (if 0 ≤ x10 then (if x10 < (x8.length : Int) then (if 0 ≤ x5 then (if x5 < (b0_0.length : Int) then (if 0 ≤ rd x8 x10 then (if rd x8 x10 < ((row b0_0 x5).length : Int) then (impl_Group_times.l0 (T b0_0 x5 (rd x8 x10)) x8 x9 (wrapI (x10 + 1)) b0_0) else none) else none) else none) else none) else none) else none) else (some x5) := (loop_unfold _ _ _ _).trans (by kernel_rfl)
noncomputable def impl_Group_times.con : Con := ⟨impl_Group_times.fn.ins, impl_Group_times.fn.outs, Int, fun x => impl_Group_times.f x.1 x.2.1, fun r => ((r, ()), (()))⟩
theorem impl_Group_times.valid : Valid Try.prog 69 impl_Group_times.con := fn_valid (f := impl_Group_times.fn) (E := impl_Group_times.E) (enc := impl_Group_times.enc) ⟨ttOk, conNil⟩ (Checked.mixed Try.checked) ⟨Try.func69, by kernel_rfl, by kernel_rfl, by kernel_rfl, by kernel_rfl, by decide, by kernel_rfl, by kernel_rfl⟩ (fun _ => rfl)
end Go.Proofs.Ytlkdhmijgpadaaa.P
set_option linter.unusedVariables false
namespace Go.Proofs.Ytlkdhmijgpadaaa.P
open Go Go.RowKit Go.Proofs.Ytlkdhmijgpadaaa.D
noncomputable def impl_isModulus.E : Env := { tt := TT, con := [], frz := [], rows := [], live := [], n := 9, pin := 0, nils := [] }
noncomputable def impl_isModulus.fn : D.Fn := { body := Try.f171.body.getD .skip, res := Try.f171.results.toList, ins := [.one (.v (.int .i64))], outs := [.one (.v .bool)] }
def impl_isModulus.enc (y : lsd (flats impl_isModulus.fn.outs) × lsd (ios impl_isModulus.fn.ins)) : Bool := y.1.1
noncomputable def impl_isModulus.f (a0 : Int) : Option Bool := denF impl_isModulus.E impl_isModulus.fn impl_isModulus.enc (a0, ())
set_option maxRecDepth 100000 in
theorem impl_isModulus.f_eq (a0 : Int) : impl_isModulus.f a0 = if a0 ≥ 2 then (some (decide (a0 ≤ 12))) else (some false) := by kernel_rfl
noncomputable def impl_isModulus.con : Con := ⟨impl_isModulus.fn.ins, impl_isModulus.fn.outs, Bool, fun x => impl_isModulus.f x.1, fun r => ((r, ()), (()))⟩
theorem impl_isModulus.valid : Valid Try.prog 171 impl_isModulus.con := fn_valid (f := impl_isModulus.fn) (E := impl_isModulus.E) (enc := impl_isModulus.enc) ⟨ttOk, conNil⟩ (Checked.mixed Try.checked) ⟨Try.func171, by kernel_rfl, by kernel_rfl, by kernel_rfl, by kernel_rfl, by decide, by kernel_rfl, by kernel_rfl⟩ (fun _ => rfl)
end Go.Proofs.Ytlkdhmijgpadaaa.P
set_option linter.unusedVariables false
namespace Go.Proofs.Ytlkdhmijgpadaaa.P
open Go Go.RowKit Go.Proofs.Ytlkdhmijgpadaaa.D
noncomputable def impl_gcd.E : Env := { tt := TT, con := [], frz := [], rows := [], live := [(1, [0, 1])], n := 12, pin := 0, nils := [] }
noncomputable def impl_gcd.fn : D.Fn := { body := Try.f168.body.getD .skip, res := Try.f168.results.toList, ins := [.one (.v (.int .i64)), .one (.v (.int .i64))], outs := [.one (.v (.int .i64))] }
def impl_gcd.enc (y : lsd (flats impl_gcd.fn.outs) × lsd (ios impl_gcd.fn.ins)) : Int := y.1.1
noncomputable def impl_gcd.f (a0 : Int) (a1 : Int) : Option Int := denF impl_gcd.E impl_gcd.fn impl_gcd.enc (a0, a1, ())
noncomputable def impl_gcd.l0 (x0 : Int) (x1 : Int) : Option Int := denAt impl_gcd.E impl_gcd.fn impl_gcd.enc [1, 0, 0] { fr := [(0, .lf (.int .i64 x0)), (1, .lf (.int .i64 x1))], ob := [], nx := 0 }
set_option maxRecDepth 100000 in
theorem impl_gcd.f_eq (a0 : Int) (a1 : Int) : impl_gcd.f a0 a1 = impl_gcd.l0 a0 a1 := by kernel_rfl
set_option maxRecDepth 100000 in
theorem impl_gcd.l0_eq (x0 : Int) (x1 : Int) : impl_gcd.l0 x0 x1 = if x1 = 0 then (some x0) else (if x1 = 0 then none else (impl_gcd.l0 x1 ((x0 : Int).tmod x1))) := (loop_unfold _ _ _ _).trans (by kernel_rfl)
noncomputable def impl_gcd.con : Con := ⟨impl_gcd.fn.ins, impl_gcd.fn.outs, Int, fun x => impl_gcd.f x.1 x.2.1, fun r => ((r, ()), (()))⟩
theorem impl_gcd.valid : Valid Try.prog 168 impl_gcd.con := fn_valid (f := impl_gcd.fn) (E := impl_gcd.E) (enc := impl_gcd.enc) ⟨ttOk, conNil⟩ (Checked.mixed Try.checked) ⟨Try.func168, by kernel_rfl, by kernel_rfl, by kernel_rfl, by kernel_rfl, by decide, by kernel_rfl, by kernel_rfl⟩ (fun _ => rfl)
end Go.Proofs.Ytlkdhmijgpadaaa.P
set_option linter.unusedVariables false
namespace Go.Proofs.Ytlkdhmijgpadaaa.P
open Go Go.RowKit Go.Proofs.Ytlkdhmijgpadaaa.D
noncomputable def impl_isUnit.E : Env := { tt := TT, con := [(168, impl_gcd.con)], frz := [], rows := [], live := [], n := 18, pin := 0, nils := [] }
noncomputable def impl_isUnit.fn : D.Fn := { body := Try.f172.body.getD .skip, res := Try.f172.results.toList, ins := [.one (.v (.int .i64)), .one (.v (.int .i64))], outs := [.one (.v .bool)] }
def impl_isUnit.enc (y : lsd (flats impl_isUnit.fn.outs) × lsd (ios impl_isUnit.fn.ins)) : Bool := y.1.1
noncomputable def impl_isUnit.f (a0 : Int) (a1 : Int) : Option Bool := denF impl_isUnit.E impl_isUnit.fn impl_isUnit.enc (a0, a1, ())
set_option maxRecDepth 100000 in
theorem impl_isUnit.f_eq (a0 : Int) (a1 : Int) : impl_isUnit.f a0 a1 = if a1 ≥ 1 then (if a1 < a0 then ((impl_gcd.f a0 a1).bind fun t15 => some (decide (t15 = 1))) else (some false)) else (some false) := by kernel_rfl
noncomputable def impl_isUnit.con : Con := ⟨impl_isUnit.fn.ins, impl_isUnit.fn.outs, Bool, fun x => impl_isUnit.f x.1 x.2.1, fun r => ((r, ()), (()))⟩
theorem impl_isUnit.valid : Valid Try.prog 172 impl_isUnit.con := fn_valid (f := impl_isUnit.fn) (E := impl_isUnit.E) (enc := impl_isUnit.enc) ⟨ttOk, (conCons impl_gcd.valid conNil)⟩ (Checked.mixed Try.checked) ⟨Try.func172, by kernel_rfl, by kernel_rfl, by kernel_rfl, by kernel_rfl, by decide, by kernel_rfl, by kernel_rfl⟩ (fun _ => rfl)
end Go.Proofs.Ytlkdhmijgpadaaa.P
set_option linter.unusedVariables false
namespace Go.Proofs.Ytlkdhmijgpadaaa.P
open Go Go.RowKit Go.Proofs.Ytlkdhmijgpadaaa.D
noncomputable def impl_isModule.E : Env := { tt := TT, con := [(171, impl_isModulus.con), (52, impl_order.con), (172, impl_isUnit.con), (69, impl_Group_times.con)], frz := [], rows := [], live := [(4, [2, 3, 29, 30, 31]), (10, [2, 3, 42, 43]), (13, [2, 3, 7, 42, 43, 47, 48])], n := 77, pin := 0, nils := [] }
noncomputable def impl_isModule.fn : D.Fn := { body := Try.f158.body.getD .skip, res := Try.f158.results.toList, ins := [.agg [.v (.sl 25 (.sl 2 (.int .i64)))], .agg [.v (.int .i64), .v (.sl 2 (.int .i64))]], outs := [.one (.v .bool)] }
def impl_isModule.enc (y : lsd (flats impl_isModule.fn.outs) × lsd (ios impl_isModule.fn.ins)) : Bool := y.1.1
noncomputable def impl_isModule.f (l0_0 : List (List Int)) (a1_0 : Int) (l1_1 : List Int) : Option Bool := denF impl_isModule.E impl_isModule.fn impl_isModule.enc (l0_0, a1_0, l1_1, ())
noncomputable def impl_isModule.l0 (x29 : List Int) (x30 : Int) (x31 : Int) (b0_0 : List (List Int)) (b1_0 : Int) (b1_1 : List Int) : Option Bool := denAt impl_isModule.E impl_isModule.fn impl_isModule.enc [1, 1, 0, 1, 0] { fr := [(2, .lf (.box 0 0)), (3, .lf (.box 1 0)), (29, .lf (.sl (.int .i64) x29)), (30, .lf (.int .i64 x30)), (31, .lf (.int .i64 x31))], ob := [(0, .box 35 false [.sl (.sl 2 (.int .i64)) b0_0]), (1, .box 37 false [.int .i64 b1_0, .sl (.int .i64) b1_1])], nx := 2 }
noncomputable def impl_isModule.l1 (x42 : Int) (x43 : Int) (b0_0 : List (List Int)) (b1_0 : Int) (b1_1 : List Int) : Option Bool := denAt impl_isModule.E impl_isModule.fn impl_isModule.enc [1, 1, 1, 0, 1, 0] { fr := [(2, .lf (.box 0 0)), (3, .lf (.box 1 0)), (42, .lf (.int .i64 x42)), (43, .lf (.int .i64 x43))], ob := [(0, .box 35 false [.sl (.sl 2 (.int .i64)) b0_0]), (1, .box 37 false [.int .i64 b1_0, .sl (.int .i64) b1_1])], nx := 2 }
noncomputable def impl_isModule.l2 (x7 : Int) (x42 : Int) (x43 : Int) (x47 : Int) (x48 : Int) (b0_0 : List (List Int)) (b1_0 : Int) (b1_1 : List Int) : Option Bool := denAt impl_isModule.E impl_isModule.fn impl_isModule.enc [1, 1, 1, 0, 1, 0, 0, 1, 1, 0, 0, 1, 1, 0] { fr := [(2, .lf (.box 0 0)), (3, .lf (.box 1 0)), (7, .lf (.int .i64 x7)), (42, .lf (.int .i64 x42)), (43, .lf (.int .i64 x43)), (47, .lf (.int .i64 x47)), (48, .lf (.int .i64 x48))], ob := [(0, .box 35 false [.sl (.sl 2 (.int .i64)) b0_0]), (1, .box 37 false [.int .i64 b1_0, .sl (.int .i64) b1_1])], nx := 2 }
set_option maxRecDepth 100000 in
theorem impl_isModule.f_eq (l0_0 : List (List Int)) (a1_0 : Int) (l1_1 : List Int) : impl_isModule.f l0_0 a1_0 l1_1 = (impl_isModulus.f a1_0).bind fun t11 => if t11 = true then ((impl_order.f l0_0).bind fun t18 => if (l1_1.length : Int) = t18 then (if 0 < (l1_1.length : Int) then (if (rd l1_1 0) = 1 then (impl_isModule.l0 l1_1 (l1_1.length : Int) 0 l0_0 a1_0 l1_1) else (some false)) else none) else (some false)) else (some false) := by kernel_rfl
set_option maxRecDepth 100000 in
theorem impl_isModule.l0_eq (x29 : List Int) (x30 : Int) (x31 : Int) (b0_0 : List (List Int)) (b1_0 : Int) (b1_1 : List Int) : impl_isModule.l0 x29 x30 x31 b0_0 b1_0 b1_1 = if x31 < x30 then (if 0 ≤ x31 then (if x31 < (x29.length : Int) then ((impl_isUnit.f b1_0 (rd x29 x31)).bind fun t38 => if t38 = true then (impl_isModule.l0 x29 x30 (wrapI (x31 + 1)) b0_0 b1_0 b1_1) else (some false)) else none) else none) else ((impl_order.f b0_0).bind fun t42 => impl_isModule.l1 t42 0 b0_0 b1_0 b1_1) := (loop_unfold _ _ _ _).trans (by kernel_rfl)
set_option maxRecDepth 100000 in
theorem impl_isModule.l1_eq (x42 : Int) (x43 : Int) (b0_0 : List (List Int)) (b1_0 : Int) (b1_1 : List Int) : impl_isModule.l1 x42 x43 b0_0 b1_0 b1_1 = if x43 < x42 then ((impl_order.f b0_0).bind fun t47 => impl_isModule.l2 x43 x42 x43 t47 0 b0_0 b1_0 b1_1) else (some true) := (loop_unfold _ _ _ _).trans (by kernel_rfl)
set_option maxRecDepth 100000 in
theorem impl_isModule.l2_eq (x7 : Int) (x42 : Int) (x43 : Int) (x47 : Int) (x48 : Int) (b0_0 : List (List Int)) (b1_0 : Int) (b1_1 : List Int) : impl_isModule.l2 x7 x42 x43 x47 x48 b0_0 b1_0 b1_1 = if x48 < x47 then ((impl_Group_times.f b0_0 ([x7, x48] : List Int)).bind fun t57 => if 0 ≤ t57 then (if t57 < (b1_1.length : Int) then (if 0 ≤ x7 then (if x7 < (b1_1.length : Int) then (if 0 ≤ x48 then (if x48 < (b1_1.length : Int) then (if b1_0 = 0 then none else (if (rd b1_1 t57) = ((wrapI ((rd b1_1 x7) * (rd b1_1 x48)) : Int).tmod b1_0) then (impl_isModule.l2 x7 x42 x43 x47 (wrapI (x48 + 1)) b0_0 b1_0 b1_1) else (some false))) else none) else none) else none) else none) else none) else none) else (impl_isModule.l1 x42 (wrapI (x43 + 1)) b0_0 b1_0 b1_1) := (loop_unfold _ _ _ _).trans (by kernel_rfl)
noncomputable def impl_isModule.con : Con := ⟨impl_isModule.fn.ins, impl_isModule.fn.outs, Bool, fun x => impl_isModule.f x.1 x.2.1 x.2.2.1, fun r => ((r, ()), (()))⟩
theorem impl_isModule.valid : Valid Try.prog 158 impl_isModule.con := fn_valid (f := impl_isModule.fn) (E := impl_isModule.E) (enc := impl_isModule.enc) ⟨ttOk, (conCons impl_isModulus.valid (conCons impl_order.valid (conCons impl_isUnit.valid (conCons impl_Group_times.valid conNil))))⟩ (Checked.mixed Try.checked) ⟨Try.func158, by kernel_rfl, by kernel_rfl, by kernel_rfl, by kernel_rfl, by decide, by kernel_rfl, by kernel_rfl⟩ (fun _ => rfl)
end Go.Proofs.Ytlkdhmijgpadaaa.P
set_option linter.unusedVariables false
namespace Go.Proofs.Ytlkdhmijgpadaaa.P
open Go Go.RowKit Go.Proofs.Ytlkdhmijgpadaaa.D
noncomputable def impl_areModules.E : Env := { tt := TT, con := [(114, impl_IsGroup.con), (158, impl_isModule.con)], frz := [], rows := [], live := [(2, [2, 7, 8, 9])], n := 23, pin := 0, nils := [] }
noncomputable def impl_areModules.fn : D.Fn := { body := Try.f124.body.getD .skip, res := Try.f124.results.toList, ins := [.agg [.v (.sl 25 (.sl 2 (.int .i64)))], .one (.v (.sl 37 (.pr (.int .i64) (.sl 2 (.int .i64)))))], outs := [.one (.v .bool)] }
def impl_areModules.enc (y : lsd (flats impl_areModules.fn.outs) × lsd (ios impl_areModules.fn.ins)) : Bool := y.1.1
noncomputable def impl_areModules.f (l0_0 : List (List Int)) (l1 : List (Int × (List Int))) : Option Bool := denF impl_areModules.E impl_areModules.fn impl_areModules.enc (l0_0, l1, ())
noncomputable def impl_areModules.l0 (x7 : List (Int × (List Int))) (x8 : Int) (x9 : Int) (b0_0 : List (List Int)) : Option Bool := denAt impl_areModules.E impl_areModules.fn impl_areModules.enc [1, 0, 1, 0] { fr := [(2, .lf (.box 0 0)), (7, .lf (.sl (.pr (.int .i64) (.sl 2 (.int .i64))) x7)), (8, .lf (.int .i64 x8)), (9, .lf (.int .i64 x9))], ob := [(0, .box 35 false [.sl (.sl 2 (.int .i64)) b0_0])], nx := 1 }
set_option maxRecDepth 100000 in
theorem impl_areModules.f_eq (l0_0 : List (List Int)) (l1 : List (Int × (List Int))) : impl_areModules.f l0_0 l1 = impl_areModules.l0 l1 (l1.length : Int) 0 l0_0 := by kernel_rfl
set_option maxRecDepth 100000 in
theorem impl_areModules.l0_eq (x7 : List (Int × (List Int))) (x8 : Int) (x9 : Int) (b0_0 : List (List Int)) : impl_areModules.l0 x7 x8 x9 b0_0 = if x9 < x8 then (if 0 ≤ x9 then (if x9 < (x7.length : Int) then ((impl_IsGroup.f b0_0).bind fun t14 => if t14 = true then ((impl_isModule.f b0_0 ((Ty.rd (.pr (.int .i64) (.sl 2 (.int .i64))) x7 x9).1) ((Ty.rd (.pr (.int .i64) (.sl 2 (.int .i64))) x7 x9).2)).bind fun t19 => if t19 = true then (impl_areModules.l0 x7 x8 (wrapI (x9 + 1)) b0_0) else (some false)) else (some false)) else none) else none) else (some true) := (loop_unfold _ _ _ _).trans (by kernel_rfl)
noncomputable def impl_areModules.con : Con := ⟨impl_areModules.fn.ins, impl_areModules.fn.outs, Bool, fun x => impl_areModules.f x.1 x.2.1, fun r => ((r, ()), (()))⟩
theorem impl_areModules.valid : Valid Try.prog 124 impl_areModules.con := fn_valid (f := impl_areModules.fn) (E := impl_areModules.E) (enc := impl_areModules.enc) ⟨ttOk, (conCons impl_IsGroup.valid (conCons impl_isModule.valid conNil))⟩ (Checked.mixed Try.checked) ⟨Try.func124, by kernel_rfl, by kernel_rfl, by kernel_rfl, by kernel_rfl, by decide, by kernel_rfl, by kernel_rfl⟩ (fun _ => rfl)
end Go.Proofs.Ytlkdhmijgpadaaa.P
set_option linter.unusedVariables false
namespace Go.Proofs.Ytlkdhmijgpadaaa.P
open Go Go.RowKit Go.Proofs.Ytlkdhmijgpadaaa.D
noncomputable def impl_power.E : Env := { tt := TT, con := [], frz := [], rows := [], live := [(3, [0, 5, 6, 7])], n := 14, pin := 0, nils := [] }
noncomputable def impl_power.fn : D.Fn := { body := Try.f143.body.getD .skip, res := Try.f143.results.toList, ins := [.one (.v (.int .i64)), .one (.v (.int .i64))], outs := [.one (.v (.int .i64))] }
def impl_power.enc (y : lsd (flats impl_power.fn.outs) × lsd (ios impl_power.fn.ins)) : Int := y.1.1
noncomputable def impl_power.f (a0 : Int) (a1 : Int) : Option Int := denF impl_power.E impl_power.fn impl_power.enc (a0, a1, ())
noncomputable def impl_power.l0 (x0 : Int) (x5 : Int) (x6 : Int) (x7 : Int) : Option Int := denAt impl_power.E impl_power.fn impl_power.enc [1, 1, 0, 1, 0] { fr := [(0, .lf (.int .i64 x0)), (5, .lf (.int .i64 x5)), (6, .lf (.int .i64 x6)), (7, .lf (.int .i64 x7))], ob := [], nx := 0 }
set_option maxRecDepth 100000 in
theorem impl_power.f_eq (a0 : Int) (a1 : Int) : impl_power.f a0 a1 = impl_power.l0 a0 1 a1 0 := by kernel_rfl
set_option maxRecDepth 100000 in
theorem impl_power.l0_eq (x0 : Int) (x5 : Int) (x6 : Int) (x7 : Int) : impl_power.l0 x0 x5 x6 x7 = if x7 < x6 then (impl_power.l0 x0 (wrapI (x5 * x0)) x6 (wrapI (x7 + 1))) else (some x5) := (loop_unfold _ _ _ _).trans (by kernel_rfl)
noncomputable def impl_power.con : Con := ⟨impl_power.fn.ins, impl_power.fn.outs, Int, fun x => impl_power.f x.1 x.2.1, fun r => ((r, ()), (()))⟩
theorem impl_power.valid : Valid Try.prog 143 impl_power.con := fn_valid (f := impl_power.fn) (E := impl_power.E) (enc := impl_power.enc) ⟨ttOk, conNil⟩ (Checked.mixed Try.checked) ⟨Try.func143, by kernel_rfl, by kernel_rfl, by kernel_rfl, by kernel_rfl, by decide, by kernel_rfl, by kernel_rfl⟩ (fun _ => rfl)
end Go.Proofs.Ytlkdhmijgpadaaa.P
set_option linter.unusedVariables false
namespace Go.Proofs.Ytlkdhmijgpadaaa.P
open Go Go.RowKit Go.Proofs.Ytlkdhmijgpadaaa.D
noncomputable def impl_cells.E : Env := { tt := TT, con := [(52, impl_order.con), (143, impl_power.con)], frz := [], rows := [], live := [], n := 10, pin := 0, nils := [] }
noncomputable def impl_cells.fn : D.Fn := { body := Try.f102.body.getD .skip, res := Try.f102.results.toList, ins := [.agg [.v (.sl 25 (.sl 2 (.int .i64)))], .one (.v (.int .i64))], outs := [.one (.v (.int .i64))] }
def impl_cells.enc (y : lsd (flats impl_cells.fn.outs) × lsd (ios impl_cells.fn.ins)) : Int := y.1.1
noncomputable def impl_cells.f (l0_0 : List (List Int)) (a1 : Int) : Option Int := denF impl_cells.E impl_cells.fn impl_cells.enc (l0_0, a1, ())
set_option maxRecDepth 100000 in
theorem impl_cells.f_eq (l0_0 : List (List Int)) (a1 : Int) : impl_cells.f l0_0 a1 = (impl_order.f l0_0).bind fun t6 => (impl_power.f (wrapI (t6 - 1)) a1).bind fun t9 => some t9 := by kernel_rfl
noncomputable def impl_cells.con : Con := ⟨impl_cells.fn.ins, impl_cells.fn.outs, Int, fun x => impl_cells.f x.1 x.2.1, fun r => ((r, ()), (()))⟩
theorem impl_cells.valid : Valid Try.prog 102 impl_cells.con := fn_valid (f := impl_cells.fn) (E := impl_cells.E) (enc := impl_cells.enc) ⟨ttOk, (conCons impl_order.valid (conCons impl_power.valid conNil))⟩ (Checked.mixed Try.checked) ⟨Try.func102, by kernel_rfl, by kernel_rfl, by kernel_rfl, by kernel_rfl, by decide, by kernel_rfl, by kernel_rfl⟩ (fun _ => rfl)
end Go.Proofs.Ytlkdhmijgpadaaa.P
set_option linter.unusedVariables false
namespace Go.Proofs.Ytlkdhmijgpadaaa.P
open Go Go.RowKit Go.Proofs.Ytlkdhmijgpadaaa.D
noncomputable def impl_isDegree.E : Env := { tt := TT, con := [], frz := [], rows := [], live := [], n := 9, pin := 0, nils := [] }
noncomputable def impl_isDegree.fn : D.Fn := { body := Try.f142.body.getD .skip, res := Try.f142.results.toList, ins := [.one (.v (.int .i64))], outs := [.one (.v .bool)] }
def impl_isDegree.enc (y : lsd (flats impl_isDegree.fn.outs) × lsd (ios impl_isDegree.fn.ins)) : Bool := y.1.1
noncomputable def impl_isDegree.f (a0 : Int) : Option Bool := denF impl_isDegree.E impl_isDegree.fn impl_isDegree.enc (a0, ())
set_option maxRecDepth 100000 in
theorem impl_isDegree.f_eq (a0 : Int) : impl_isDegree.f a0 = if a0 ≥ 0 then (some (decide (a0 ≤ 3))) else (some false) := by kernel_rfl
noncomputable def impl_isDegree.con : Con := ⟨impl_isDegree.fn.ins, impl_isDegree.fn.outs, Bool, fun x => impl_isDegree.f x.1, fun r => ((r, ()), (()))⟩
theorem impl_isDegree.valid : Valid Try.prog 142 impl_isDegree.con := fn_valid (f := impl_isDegree.fn) (E := impl_isDegree.E) (enc := impl_isDegree.enc) ⟨ttOk, conNil⟩ (Checked.mixed Try.checked) ⟨Try.func142, by kernel_rfl, by kernel_rfl, by kernel_rfl, by kernel_rfl, by decide, by kernel_rfl, by kernel_rfl⟩ (fun _ => rfl)
end Go.Proofs.Ytlkdhmijgpadaaa.P
set_option linter.unusedVariables false
namespace Go.Proofs.Ytlkdhmijgpadaaa.P
open Go Go.RowKit Go.Proofs.Ytlkdhmijgpadaaa.D
noncomputable def impl_isCochain.E : Env := { tt := TT, con := [(142, impl_isDegree.con), (102, impl_cells.con), (153, impl_areIn.con)], frz := [], rows := [], live := [], n := 27, pin := 0, nils := [] }
noncomputable def impl_isCochain.fn : D.Fn := { body := Try.f136.body.getD .skip, res := Try.f136.results.toList, ins := [.agg [.v (.sl 25 (.sl 2 (.int .i64)))], .agg [.v (.int .i64), .v (.sl 2 (.int .i64))], .agg [.v (.int .i64), .v (.sl 2 (.int .i64))]], outs := [.one (.v .bool)] }
def impl_isCochain.enc (y : lsd (flats impl_isCochain.fn.outs) × lsd (ios impl_isCochain.fn.ins)) : Bool := y.1.1
noncomputable def impl_isCochain.f (l0_0 : List (List Int)) (a1_0 : Int) (l1_1 : List Int) (a2_0 : Int) (l2_1 : List Int) : Option Bool := denF impl_isCochain.E impl_isCochain.fn impl_isCochain.enc (l0_0, a1_0, l1_1, a2_0, l2_1, ())
set_option maxRecDepth 100000 in
theorem impl_isCochain.f_eq (l0_0 : List (List Int)) (a1_0 : Int) (l1_1 : List Int) (a2_0 : Int) (l2_1 : List Int) : impl_isCochain.f l0_0 a1_0 l1_1 a2_0 l2_1 = (impl_isDegree.f a2_0).bind fun t9 => if t9 = true then ((impl_cells.f l0_0 a2_0).bind fun t17 => if (l2_1.length : Int) = t17 then ((impl_areIn.f a1_0 l2_1).bind fun t25 => some (decide (t25 = true))) else (some false)) else (some false) := by kernel_rfl
noncomputable def impl_isCochain.con : Con := ⟨impl_isCochain.fn.ins, impl_isCochain.fn.outs, Bool, fun x => impl_isCochain.f x.1 x.2.1 x.2.2.1 x.2.2.2.1 x.2.2.2.2.1, fun r => ((r, ()), (()))⟩
theorem impl_isCochain.valid : Valid Try.prog 136 impl_isCochain.con := fn_valid (f := impl_isCochain.fn) (E := impl_isCochain.E) (enc := impl_isCochain.enc) ⟨ttOk, (conCons impl_isDegree.valid (conCons impl_cells.valid (conCons impl_areIn.valid conNil)))⟩ (Checked.mixed Try.checked) ⟨Try.func136, by kernel_rfl, by kernel_rfl, by kernel_rfl, by kernel_rfl, by decide, by kernel_rfl, by kernel_rfl⟩ (fun _ => rfl)
end Go.Proofs.Ytlkdhmijgpadaaa.P
set_option linter.unusedVariables false
namespace Go.Proofs.Ytlkdhmijgpadaaa.P
open Go Go.RowKit Go.Proofs.Ytlkdhmijgpadaaa.D
noncomputable def impl_cochainCode.E : Env := { tt := TT, con := [(124, impl_areModules.con), (136, impl_isCochain.con)], frz := [], rows := [11], live := [(4, [3, 4, 14, 15, 16])], n := 26, pin := 0, nils := [] }
noncomputable def impl_cochainCode.fn : D.Fn := { body := Try.f87.body.getD .skip, res := Try.f87.results.toList, ins := [.agg [.v (.sl 25 (.sl 2 (.int .i64)))], .agg [.v (.int .i64), .v (.sl 2 (.int .i64))], .one (.v (.sl 39 (.pr (.int .i64) (.sl 2 (.int .i64)))))], outs := [.one (.v (.int .i64))] }
def impl_cochainCode.enc (y : lsd (flats impl_cochainCode.fn.outs) × lsd (ios impl_cochainCode.fn.ins)) : Int := y.1.1
noncomputable def impl_cochainCode.f (l0_0 : List (List Int)) (a1_0 : Int) (l1_1 : List Int) (l2 : List (Int × (List Int))) : Option Int := denF impl_cochainCode.E impl_cochainCode.fn impl_cochainCode.enc (l0_0, a1_0, l1_1, l2, ())
noncomputable def impl_cochainCode.l0 (x14 : List (Int × (List Int))) (x15 : Int) (x16 : Int) (b0_0 : List (List Int)) (b1_0 : Int) (b1_1 : List Int) : Option Int := denAt impl_cochainCode.E impl_cochainCode.fn impl_cochainCode.enc [1, 1, 0, 1, 0] { fr := [(3, .lf (.box 0 0)), (4, .lf (.box 1 0)), (14, .lf (.sl (.pr (.int .i64) (.sl 2 (.int .i64))) x14)), (15, .lf (.int .i64 x15)), (16, .lf (.int .i64 x16))], ob := [(0, .box 35 false [.sl (.sl 2 (.int .i64)) b0_0]), (1, .box 37 false [.int .i64 b1_0, .sl (.int .i64) b1_1])], nx := 2 }
set_option maxRecDepth 100000 in
theorem impl_cochainCode.f_eq (l0_0 : List (List Int)) (a1_0 : Int) (l1_1 : List Int) (l2 : List (Int × (List Int))) : impl_cochainCode.f l0_0 a1_0 l1_1 l2 = (impl_areModules.f l0_0 ([(a1_0, l1_1)] : List (Int × (List Int)))).bind fun t12 => if t12 = true then (impl_cochainCode.l0 l2 (l2.length : Int) 0 l0_0 a1_0 l1_1) else (some 1) := by kernel_rfl
set_option maxRecDepth 100000 in
theorem impl_cochainCode.l0_eq (x14 : List (Int × (List Int))) (x15 : Int) (x16 : Int) (b0_0 : List (List Int)) (b1_0 : Int) (b1_1 : List Int) : impl_cochainCode.l0 x14 x15 x16 b0_0 b1_0 b1_1 = if x16 < x15 then (if 0 ≤ x16 then (if x16 < (x14.length : Int) then ((impl_isCochain.f b0_0 b1_0 b1_1 ((Ty.rd (.pr (.int .i64) (.sl 2 (.int .i64))) x14 x16).1) ((Ty.rd (.pr (.int .i64) (.sl 2 (.int .i64))) x14 x16).2)).bind fun t23 => if t23 = true then (impl_cochainCode.l0 x14 x15 (wrapI (x16 + 1)) b0_0 b1_0 b1_1) else (some 1)) else none) else none) else (some 0) := (loop_unfold _ _ _ _).trans (by kernel_rfl)
noncomputable def impl_cochainCode.con : Con := ⟨impl_cochainCode.fn.ins, impl_cochainCode.fn.outs, Int, fun x => impl_cochainCode.f x.1 x.2.1 x.2.2.1 x.2.2.2.1, fun r => ((r, ()), (()))⟩
theorem impl_cochainCode.valid : Valid Try.prog 87 impl_cochainCode.con := fn_valid (f := impl_cochainCode.fn) (E := impl_cochainCode.E) (enc := impl_cochainCode.enc) ⟨ttOk, (conCons impl_areModules.valid (conCons impl_isCochain.valid conNil))⟩ (Checked.mixed Try.checked) ⟨Try.func87, by kernel_rfl, by kernel_rfl, by kernel_rfl, by kernel_rfl, by decide, by kernel_rfl, by kernel_rfl⟩ (fun _ => rfl)
end Go.Proofs.Ytlkdhmijgpadaaa.P
set_option linter.unusedVariables false
namespace Go.Proofs.Ytlkdhmijgpadaaa.P
open Go Go.RowKit Go.Proofs.Ytlkdhmijgpadaaa.D
noncomputable def impl_zero.E : Env := { tt := TT, con := [(102, impl_cells.con)], frz := [], rows := [], live := [], n := 11, pin := 0, nils := [] }
noncomputable def impl_zero.fn : D.Fn := { body := Try.f103.body.getD .skip, res := Try.f103.results.toList, ins := [.agg [.v (.sl 25 (.sl 2 (.int .i64)))], .one (.v (.int .i64))], outs := [.agg [.v (.int .i64), .own 2 true (.int .i64)]] }
def impl_zero.enc (y : lsd (flats impl_zero.fn.outs) × lsd (ios impl_zero.fn.ins)) : Int × (List Int) := (y.1.1, y.1.2.1)
noncomputable def impl_zero.f (l0_0 : List (List Int)) (a1 : Int) : Option (Int × (List Int)) := denF impl_zero.E impl_zero.fn impl_zero.enc (l0_0, a1, ())
set_option maxRecDepth 100000 in
theorem impl_zero.f_eq (l0_0 : List (List Int)) (a1 : Int) : impl_zero.f l0_0 a1 = (impl_cells.f l0_0 a1).bind fun t8 => if t8 = t8 then (if 0 ≤ t8 then (if (t8 : Int).toNat ≤ 17592186044416 then (some (a1, List.replicate (t8 : Int).toNat (0 : Int))) else none) else none) else none := by kernel_rfl
noncomputable def impl_zero.con : Con := ⟨impl_zero.fn.ins, impl_zero.fn.outs, Int × (List Int), fun x => impl_zero.f x.1 x.2.1, fun r => ((r.1, r.2, ()), (()))⟩
theorem impl_zero.valid : Valid Try.prog 103 impl_zero.con := fn_valid (f := impl_zero.fn) (E := impl_zero.E) (enc := impl_zero.enc) ⟨ttOk, (conCons impl_cells.valid conNil)⟩ (Checked.mixed Try.checked) ⟨Try.func103, by kernel_rfl, by kernel_rfl, by kernel_rfl, by kernel_rfl, by decide, by kernel_rfl, by kernel_rfl⟩ (fun _ => rfl)
end Go.Proofs.Ytlkdhmijgpadaaa.P
set_option linter.unusedVariables false
namespace Go.Proofs.Ytlkdhmijgpadaaa.P
open Go Go.RowKit Go.Proofs.Ytlkdhmijgpadaaa.D
noncomputable def impl_listOf.E : Env := { tt := TT, con := [(52, impl_order.con)], frz := [], rows := [], live := [(3, [2, 7, 8, 9])], n := 32, pin := 0, nils := [] }
noncomputable def impl_listOf.fn : D.Fn := { body := Try.f119.body.getD .skip, res := Try.f119.results.toList, ins := [.agg [.v (.sl 25 (.sl 2 (.int .i64)))], .one (.v (.int .i64)), .one (.v (.int .i64))], outs := [.one (.own 2 true (.int .i64))] }
def impl_listOf.enc (y : lsd (flats impl_listOf.fn.outs) × lsd (ios impl_listOf.fn.ins)) : (List Int) := y.1.1
noncomputable def impl_listOf.f (l0_0 : List (List Int)) (a1 : Int) (a2 : Int) : Option (List Int) := denF impl_listOf.E impl_listOf.fn impl_listOf.enc (l0_0, a1, a2, ())
noncomputable def impl_listOf.l0 (x2 : Int) (x8 : Int) (x9 : Int) (r0 : List Int) : Option (List Int) := denAt impl_listOf.E impl_listOf.fn impl_listOf.enc [1, 1, 0, 1, 0] { fr := [(2, .lf (.int .i64 x2)), (7, .lf (.own 0)), (8, .lf (.int .i64 x8)), (9, .lf (.int .i64 x9))], ob := [(0, .row 2 true (.int .i64) r0)], nx := 1 }
set_option maxRecDepth 100000 in
theorem impl_listOf.f_eq (l0_0 : List (List Int)) (a1 : Int) (a2 : Int) : impl_listOf.f l0_0 a1 a2 = if a1 = a1 then (if 0 ≤ a1 then (if (a1 : Int).toNat ≤ 17592186044416 then ((impl_order.f l0_0).bind fun t13 => impl_listOf.l0 a2 (wrapI (t13 - 1)) (wrapI (a1 - 1)) (List.replicate (a1 : Int).toNat (0 : Int))) else none) else none) else none := by kernel_rfl
set_option maxRecDepth 100000 in
theorem impl_listOf.l0_eq (x2 : Int) (x8 : Int) (x9 : Int) (r0 : List Int) : impl_listOf.l0 x2 x8 x9 r0 = if x9 ≥ 0 then (if x8 = 0 then none else (if 0 ≤ x9 then (if x9 < (r0.length : Int) then (if 0 ≤ x9 then (if x9 < (r0.length : Int) then (if x8 = 0 then none else (impl_listOf.l0 (wrapI ((x2 : Int).tdiv x8)) x8 (wrapI (x9 - 1)) (r0.set (x9 : Int).toNat (wrapI (1 + ((x2 : Int).tmod x8)))))) else none) else none) else none) else none)) else (some r0) := (loop_unfold _ _ _ _).trans (by kernel_rfl)
noncomputable def impl_listOf.con : Con := ⟨impl_listOf.fn.ins, impl_listOf.fn.outs, (List Int), fun x => impl_listOf.f x.1 x.2.1 x.2.2.1, fun r => ((r, ()), (()))⟩
theorem impl_listOf.valid : Valid Try.prog 119 impl_listOf.con := fn_valid (f := impl_listOf.fn) (E := impl_listOf.E) (enc := impl_listOf.enc) ⟨ttOk, (conCons impl_order.valid conNil)⟩ (Checked.mixed Try.checked) ⟨Try.func119, by kernel_rfl, by kernel_rfl, by kernel_rfl, by kernel_rfl, by decide, by kernel_rfl, by kernel_rfl⟩ (fun _ => rfl)
end Go.Proofs.Ytlkdhmijgpadaaa.P
set_option linter.unusedVariables false
namespace Go.Proofs.Ytlkdhmijgpadaaa.P
open Go Go.RowKit Go.Proofs.Ytlkdhmijgpadaaa.D
noncomputable def impl_told.E : Env := { tt := TT, con := [(103, impl_zero.con), (119, impl_listOf.con)], frz := [], rows := [], live := [(3, [1, 2, 3, 4, 8, 9, 16, 17])], n := 38, pin := 0, nils := [] }
noncomputable def impl_told.fn : D.Fn := { body := Try.f67.body.getD .skip, res := Try.f67.results.toList, ins := [.agg [.v (.sl 25 (.sl 2 (.int .i64)))], .one (.v (.int .i64)), .one (.v (.int .i64)), .one (.fn [(.sl 2 (.int .i64))] (.int .i64))], outs := [.agg [.v (.int .i64), .own 2 true (.int .i64)]] }
def impl_told.enc (y : lsd (flats impl_told.fn.outs) × lsd (ios impl_told.fn.ins)) : Int × (List Int) := (y.1.1, y.1.2.1)
noncomputable def impl_told.f (l0_0 : List (List Int)) (a1 : Int) (a2 : Int) (f3 : (List Int) → Option Int) : Option (Int × (List Int)) := denF impl_told.E impl_told.fn impl_told.enc (l0_0, a1, a2, fun x => f3 x.1, ())
noncomputable def impl_told.l0 (x1 : Int) (x2 : Int) (fx3 : (List Int) → Option Int) (x16 : Int) (x17 : Int) (b0_0 : List (List Int)) (b1_0 : Int) (b2_0 : Int) (r3 : List Int) : Option (Int × (List Int)) := denAt impl_told.E impl_told.fn impl_told.enc [1, 1, 0, 1, 0] { fr := [(1, .lf (.int .i64 x1)), (2, .lf (.int .i64 x2)), (3, .lf (.fn [(.sl 2 (.int .i64))] (.int .i64) (fun x => fx3 x.1))), (4, .lf (.box 0 0)), (8, .lf (.box 1 0)), (9, .lf (.box 2 0)), (16, .lf (.int .i64 x16)), (17, .lf (.int .i64 x17))], ob := [(0, .box 35 false [.sl (.sl 2 (.int .i64)) b0_0]), (1, .box 39 false [.int .i64 b1_0, .nil]), (2, .box 39 false [.int .i64 b2_0, .own 3]), (3, .row 2 true (.int .i64) r3)], nx := 4 }
set_option maxRecDepth 100000 in
theorem impl_told.f_eq (l0_0 : List (List Int)) (a1 : Int) (a2 : Int) (f3 : (List Int) → Option Int) : impl_told.f l0_0 a1 a2 f3 = (impl_zero.f l0_0 a2).bind fun t13 => impl_told.l0 a1 a2 f3 (t13.2.length : Int) 0 l0_0 0 t13.1 t13.2 := by kernel_rfl
set_option maxRecDepth 100000 in
theorem impl_told.l0_eq (x1 : Int) (x2 : Int) (fx3 : (List Int) → Option Int) (x16 : Int) (x17 : Int) (b0_0 : List (List Int)) (b1_0 : Int) (b2_0 : Int) (r3 : List Int) : impl_told.l0 x1 x2 fx3 x16 x17 b0_0 b1_0 b2_0 r3 = if x17 < x16 then ((impl_listOf.f b0_0 x2 x17).bind fun t27 => (fx3 t27).bind fun t28 => if x1 = 0 then none else (if x1 = 0 then none else (if 0 ≤ x17 then (if x17 < (r3.length : Int) then (if 0 ≤ x17 then (if x17 < (r3.length : Int) then (impl_told.l0 x1 x2 fx3 x16 (wrapI (x17 + 1)) b0_0 b1_0 b2_0 (r3.set (x17 : Int).toNat ((wrapI (((t28 : Int).tmod x1) + x1) : Int).tmod x1))) else none) else none) else none) else none))) else (some (b2_0, r3)) := (loop_unfold _ _ _ _).trans (by kernel_rfl)
noncomputable def impl_told.con : Con := ⟨impl_told.fn.ins, impl_told.fn.outs, Int × (List Int), fun x => impl_told.f x.1 x.2.1 x.2.2.1 (fun z0 => x.2.2.2.1 (z0, ())), fun r => ((r.1, r.2, ()), (()))⟩
theorem impl_told.valid : Valid Try.prog 67 impl_told.con := fn_valid (f := impl_told.fn) (E := impl_told.E) (enc := impl_told.enc) ⟨ttOk, (conCons impl_zero.valid (conCons impl_listOf.valid conNil))⟩ (Checked.mixed Try.checked) ⟨Try.func67, by kernel_rfl, by kernel_rfl, by kernel_rfl, by kernel_rfl, by decide, by kernel_rfl, by kernel_rfl⟩ (fun _ => rfl)
end Go.Proofs.Ytlkdhmijgpadaaa.P
set_option linter.unusedVariables false
namespace Go.Proofs.Ytlkdhmijgpadaaa.P
open Go Go.RowKit Go.Proofs.Ytlkdhmijgpadaaa.D
noncomputable def impl_cell.E : Env := { tt := TT, con := [(52, impl_order.con)], frz := [], rows := [], live := [(3, [2, 5, 8, 9, 10])], n := 26, pin := 0, nils := [] }
noncomputable def impl_cell.fn : D.Fn := { body := Try.f137.body.getD .skip, res := Try.f137.results.toList, ins := [.agg [.v (.sl 25 (.sl 2 (.int .i64)))], .one (.v (.sl 2 (.int .i64)))], outs := [.one (.v (.int .i64))] }
def impl_cell.enc (y : lsd (flats impl_cell.fn.outs) × lsd (ios impl_cell.fn.ins)) : Int := y.1.1
noncomputable def impl_cell.f (l0_0 : List (List Int)) (l1 : List Int) : Option Int := denF impl_cell.E impl_cell.fn impl_cell.enc (l0_0, l1, ())
noncomputable def impl_cell.l0 (x5 : Int) (x8 : List Int) (x9 : Int) (x10 : Int) (b0_0 : List (List Int)) : Option Int := denAt impl_cell.E impl_cell.fn impl_cell.enc [1, 1, 0, 1, 0] { fr := [(2, .lf (.box 0 0)), (5, .lf (.int .i64 x5)), (8, .lf (.sl (.int .i64) x8)), (9, .lf (.int .i64 x9)), (10, .lf (.int .i64 x10))], ob := [(0, .box 35 false [.sl (.sl 2 (.int .i64)) b0_0])], nx := 1 }
set_option maxRecDepth 100000 in
theorem impl_cell.f_eq (l0_0 : List (List Int)) (l1 : List Int) : impl_cell.f l0_0 l1 = impl_cell.l0 0 l1 (l1.length : Int) 0 l0_0 := by kernel_rfl
set_option maxRecDepth 100000 in
theorem impl_cell.l0_eq (x5 : Int) (x8 : List Int) (x9 : Int) (x10 : Int) (b0_0 : List (List Int)) : impl_cell.l0 x5 x8 x9 x10 b0_0 = if x10 < x9 then (if 0 ≤ x10 then (if x10 < (x8.length : Int) then (if (rd x8 x10) = 0 then (some (-1)) else ((impl_order.f b0_0).bind fun t18 => impl_cell.l0 (wrapI ((wrapI ((wrapI (x5 * (wrapI (t18 - 1)))) + (rd x8 x10))) - 1)) x8 x9 (wrapI (x10 + 1)) b0_0)) else none) else none) else (some x5) := (loop_unfold _ _ _ _).trans (by kernel_rfl)
noncomputable def impl_cell.con : Con := ⟨impl_cell.fn.ins, impl_cell.fn.outs, Int, fun x => impl_cell.f x.1 x.2.1, fun r => ((r, ()), (()))⟩
theorem impl_cell.valid : Valid Try.prog 137 impl_cell.con := fn_valid (f := impl_cell.fn) (E := impl_cell.E) (enc := impl_cell.enc) ⟨ttOk, (conCons impl_order.valid conNil)⟩ (Checked.mixed Try.checked) ⟨Try.func137, by kernel_rfl, by kernel_rfl, by kernel_rfl, by kernel_rfl, by decide, by kernel_rfl, by kernel_rfl⟩ (fun _ => rfl)
end Go.Proofs.Ytlkdhmijgpadaaa.P
set_option linter.unusedVariables false
namespace Go.Proofs.Ytlkdhmijgpadaaa.P
open Go Go.RowKit Go.Proofs.Ytlkdhmijgpadaaa.D
noncomputable def impl_Cochain_at.E : Env := { tt := TT, con := [(137, impl_cell.con)], frz := [], rows := [], live := [], n := 18, pin := 0, nils := [] }
noncomputable def impl_Cochain_at.fn : D.Fn := { body := Try.f91.body.getD .skip, res := Try.f91.results.toList, ins := [.agg [.v (.int .i64), .v (.sl 2 (.int .i64))], .agg [.v (.sl 25 (.sl 2 (.int .i64)))], .one (.v (.sl 2 (.int .i64)))], outs := [.one (.v (.int .i64))] }
def impl_Cochain_at.enc (y : lsd (flats impl_Cochain_at.fn.outs) × lsd (ios impl_Cochain_at.fn.ins)) : Int := y.1.1
noncomputable def impl_Cochain_at.f (a0_0 : Int) (l0_1 : List Int) (l1_0 : List (List Int)) (l2 : List Int) : Option Int := denF impl_Cochain_at.E impl_Cochain_at.fn impl_Cochain_at.enc (a0_0, l0_1, l1_0, l2, ())
set_option maxRecDepth 100000 in
theorem impl_Cochain_at.f_eq (a0_0 : Int) (l0_1 : List Int) (l1_0 : List (List Int)) (l2 : List Int) : impl_Cochain_at.f a0_0 l0_1 l1_0 l2 = (impl_cell.f l1_0 l2).bind fun t10 => if t10 ≥ 0 then (if 0 ≤ t10 then (if t10 < (l0_1.length : Int) then (some (rd l0_1 t10)) else none) else none) else (some 0) := by kernel_rfl
noncomputable def impl_Cochain_at.con : Con := ⟨impl_Cochain_at.fn.ins, impl_Cochain_at.fn.outs, Int, fun x => impl_Cochain_at.f x.1 x.2.1 x.2.2.1 x.2.2.2.1, fun r => ((r, ()), (()))⟩
theorem impl_Cochain_at.valid : Valid Try.prog 91 impl_Cochain_at.con := fn_valid (f := impl_Cochain_at.fn) (E := impl_Cochain_at.E) (enc := impl_Cochain_at.enc) ⟨ttOk, (conCons impl_cell.valid conNil)⟩ (Checked.mixed Try.checked) ⟨Try.func91, by kernel_rfl, by kernel_rfl, by kernel_rfl, by kernel_rfl, by decide, by kernel_rfl, by kernel_rfl⟩ (fun _ => rfl)
end Go.Proofs.Ytlkdhmijgpadaaa.P
set_option linter.unusedVariables false
namespace Go.Proofs.Ytlkdhmijgpadaaa.P
open Go Go.RowKit Go.Proofs.Ytlkdhmijgpadaaa.D
noncomputable def impl_boundaryAt.E : Env := { tt := TT, con := [(91, impl_Cochain_at.con), (69, impl_Group_times.con)], frz := [], rows := [], live := [(5, [3, 4, 6, 9, 10, 11, 30, 31])], n := 79, pin := 0, nils := [] }
noncomputable def impl_boundaryAt.fn : D.Fn := { body := Try.f149.body.getD .skip, res := Try.f149.results.toList, ins := [.agg [.v (.sl 25 (.sl 2 (.int .i64)))], .agg [.v (.int .i64), .v (.sl 2 (.int .i64))], .agg [.v (.int .i64), .v (.sl 2 (.int .i64))], .one (.v (.sl 2 (.int .i64)))], outs := [.one (.v (.int .i64))] }
def impl_boundaryAt.enc (y : lsd (flats impl_boundaryAt.fn.outs) × lsd (ios impl_boundaryAt.fn.ins)) : Int := y.1.1
noncomputable def impl_boundaryAt.f (l0_0 : List (List Int)) (a1_0 : Int) (l1_1 : List Int) (a2_0 : Int) (l2_1 : List Int) (l3 : List Int) : Option Int := denF impl_boundaryAt.E impl_boundaryAt.fn impl_boundaryAt.enc (l0_0, a1_0, l1_1, a2_0, l2_1, l3, ())
noncomputable def impl_boundaryAt.l0 (x3 : List Int) (x9 : Int) (x10 : Int) (x11 : Int) (x30 : Int) (x31 : Int) (b0_0 : List (List Int)) (b1_0 : Int) (b1_1 : List Int) : Option Int := denAt impl_boundaryAt.E impl_boundaryAt.fn impl_boundaryAt.enc [1, 1, 1, 1, 0, 1, 0] { fr := [(3, .lf (.sl (.int .i64) x3)), (4, .lf (.box 0 0)), (6, .lf (.box 1 0)), (9, .lf (.int .i64 x9)), (10, .lf (.int .i64 x10)), (11, .lf (.int .i64 x11)), (30, .lf (.int .i64 x30)), (31, .lf (.int .i64 x31))], ob := [(0, .box 35 false [.sl (.sl 2 (.int .i64)) b0_0]), (1, .box 39 false [.int .i64 b1_0, .sl (.int .i64) b1_1])], nx := 2 }
set_option maxRecDepth 100000 in
theorem impl_boundaryAt.f_eq (l0_0 : List (List Int)) (a1_0 : Int) (l1_1 : List Int) (a2_0 : Int) (l2_1 : List Int) (l3 : List Int) : impl_boundaryAt.f l0_0 a1_0 l1_1 a2_0 l2_1 l3 = if 0 < (l3.length : Int) then (if 0 ≤ rd l3 0 then (if rd l3 0 < (l1_1.length : Int) then (if 1 ≤ (l3.length : Int) then ((impl_Cochain_at.f a2_0 l2_1 l0_0 (l3.drop (1 : Int).toNat)).bind fun t28 => impl_boundaryAt.l0 l3 (wrapI ((l3.length : Int) - 1)) (wrapI ((rd l1_1 (rd l3 0)) * t28)) (-1) (wrapI ((l3.length : Int) - 1)) 0 l0_0 a2_0 l2_1) else none) else none) else none) else none := by kernel_rfl
set_option maxRecDepth 100000 in
theorem impl_boundaryAt.l0_eq (x3 : List Int) (x9 : Int) (x10 : Int) (x11 : Int) (x30 : Int) (x31 : Int) (b0_0 : List (List Int)) (b1_0 : Int) (b1_1 : List Int) : impl_boundaryAt.l0 x3 x9 x10 x11 x30 x31 b0_0 b1_0 b1_1 = if x31 < x30 then (if 0 ≤ x31 then (if x31 ≤ (x3.length : Int) then (if ([] : List Int).length + (x3.take (x31 : Int).toNat).length ≤ 17592186044416 then (if 0 ≤ x31 then (if x31 < (x3.length : Int) then (if 0 ≤ wrapI (x31 + 1) then (if wrapI (x31 + 1) < (x3.length : Int) then ((impl_Group_times.f b0_0 ([rd x3 x31, rd x3 (wrapI (x31 + 1))] : List Int)).bind fun t50 => if (([] : List Int) ++ (x3.take (x31 : Int).toNat)).length + ([t50] : List Int).length ≤ 17592186044416 then (if 0 ≤ wrapI (x31 + 2) then (if wrapI (x31 + 2) ≤ (x3.length : Int) then (if ((([] : List Int) ++ (x3.take (x31 : Int).toNat)) ++ ([t50] : List Int)).length + (x3.drop (wrapI (x31 + 2) : Int).toNat).length ≤ 17592186044416 then ((impl_Cochain_at.f b1_0 b1_1 b0_0 (((([] : List Int) ++ (x3.take (x31 : Int).toNat)) ++ ([t50] : List Int)) ++ (x3.drop (wrapI (x31 + 2) : Int).toNat))).bind fun t63 => impl_boundaryAt.l0 x3 x9 (wrapI (x10 + (wrapI (x11 * t63)))) (wrapI (0 - x11)) x30 (wrapI (x31 + 1)) b0_0 b1_0 b1_1) else none) else none) else none) else none) else none) else none) else none) else none) else none) else none) else none) else (if 0 ≤ x9 then (if x9 ≤ (x3.length : Int) then ((impl_Cochain_at.f b1_0 b1_1 b0_0 (x3.take (x9 : Int).toNat)).bind fun t76 => some (wrapI (x10 + (wrapI (x11 * t76))))) else none) else none) := (loop_unfold _ _ _ _).trans (by kernel_rfl)
noncomputable def impl_boundaryAt.con : Con := ⟨impl_boundaryAt.fn.ins, impl_boundaryAt.fn.outs, Int, fun x => impl_boundaryAt.f x.1 x.2.1 x.2.2.1 x.2.2.2.1 x.2.2.2.2.1 x.2.2.2.2.2.1, fun r => ((r, ()), (()))⟩
theorem impl_boundaryAt.valid : Valid Try.prog 149 impl_boundaryAt.con := fn_valid (f := impl_boundaryAt.fn) (E := impl_boundaryAt.E) (enc := impl_boundaryAt.enc) ⟨ttOk, (conCons impl_Cochain_at.valid (conCons impl_Group_times.valid conNil))⟩ (Checked.mixed Try.checked) ⟨Try.func149, by kernel_rfl, by kernel_rfl, by kernel_rfl, by kernel_rfl, by decide, by kernel_rfl, by kernel_rfl⟩ (fun _ => rfl)
end Go.Proofs.Ytlkdhmijgpadaaa.P
set_option linter.unusedVariables false
namespace Go.Proofs.Ytlkdhmijgpadaaa.P
open Go Go.RowKit Go.Proofs.Ytlkdhmijgpadaaa.D
noncomputable def impl_boundary_1.E : Env := { tt := TT, con := [(149, impl_boundaryAt.con)], frz := [], rows := [], live := [], n := 11, pin := 0, nils := [] }
noncomputable def impl_boundary_1.fn : D.Fn := { body := Try.f148.body.getD .skip, res := Try.f148.results.toList, ins := [.one (.v (.sl 2 (.int .i64))), .ptr true 35 [.v (.sl 25 (.sl 2 (.int .i64)))], .ptr true 37 [.v (.int .i64), .v (.sl 2 (.int .i64))], .ptr true 39 [.v (.int .i64), .v (.sl 2 (.int .i64))]], outs := [.one (.v (.int .i64))] }
def impl_boundary_1.enc (y : lsd (flats impl_boundary_1.fn.outs) × lsd (ios impl_boundary_1.fn.ins)) : Int := y.1.1
noncomputable def impl_boundary_1.f (l0 : List Int) (l1 : List (List Int)) (a2_0 : Int) (l2_1 : List Int) (a3_0 : Int) (l3_1 : List Int) : Option Int := denF impl_boundary_1.E impl_boundary_1.fn impl_boundary_1.enc (l0, l1, a2_0, l2_1, a3_0, l3_1, ())
set_option maxRecDepth 100000 in
theorem impl_boundary_1.f_eq (l0 : List Int) (l1 : List (List Int)) (a2_0 : Int) (l2_1 : List Int) (a3_0 : Int) (l3_1 : List Int) : impl_boundary_1.f l0 l1 a2_0 l2_1 a3_0 l3_1 = (impl_boundaryAt.f l1 a2_0 l2_1 a3_0 l3_1 l0).bind fun t10 => some t10 := by kernel_rfl
noncomputable def impl_boundary_1.con : Con := ⟨impl_boundary_1.fn.ins, impl_boundary_1.fn.outs, Int, fun x => impl_boundary_1.f x.1 x.2.1 x.2.2.1 x.2.2.2.1 x.2.2.2.2.1 x.2.2.2.2.2.1, fun r => ((r, ()), (()))⟩
theorem impl_boundary_1.valid : Valid Try.prog 148 impl_boundary_1.con := fn_valid (f := impl_boundary_1.fn) (E := impl_boundary_1.E) (enc := impl_boundary_1.enc) ⟨ttOk, (conCons impl_boundaryAt.valid conNil)⟩ (Checked.mixed Try.checked) ⟨Try.func148, by kernel_rfl, by kernel_rfl, by kernel_rfl, by kernel_rfl, by decide, by kernel_rfl, by kernel_rfl⟩ (fun _ => rfl)
end Go.Proofs.Ytlkdhmijgpadaaa.P
set_option linter.unusedVariables false
namespace Go.Proofs.Ytlkdhmijgpadaaa.P
open Go Go.RowKit Go.Proofs.Ytlkdhmijgpadaaa.D
noncomputable def impl_boundary.E : Env := { tt := TT, con := [(67, impl_told.con), (148, impl_boundary_1.con)], frz := [], rows := [], live := [], n := 15, pin := 0, nils := [] }
noncomputable def impl_boundary.fn : D.Fn := { body := Try.f105.body.getD .skip, res := Try.f105.results.toList, ins := [.agg [.v (.sl 25 (.sl 2 (.int .i64)))], .agg [.v (.int .i64), .v (.sl 2 (.int .i64))], .agg [.v (.int .i64), .v (.sl 2 (.int .i64))]], outs := [.agg [.v (.int .i64), .own 2 true (.int .i64)]] }
def impl_boundary.enc (y : lsd (flats impl_boundary.fn.outs) × lsd (ios impl_boundary.fn.ins)) : Int × (List Int) := (y.1.1, y.1.2.1)
noncomputable def impl_boundary.f (l0_0 : List (List Int)) (a1_0 : Int) (l1_1 : List Int) (a2_0 : Int) (l2_1 : List Int) : Option (Int × (List Int)) := denF impl_boundary.E impl_boundary.fn impl_boundary.enc (l0_0, a1_0, l1_1, a2_0, l2_1, ())
set_option maxRecDepth 100000 in
theorem impl_boundary.f_eq (l0_0 : List (List Int)) (a1_0 : Int) (l1_1 : List Int) (a2_0 : Int) (l2_1 : List Int) : impl_boundary.f l0_0 a1_0 l1_1 a2_0 l2_1 = (impl_told.f l0_0 a1_0 (wrapI (a2_0 + 1)) (fun z0 => (impl_boundary_1.f z0 l0_0 a1_0 l1_1 a2_0 l2_1).map fun z => z)).bind fun t14 => some (t14.1, t14.2) := by kernel_rfl
noncomputable def impl_boundary.con : Con := ⟨impl_boundary.fn.ins, impl_boundary.fn.outs, Int × (List Int), fun x => impl_boundary.f x.1 x.2.1 x.2.2.1 x.2.2.2.1 x.2.2.2.2.1, fun r => ((r.1, r.2, ()), (()))⟩
theorem impl_boundary.valid : Valid Try.prog 105 impl_boundary.con := fn_valid (f := impl_boundary.fn) (E := impl_boundary.E) (enc := impl_boundary.enc) ⟨ttOk, (conCons impl_told.valid (conCons impl_boundary_1.valid conNil))⟩ (Checked.mixed Try.checked) ⟨Try.func105, by kernel_rfl, by kernel_rfl, by kernel_rfl, by kernel_rfl, by decide, by kernel_rfl, by kernel_rfl⟩ (fun _ => rfl)
end Go.Proofs.Ytlkdhmijgpadaaa.P
set_option linter.unusedVariables false
namespace Go.Proofs.Ytlkdhmijgpadaaa.P
open Go Go.RowKit Go.Proofs.Ytlkdhmijgpadaaa.D
noncomputable def impl_isCocycle.E : Env := { tt := TT, con := [(105, impl_boundary.con)], frz := [], rows := [], live := [(2, [13, 14, 15])], n := 22, pin := 0, nils := [] }
noncomputable def impl_isCocycle.fn : D.Fn := { body := Try.f88.body.getD .skip, res := Try.f88.results.toList, ins := [.agg [.v (.sl 25 (.sl 2 (.int .i64)))], .agg [.v (.int .i64), .v (.sl 2 (.int .i64))], .agg [.v (.int .i64), .v (.sl 2 (.int .i64))]], outs := [.one (.v .bool)] }
def impl_isCocycle.enc (y : lsd (flats impl_isCocycle.fn.outs) × lsd (ios impl_isCocycle.fn.ins)) : Bool := y.1.1
noncomputable def impl_isCocycle.f (l0_0 : List (List Int)) (a1_0 : Int) (l1_1 : List Int) (a2_0 : Int) (l2_1 : List Int) : Option Bool := denF impl_isCocycle.E impl_isCocycle.fn impl_isCocycle.enc (l0_0, a1_0, l1_1, a2_0, l2_1, ())
noncomputable def impl_isCocycle.l0 (x14 : Int) (x15 : Int) (r0 : List Int) : Option Bool := denAt impl_isCocycle.E impl_isCocycle.fn impl_isCocycle.enc [1, 0, 1, 0] { fr := [(13, .lf (.own 0)), (14, .lf (.int .i64 x14)), (15, .lf (.int .i64 x15))], ob := [(0, .row 2 true (.int .i64) r0)], nx := 1 }
set_option maxRecDepth 100000 in
theorem impl_isCocycle.f_eq (l0_0 : List (List Int)) (a1_0 : Int) (l1_1 : List Int) (a2_0 : Int) (l2_1 : List Int) : impl_isCocycle.f l0_0 a1_0 l1_1 a2_0 l2_1 = (impl_boundary.f l0_0 a1_0 l1_1 a2_0 l2_1).bind fun t12 => impl_isCocycle.l0 (t12.2.length : Int) 0 t12.2 := by kernel_rfl
set_option maxRecDepth 100000 in
theorem impl_isCocycle.l0_eq (x14 : Int) (x15 : Int) (r0 : List Int) : impl_isCocycle.l0 x14 x15 r0 = if x15 < x14 then (if 0 ≤ x15 then (if x15 < (r0.length : Int) then (if 0 ≤ x15 then (if x15 < (r0.length : Int) then (if (rd r0 x15) = 0 then (impl_isCocycle.l0 x14 (wrapI (x15 + 1)) r0) else (some false)) else none) else none) else none) else none) else (some true) := (loop_unfold _ _ _ _).trans (by kernel_rfl)
noncomputable def impl_isCocycle.con : Con := ⟨impl_isCocycle.fn.ins, impl_isCocycle.fn.outs, Bool, fun x => impl_isCocycle.f x.1 x.2.1 x.2.2.1 x.2.2.2.1 x.2.2.2.2.1, fun r => ((r, ()), (()))⟩
theorem impl_isCocycle.valid : Valid Try.prog 88 impl_isCocycle.con := fn_valid (f := impl_isCocycle.fn) (E := impl_isCocycle.E) (enc := impl_isCocycle.enc) ⟨ttOk, (conCons impl_boundary.valid conNil)⟩ (Checked.mixed Try.checked) ⟨Try.func88, by kernel_rfl, by kernel_rfl, by kernel_rfl, by kernel_rfl, by decide, by kernel_rfl, by kernel_rfl⟩ (fun _ => rfl)
end Go.Proofs.Ytlkdhmijgpadaaa.P
set_option linter.unusedVariables false
namespace Go.Proofs.Ytlkdhmijgpadaaa.P
open Go Go.RowKit Go.Proofs.Ytlkdhmijgpadaaa.D
noncomputable def impl_factorCode.E : Env := { tt := TT, con := [(87, impl_cochainCode.con), (52, impl_order.con), (88, impl_isCocycle.con)], frz := [], rows := [13], live := [], n := 36, pin := 0, nils := [] }
noncomputable def impl_factorCode.fn : D.Fn := { body := Try.f48.body.getD .skip, res := Try.f48.results.toList, ins := [.agg [.v (.sl 25 (.sl 2 (.int .i64)))], .agg [.v (.int .i64), .v (.sl 2 (.int .i64))], .agg [.v (.int .i64), .v (.sl 2 (.int .i64))], .one (.v (.int .i64))], outs := [.one (.v (.int .i64))] }
def impl_factorCode.enc (y : lsd (flats impl_factorCode.fn.outs) × lsd (ios impl_factorCode.fn.ins)) : Int := y.1.1
noncomputable def impl_factorCode.f (l0_0 : List (List Int)) (a1_0 : Int) (l1_1 : List Int) (a2_0 : Int) (l2_1 : List Int) (a3 : Int) : Option Int := denF impl_factorCode.E impl_factorCode.fn impl_factorCode.enc (l0_0, a1_0, l1_1, a2_0, l2_1, a3, ())
set_option maxRecDepth 100000 in
theorem impl_factorCode.f_eq (l0_0 : List (List Int)) (a1_0 : Int) (l1_1 : List Int) (a2_0 : Int) (l2_1 : List Int) (a3 : Int) : impl_factorCode.f l0_0 a1_0 l1_1 a2_0 l2_1 a3 = (impl_cochainCode.f l0_0 a1_0 l1_1 ([(a2_0, l2_1)] : List (Int × (List Int)))).bind fun t14 => if t14 = 0 then (if a2_0 = 2 then ((impl_order.f l0_0).bind fun t24 => if (wrapI (t24 * a1_0)) > a3 then (some 3) else ((impl_isCocycle.f l0_0 a1_0 l1_1 a2_0 l2_1).bind fun t34 => if t34 = true then (some 0) else (some 5))) else (some 2)) else (some t14) := by kernel_rfl
noncomputable def impl_factorCode.con : Con := ⟨impl_factorCode.fn.ins, impl_factorCode.fn.outs, Int, fun x => impl_factorCode.f x.1 x.2.1 x.2.2.1 x.2.2.2.1 x.2.2.2.2.1 x.2.2.2.2.2.1, fun r => ((r, ()), (()))⟩
theorem impl_factorCode.valid : Valid Try.prog 48 impl_factorCode.con := fn_valid (f := impl_factorCode.fn) (E := impl_factorCode.E) (enc := impl_factorCode.enc) ⟨ttOk, (conCons impl_cochainCode.valid (conCons impl_order.valid (conCons impl_isCocycle.valid conNil)))⟩ (Checked.mixed Try.checked) ⟨Try.func48, by kernel_rfl, by kernel_rfl, by kernel_rfl, by kernel_rfl, by decide, by kernel_rfl, by kernel_rfl⟩ (fun _ => rfl)
end Go.Proofs.Ytlkdhmijgpadaaa.P
set_option linter.unusedVariables false
namespace Go.Proofs.Ytlkdhmijgpadaaa.P
open Go Go.RowKit Go.Proofs.Ytlkdhmijgpadaaa.D
noncomputable def impl_made.E : Env := { tt := TT, con := [], frz := [], rows := [], live := [(3, [0, 1, 4, 5, 10, 11]), (7, [0, 1, 4, 5, 6, 7, 10, 11, 15, 16])], n := 35, pin := 0, nils := [4, 5, 9] }
noncomputable def impl_made.fn : D.Fn := { body := Try.f89.body.getD .skip, res := Try.f89.results.toList, ins := [.one (.v (.int .i64)), .one (.fn [(.int .i64), (.int .i64)] (.int .i64))], outs := [.agg [.own 25 true (.sl 2 (.int .i64))]] }
def impl_made.enc (y : lsd (flats impl_made.fn.outs) × lsd (ios impl_made.fn.ins)) : (List (List Int)) := y.1.1
noncomputable def impl_made.f (a0 : Int) (f1 : Int → Int → Option Int) : Option (List (List Int)) := denF impl_made.E impl_made.fn impl_made.enc (a0, fun x => f1 x.1 x.2.1, ())
noncomputable def impl_made.l0 (x0 : Int) (fx1 : Int → Int → Option Int) (x10 : Int) (x11 : Int) (r2 : List (List Int)) (r3 : List (List Int)) : Option (List (List Int)) := denAt impl_made.E impl_made.fn impl_made.enc [1, 1, 0, 1, 0] { fr := [(0, .lf (.int .i64 x0)), (1, .lf (.fn [(.int .i64), (.int .i64)] (.int .i64) (fun x => fx1 x.1 x.2.1))), (4, .lf (.box 0 0)), (5, .lf (.box 1 0)), (10, .lf (.int .i64 x10)), (11, .lf (.int .i64 x11))], ob := [(0, .box 35 false [.own 2]), (1, .box 35 false [.own 3]), (2, .row 25 true (.sl 2 (.int .i64)) r2), (3, .row 25 true (.sl 2 (.int .i64)) r3)], nx := 4 }
noncomputable def impl_made.l1 (x0 : Int) (fx1 : Int → Int → Option Int) (x6 : Int) (x10 : Int) (x11 : Int) (x15 : Int) (x16 : Int) (r2 : List Int) (r3 : List (List Int)) (r4 : List (List Int)) : Option (List (List Int)) := denAt impl_made.E impl_made.fn impl_made.enc [1, 1, 0, 1, 0, 0, 1, 1, 0, 0, 1, 1, 0, 1, 0] { fr := [(0, .lf (.int .i64 x0)), (1, .lf (.fn [(.int .i64), (.int .i64)] (.int .i64) (fun x => fx1 x.1 x.2.1))), (4, .lf (.box 0 0)), (5, .lf (.box 1 0)), (6, .lf (.int .i64 x6)), (7, .lf (.own 2)), (10, .lf (.int .i64 x10)), (11, .lf (.int .i64 x11)), (15, .lf (.int .i64 x15)), (16, .lf (.int .i64 x16))], ob := [(0, .box 35 false [.own 3]), (1, .box 35 false [.own 4]), (2, .row 2 true (.int .i64) r2), (3, .row 25 true (.sl 2 (.int .i64)) r3), (4, .row 25 true (.sl 2 (.int .i64)) r4)], nx := 5 }
set_option maxRecDepth 100000 in
theorem impl_made.f_eq (a0 : Int) (f1 : Int → Int → Option Int) : impl_made.f a0 f1 = impl_made.l0 a0 f1 a0 0 ([] : List (List Int)) ([] : List (List Int)) := by kernel_rfl
set_option maxRecDepth 100000 in
theorem impl_made.l0_eq (x0 : Int) (fx1 : Int → Int → Option Int) (x10 : Int) (x11 : Int) (r2 : List (List Int)) (r3 : List (List Int)) : impl_made.l0 x0 fx1 x10 x11 r2 r3 = if x11 < x10 then (impl_made.l1 x0 fx1 x11 x10 x11 x0 0 ([] : List Int) r2 r3) else (some r3) := (loop_unfold _ _ _ _).trans (by kernel_rfl)
set_option maxRecDepth 100000 in
theorem impl_made.l1_eq (x0 : Int) (fx1 : Int → Int → Option Int) (x6 : Int) (x10 : Int) (x11 : Int) (x15 : Int) (x16 : Int) (r2 : List Int) (r3 : List (List Int)) (r4 : List (List Int)) : impl_made.l1 x0 fx1 x6 x10 x11 x15 x16 r2 r3 r4 = if x16 < x15 then ((fx1 x6 x16).bind fun t23 => if r2.length + ([t23] : List Int).length ≤ 17592186044416 then (impl_made.l1 x0 fx1 x6 x10 x11 x15 (wrapI (x16 + 1)) (r2 ++ ([t23] : List Int)) r3 r4) else none) else (if r4.length + ([r2] : List (List Int)).length ≤ 5864062014805 then (impl_made.l0 x0 fx1 x10 (wrapI (x11 + 1)) r3 (r4 ++ ([r2] : List (List Int)))) else none) := (loop_unfold _ _ _ _).trans (by kernel_rfl)
noncomputable def impl_made.con : Con := ⟨impl_made.fn.ins, impl_made.fn.outs, (List (List Int)), fun x => impl_made.f x.1 (fun z0 z1 => x.2.1 (z0, z1, ())), fun r => ((r, ()), (()))⟩
theorem impl_made.valid : Valid Try.prog 89 impl_made.con := fn_valid (f := impl_made.fn) (E := impl_made.E) (enc := impl_made.enc) ⟨ttOk, conNil⟩ (Checked.mixed Try.checked) ⟨Try.func89, by kernel_rfl, by kernel_rfl, by kernel_rfl, by kernel_rfl, by decide, by kernel_rfl, by kernel_rfl⟩ (fun _ => rfl)
end Go.Proofs.Ytlkdhmijgpadaaa.P
set_option linter.unusedVariables false
namespace Go.Proofs.Ytlkdhmijgpadaaa.P
open Go Go.RowKit Go.Proofs.Ytlkdhmijgpadaaa.D
noncomputable def impl_extension_1.E : Env := { tt := TT, con := [(91, impl_Cochain_at.con), (69, impl_Group_times.con)], frz := [], rows := [], live := [], n := 54, pin := 0, nils := [] }
noncomputable def impl_extension_1.fn : D.Fn := { body := Try.f90.body.getD .skip, res := Try.f90.results.toList, ins := [.one (.v (.int .i64)), .one (.v (.int .i64)), .ptr true 37 [.v (.int .i64), .v (.sl 2 (.int .i64))], .ptr true 39 [.v (.int .i64), .v (.sl 2 (.int .i64))], .ptr true 35 [.v (.sl 25 (.sl 2 (.int .i64)))]], outs := [.one (.v (.int .i64))] }
def impl_extension_1.enc (y : lsd (flats impl_extension_1.fn.outs) × lsd (ios impl_extension_1.fn.ins)) : Int := y.1.1
noncomputable def impl_extension_1.f (a0 : Int) (a1 : Int) (a2_0 : Int) (l2_1 : List Int) (a3_0 : Int) (l3_1 : List Int) (l4 : List (List Int)) : Option Int := denF impl_extension_1.E impl_extension_1.fn impl_extension_1.enc (a0, a1, a2_0, l2_1, a3_0, l3_1, l4, ())
set_option maxRecDepth 100000 in
theorem impl_extension_1.f_eq (a0 : Int) (a1 : Int) (a2_0 : Int) (l2_1 : List Int) (a3_0 : Int) (l3_1 : List Int) (l4 : List (List Int)) : impl_extension_1.f a0 a1 a2_0 l2_1 a3_0 l3_1 l4 = if a2_0 = 0 then none else (if a2_0 = 0 then none else (if a2_0 = 0 then none else (if 0 ≤ wrapI ((a0 : Int).tdiv a2_0) then (if wrapI ((a0 : Int).tdiv a2_0) < (l2_1.length : Int) then (if a2_0 = 0 then none else ((impl_Cochain_at.f a3_0 l3_1 l4 ([wrapI ((a0 : Int).tdiv a2_0), wrapI ((a1 : Int).tdiv a2_0)] : List Int)).bind fun t39 => (impl_Group_times.f l4 ([wrapI ((a0 : Int).tdiv a2_0), wrapI ((a1 : Int).tdiv a2_0)] : List Int)).bind fun t47 => if a2_0 = 0 then none else (some (wrapI ((wrapI (a2_0 * t47)) + ((wrapI ((wrapI (((a0 : Int).tmod a2_0) + (wrapI ((rd l2_1 (wrapI ((a0 : Int).tdiv a2_0))) * ((a1 : Int).tmod a2_0))))) + t39) : Int).tmod a2_0)))))) else none) else none))) := by kernel_rfl
noncomputable def impl_extension_1.con : Con := ⟨impl_extension_1.fn.ins, impl_extension_1.fn.outs, Int, fun x => impl_extension_1.f x.1 x.2.1 x.2.2.1 x.2.2.2.1 x.2.2.2.2.1 x.2.2.2.2.2.1 x.2.2.2.2.2.2.1, fun r => ((r, ()), (()))⟩
theorem impl_extension_1.valid : Valid Try.prog 90 impl_extension_1.con := fn_valid (f := impl_extension_1.fn) (E := impl_extension_1.E) (enc := impl_extension_1.enc) ⟨ttOk, (conCons impl_Cochain_at.valid (conCons impl_Group_times.valid conNil))⟩ (Checked.mixed Try.checked) ⟨Try.func90, by kernel_rfl, by kernel_rfl, by kernel_rfl, by kernel_rfl, by decide, by kernel_rfl, by kernel_rfl⟩ (fun _ => rfl)
end Go.Proofs.Ytlkdhmijgpadaaa.P
set_option linter.unusedVariables false
namespace Go.Proofs.Ytlkdhmijgpadaaa.P
open Go Go.RowKit Go.Proofs.Ytlkdhmijgpadaaa.D
noncomputable def impl_extension.E : Env := { tt := TT, con := [(52, impl_order.con), (89, impl_made.con), (90, impl_extension_1.con)], frz := [], rows := [], live := [], n := 14, pin := 0, nils := [] }
noncomputable def impl_extension.fn : D.Fn := { body := Try.f49.body.getD .skip, res := Try.f49.results.toList, ins := [.agg [.v (.sl 25 (.sl 2 (.int .i64)))], .agg [.v (.int .i64), .v (.sl 2 (.int .i64))], .agg [.v (.int .i64), .v (.sl 2 (.int .i64))]], outs := [.agg [.own 25 true (.sl 2 (.int .i64))]] }
def impl_extension.enc (y : lsd (flats impl_extension.fn.outs) × lsd (ios impl_extension.fn.ins)) : (List (List Int)) := y.1.1
noncomputable def impl_extension.f (l0_0 : List (List Int)) (a1_0 : Int) (l1_1 : List Int) (a2_0 : Int) (l2_1 : List Int) : Option (List (List Int)) := denF impl_extension.E impl_extension.fn impl_extension.enc (l0_0, a1_0, l1_1, a2_0, l2_1, ())
set_option maxRecDepth 100000 in
theorem impl_extension.f_eq (l0_0 : List (List Int)) (a1_0 : Int) (l1_1 : List Int) (a2_0 : Int) (l2_1 : List Int) : impl_extension.f l0_0 a1_0 l1_1 a2_0 l2_1 = (impl_order.f l0_0).bind fun t8 => (impl_made.f (wrapI (t8 * a1_0)) (fun z0 z1 => (impl_extension_1.f z0 z1 a1_0 l1_1 a2_0 l2_1 l0_0).map fun z => z)).bind fun t13 => some t13 := by kernel_rfl
noncomputable def impl_extension.con : Con := ⟨impl_extension.fn.ins, impl_extension.fn.outs, (List (List Int)), fun x => impl_extension.f x.1 x.2.1 x.2.2.1 x.2.2.2.1 x.2.2.2.2.1, fun r => ((r, ()), (()))⟩
theorem impl_extension.valid : Valid Try.prog 49 impl_extension.con := fn_valid (f := impl_extension.fn) (E := impl_extension.E) (enc := impl_extension.enc) ⟨ttOk, (conCons impl_order.valid (conCons impl_made.valid (conCons impl_extension_1.valid conNil)))⟩ (Checked.mixed Try.checked) ⟨Try.func49, by kernel_rfl, by kernel_rfl, by kernel_rfl, by kernel_rfl, by decide, by kernel_rfl, by kernel_rfl⟩ (fun _ => rfl)
end Go.Proofs.Ytlkdhmijgpadaaa.P
set_option linter.unusedVariables false
namespace Go.Proofs.Ytlkdhmijgpadaaa.P
open Go Go.RowKit Go.Proofs.Ytlkdhmijgpadaaa.D
noncomputable def impl_mapped.E : Env := { tt := TT, con := [], frz := [], rows := [], live := [(3, [1, 5, 9, 10, 11])], n := 23, pin := 0, nils := [] }
noncomputable def impl_mapped.fn : D.Fn := { body := Try.f50.body.getD .skip, res := Try.f50.results.toList, ins := [.one (.v (.sl 2 (.int .i64))), .one (.fn [(.int .i64)] (.int .i64))], outs := [.one (.own 2 true (.int .i64))] }
def impl_mapped.enc (y : lsd (flats impl_mapped.fn.outs) × lsd (ios impl_mapped.fn.ins)) : (List Int) := y.1.1
noncomputable def impl_mapped.f (l0 : List Int) (f1 : Int → Option Int) : Option (List Int) := denF impl_mapped.E impl_mapped.fn impl_mapped.enc (l0, fun x => f1 x.1, ())
noncomputable def impl_mapped.l0 (fx1 : Int → Option Int) (x9 : List Int) (x10 : Int) (x11 : Int) (r0 : List Int) : Option (List Int) := denAt impl_mapped.E impl_mapped.fn impl_mapped.enc [1, 1, 0, 1, 0] { fr := [(1, .lf (.fn [(.int .i64)] (.int .i64) (fun x => fx1 x.1))), (5, .lf (.own 0)), (9, .lf (.sl (.int .i64) x9)), (10, .lf (.int .i64 x10)), (11, .lf (.int .i64 x11))], ob := [(0, .row 2 true (.int .i64) r0)], nx := 1 }
set_option maxRecDepth 100000 in
theorem impl_mapped.f_eq (l0 : List Int) (f1 : Int → Option Int) : impl_mapped.f l0 f1 = impl_mapped.l0 f1 l0 (l0.length : Int) 0 ([] : List Int) := by kernel_rfl
set_option maxRecDepth 100000 in
theorem impl_mapped.l0_eq (fx1 : Int → Option Int) (x9 : List Int) (x10 : Int) (x11 : Int) (r0 : List Int) : impl_mapped.l0 fx1 x9 x10 x11 r0 = if x11 < x10 then (if 0 ≤ x11 then (if x11 < (x9.length : Int) then ((fx1 (rd x9 x11)).bind fun t18 => if r0.length + ([t18] : List Int).length ≤ 17592186044416 then (impl_mapped.l0 fx1 x9 x10 (wrapI (x11 + 1)) (r0 ++ ([t18] : List Int))) else none) else none) else none) else (some r0) := (loop_unfold _ _ _ _).trans (by kernel_rfl)
noncomputable def impl_mapped.con : Con := ⟨impl_mapped.fn.ins, impl_mapped.fn.outs, (List Int), fun x => impl_mapped.f x.1 (fun z0 => x.2.1 (z0, ())), fun r => ((r, ()), (()))⟩
theorem impl_mapped.valid : Valid Try.prog 50 impl_mapped.con := fn_valid (f := impl_mapped.fn) (E := impl_mapped.E) (enc := impl_mapped.enc) ⟨ttOk, conNil⟩ (Checked.mixed Try.checked) ⟨Try.func50, by kernel_rfl, by kernel_rfl, by kernel_rfl, by kernel_rfl, by decide, by kernel_rfl, by kernel_rfl⟩ (fun _ => rfl)
end Go.Proofs.Ytlkdhmijgpadaaa.P
set_option linter.unusedVariables false
namespace Go.Proofs.Ytlkdhmijgpadaaa.P
open Go Go.RowKit Go.Proofs.Ytlkdhmijgpadaaa.D
noncomputable def impl_counting.E : Env := { tt := TT, con := [], frz := [], rows := [], live := [(3, [3, 6, 7])], n := 16, pin := 0, nils := [] }
noncomputable def impl_counting.fn : D.Fn := { body := Try.f51.body.getD .skip, res := Try.f51.results.toList, ins := [.one (.v (.int .i64))], outs := [.one (.own 2 true (.int .i64))] }
def impl_counting.enc (y : lsd (flats impl_counting.fn.outs) × lsd (ios impl_counting.fn.ins)) : (List Int) := y.1.1
noncomputable def impl_counting.f (a0 : Int) : Option (List Int) := denF impl_counting.E impl_counting.fn impl_counting.enc (a0, ())
noncomputable def impl_counting.l0 (x6 : Int) (x7 : Int) (r0 : List Int) : Option (List Int) := denAt impl_counting.E impl_counting.fn impl_counting.enc [1, 1, 0, 1, 0] { fr := [(3, .lf (.own 0)), (6, .lf (.int .i64 x6)), (7, .lf (.int .i64 x7))], ob := [(0, .row 2 true (.int .i64) r0)], nx := 1 }
set_option maxRecDepth 100000 in
theorem impl_counting.f_eq (a0 : Int) : impl_counting.f a0 = impl_counting.l0 a0 0 ([] : List Int) := by kernel_rfl
set_option maxRecDepth 100000 in
theorem impl_counting.l0_eq (x6 : Int) (x7 : Int) (r0 : List Int) : impl_counting.l0 x6 x7 r0 = if x7 < x6 then (if r0.length + ([x7] : List Int).length ≤ 17592186044416 then (impl_counting.l0 x6 (wrapI (x7 + 1)) (r0 ++ ([x7] : List Int))) else none) else (some r0) := (loop_unfold _ _ _ _).trans (by kernel_rfl)
noncomputable def impl_counting.con : Con := ⟨impl_counting.fn.ins, impl_counting.fn.outs, (List Int), fun x => impl_counting.f x.1, fun r => ((r, ()), (()))⟩
theorem impl_counting.valid : Valid Try.prog 51 impl_counting.con := fn_valid (f := impl_counting.fn) (E := impl_counting.E) (enc := impl_counting.enc) ⟨ttOk, conNil⟩ (Checked.mixed Try.checked) ⟨Try.func51, by kernel_rfl, by kernel_rfl, by kernel_rfl, by kernel_rfl, by decide, by kernel_rfl, by kernel_rfl⟩ (fun _ => rfl)
end Go.Proofs.Ytlkdhmijgpadaaa.P
set_option linter.unusedVariables false
namespace Go.Proofs.Ytlkdhmijgpadaaa.P
open Go Go.RowKit Go.Proofs.Ytlkdhmijgpadaaa.D
noncomputable def impl_Group_orderOf.E : Env := { tt := TT, con := [(69, impl_Group_times.con)], frz := [], rows := [], live := [(3, [1, 2, 5, 6])], n := 18, pin := 0, nils := [] }
noncomputable def impl_Group_orderOf.fn : D.Fn := { body := Try.f53.body.getD .skip, res := Try.f53.results.toList, ins := [.agg [.v (.sl 25 (.sl 2 (.int .i64)))], .one (.v (.int .i64))], outs := [.one (.v (.int .i64))] }
def impl_Group_orderOf.enc (y : lsd (flats impl_Group_orderOf.fn.outs) × lsd (ios impl_Group_orderOf.fn.ins)) : Int := y.1.1
noncomputable def impl_Group_orderOf.f (l0_0 : List (List Int)) (a1 : Int) : Option Int := denF impl_Group_orderOf.E impl_Group_orderOf.fn impl_Group_orderOf.enc (l0_0, a1, ())
noncomputable def impl_Group_orderOf.l0 (x1 : Int) (x5 : Int) (x6 : Int) (b0_0 : List (List Int)) : Option Int := denAt impl_Group_orderOf.E impl_Group_orderOf.fn impl_Group_orderOf.enc [1, 1, 0, 1, 0] { fr := [(1, .lf (.int .i64 x1)), (2, .lf (.box 0 0)), (5, .lf (.int .i64 x5)), (6, .lf (.int .i64 x6))], ob := [(0, .box 35 false [.sl (.sl 2 (.int .i64)) b0_0])], nx := 1 }
set_option maxRecDepth 100000 in
theorem impl_Group_orderOf.f_eq (l0_0 : List (List Int)) (a1 : Int) : impl_Group_orderOf.f l0_0 a1 = impl_Group_orderOf.l0 a1 1 a1 l0_0 := by kernel_rfl
set_option maxRecDepth 100000 in
theorem impl_Group_orderOf.l0_eq (x1 : Int) (x5 : Int) (x6 : Int) (b0_0 : List (List Int)) : impl_Group_orderOf.l0 x1 x5 x6 b0_0 = if x6 = 0 then (some x5) else ((impl_Group_times.f b0_0 ([x6, x1] : List Int)).bind fun t14 => impl_Group_orderOf.l0 x1 (wrapI (x5 + 1)) t14 b0_0) := (loop_unfold _ _ _ _).trans (by kernel_rfl)
noncomputable def impl_Group_orderOf.con : Con := ⟨impl_Group_orderOf.fn.ins, impl_Group_orderOf.fn.outs, Int, fun x => impl_Group_orderOf.f x.1 x.2.1, fun r => ((r, ()), (()))⟩
theorem impl_Group_orderOf.valid : Valid Try.prog 53 impl_Group_orderOf.con := fn_valid (f := impl_Group_orderOf.fn) (E := impl_Group_orderOf.E) (enc := impl_Group_orderOf.enc) ⟨ttOk, (conCons impl_Group_times.valid conNil)⟩ (Checked.mixed Try.checked) ⟨Try.func53, by kernel_rfl, by kernel_rfl, by kernel_rfl, by kernel_rfl, by decide, by kernel_rfl, by kernel_rfl⟩ (fun _ => rfl)
end Go.Proofs.Ytlkdhmijgpadaaa.P
set_option linter.unusedVariables false
namespace Go.Proofs.Ytlkdhmijgpadaaa.P
open Go Go.RowKit Go.Proofs.Ytlkdhmijgpadaaa.D
noncomputable def impl_OrdersOfExtension.E : Env := { tt := TT, con := [(48, impl_factorCode.con), (49, impl_extension.con), (52, impl_order.con), (51, impl_counting.con), (53, impl_Group_orderOf.con), (50, impl_mapped.con)], frz := [20], rows := [], live := [], n := 27, pin := 0, nils := [] }
noncomputable def impl_OrdersOfExtension.fn : D.Fn := { body := Try.f16.body.getD .skip, res := Try.f16.results.toList, ins := [.agg [.v (.sl 25 (.sl 2 (.int .i64)))], .agg [.v (.int .i64), .v (.sl 2 (.int .i64))], .agg [.v (.int .i64), .v (.sl 2 (.int .i64))]], outs := [.one (.own 2 true (.int .i64)), .one (.v (.int .i64))] }
def impl_OrdersOfExtension.enc (y : lsd (flats impl_OrdersOfExtension.fn.outs) × lsd (ios impl_OrdersOfExtension.fn.ins)) : (List Int) × Int := (y.1.1, y.1.2.1)
noncomputable def impl_OrdersOfExtension.f (l0_0 : List (List Int)) (a1_0 : Int) (l1_1 : List Int) (a2_0 : Int) (l2_1 : List Int) : Option ((List Int) × Int) := denF impl_OrdersOfExtension.E impl_OrdersOfExtension.fn impl_OrdersOfExtension.enc (l0_0, a1_0, l1_1, a2_0, l2_1, ())
set_option maxRecDepth 100000 in
theorem impl_OrdersOfExtension.f_eq (l0_0 : List (List Int)) (a1_0 : Int) (l1_1 : List Int) (a2_0 : Int) (l2_1 : List Int) : impl_OrdersOfExtension.f l0_0 a1_0 l1_1 a2_0 l2_1 = (impl_factorCode.f l0_0 a1_0 l1_1 a2_0 l2_1 64).bind fun t13 => if t13 = 0 then ((impl_extension.f l0_0 a1_0 l1_1 a2_0 l2_1).bind fun t20 => (impl_order.f t20).bind fun t22 => (impl_counting.f t22).bind fun t23 => (impl_mapped.f t23 (fun z0 => ((impl_Group_orderOf.f t20 z0).map fun z => z).map fun z => z)).bind fun t26 => some (t26, 0)) else (some (([] : List Int), t13)) := by kernel_rfl
noncomputable def impl_OrdersOfExtension.con : Con := ⟨impl_OrdersOfExtension.fn.ins, impl_OrdersOfExtension.fn.outs, (List Int) × Int, fun x => impl_OrdersOfExtension.f x.1 x.2.1 x.2.2.1 x.2.2.2.1 x.2.2.2.2.1, fun r => ((r.1, r.2, ()), (()))⟩
theorem impl_OrdersOfExtension.valid : Valid Try.prog 16 impl_OrdersOfExtension.con := fn_valid (f := impl_OrdersOfExtension.fn) (E := impl_OrdersOfExtension.E) (enc := impl_OrdersOfExtension.enc) ⟨ttOk, (conCons impl_factorCode.valid (conCons impl_extension.valid (conCons impl_order.valid (conCons impl_counting.valid (conCons impl_Group_orderOf.valid (conCons impl_mapped.valid conNil))))))⟩ (Checked.mixed Try.checked) ⟨Try.func16, by kernel_rfl, by kernel_rfl, by kernel_rfl, by kernel_rfl, by decide, by kernel_rfl, by kernel_rfl⟩ (fun _ => rfl)
end Go.Proofs.Ytlkdhmijgpadaaa.P
set_option linter.unusedVariables false
namespace Go.Proofs.Ytlkdhmijgpadaaa.P
open Go Go.RowKit Go.Proofs.Ytlkdhmijgpadaaa.D
noncomputable def laws_eqInt64S.E : Env := { tt := TT, con := [], frz := [], rows := [], live := [(4, [0, 1, 5])], n := 26, pin := 0, nils := [] }
noncomputable def laws_eqInt64S.fn : D.Fn := { body := Try.f17.body.getD .skip, res := Try.f17.results.toList, ins := [.one (.v (.sl 2 (.int .i64))), .one (.v (.sl 2 (.int .i64)))], outs := [.one (.v .bool)] }
def laws_eqInt64S.enc (y : lsd (flats laws_eqInt64S.fn.outs) × lsd (ios laws_eqInt64S.fn.ins)) : Bool := y.1.1
noncomputable def laws_eqInt64S.f (l0 : List Int) (l1 : List Int) : Option Bool := denF laws_eqInt64S.E laws_eqInt64S.fn laws_eqInt64S.enc (l0, l1, ())
noncomputable def laws_eqInt64S.l0 (x0 : List Int) (x1 : List Int) (x5 : Int) : Option Bool := denAt laws_eqInt64S.E laws_eqInt64S.fn laws_eqInt64S.enc [1, 1, 0, 1, 0] { fr := [(0, .lf (.sl (.int .i64) x0)), (1, .lf (.sl (.int .i64) x1)), (5, .lf (.int .i64 x5))], ob := [], nx := 0 }
set_option maxRecDepth 100000 in
theorem laws_eqInt64S.f_eq (l0 : List Int) (l1 : List Int) : laws_eqInt64S.f l0 l1 = if (l0.length : Int) = (l1.length : Int) then (laws_eqInt64S.l0 l0 l1 0) else (some false) := by kernel_rfl
set_option maxRecDepth 100000 in
theorem laws_eqInt64S.l0_eq (x0 : List Int) (x1 : List Int) (x5 : Int) : laws_eqInt64S.l0 x0 x1 x5 = if x5 < (x0.length : Int) then (if 0 ≤ x5 then (if x5 < (x0.length : Int) then (if 0 ≤ x5 then (if x5 < (x1.length : Int) then (if (rd x0 x5) = (rd x1 x5) then (laws_eqInt64S.l0 x0 x1 (wrapI (x5 + 1))) else (some false)) else none) else none) else none) else none) else (some true) := (loop_unfold _ _ _ _).trans (by kernel_rfl)
noncomputable def laws_eqInt64S.con : Con := ⟨laws_eqInt64S.fn.ins, laws_eqInt64S.fn.outs, Bool, fun x => laws_eqInt64S.f x.1 x.2.1, fun r => ((r, ()), (()))⟩
theorem laws_eqInt64S.valid : Valid Try.prog 17 laws_eqInt64S.con := fn_valid (f := laws_eqInt64S.fn) (E := laws_eqInt64S.E) (enc := laws_eqInt64S.enc) ⟨ttOk, conNil⟩ (Checked.mixed Try.checked) ⟨Try.func17, by kernel_rfl, by kernel_rfl, by kernel_rfl, by kernel_rfl, by decide, by kernel_rfl, by kernel_rfl⟩ (fun _ => rfl)
end Go.Proofs.Ytlkdhmijgpadaaa.P
set_option linter.unusedVariables false
namespace Go.Proofs.Ytlkdhmijgpadaaa.P
open Go Go.RowKit Go.Proofs.Ytlkdhmijgpadaaa.D
noncomputable def laws_eqInt64SS.E : Env := { tt := TT, con := [(17, laws_eqInt64S.con)], frz := [], rows := [], live := [(4, [0, 1, 5])], n := 27, pin := 0, nils := [] }
noncomputable def laws_eqInt64SS.fn : D.Fn := { body := Try.f37.body.getD .skip, res := Try.f37.results.toList, ins := [.one (.v (.sl 25 (.sl 2 (.int .i64)))), .one (.v (.sl 25 (.sl 2 (.int .i64))))], outs := [.one (.v .bool)] }
def laws_eqInt64SS.enc (y : lsd (flats laws_eqInt64SS.fn.outs) × lsd (ios laws_eqInt64SS.fn.ins)) : Bool := y.1.1
noncomputable def laws_eqInt64SS.f (l0 : List (List Int)) (l1 : List (List Int)) : Option Bool := denF laws_eqInt64SS.E laws_eqInt64SS.fn laws_eqInt64SS.enc (l0, l1, ())
noncomputable def laws_eqInt64SS.l0 (x0 : List (List Int)) (x1 : List (List Int)) (x5 : Int) : Option Bool := denAt laws_eqInt64SS.E laws_eqInt64SS.fn laws_eqInt64SS.enc [1, 1, 0, 1, 0] { fr := [(0, .lf (.sl (.sl 2 (.int .i64)) x0)), (1, .lf (.sl (.sl 2 (.int .i64)) x1)), (5, .lf (.int .i64 x5))], ob := [], nx := 0 }
set_option maxRecDepth 100000 in
theorem laws_eqInt64SS.f_eq (l0 : List (List Int)) (l1 : List (List Int)) : laws_eqInt64SS.f l0 l1 = if (l0.length : Int) = (l1.length : Int) then (laws_eqInt64SS.l0 l0 l1 0) else (some false) := by kernel_rfl
set_option maxRecDepth 100000 in
theorem laws_eqInt64SS.l0_eq (x0 : List (List Int)) (x1 : List (List Int)) (x5 : Int) : laws_eqInt64SS.l0 x0 x1 x5 = if x5 < (x0.length : Int) then (if 0 ≤ x5 then (if x5 < (x0.length : Int) then (if 0 ≤ x5 then (if x5 < (x1.length : Int) then ((laws_eqInt64S.f (row x0 x5) (row x1 x5)).bind fun t25 => if t25 = true then (laws_eqInt64SS.l0 x0 x1 (wrapI (x5 + 1))) else (some false)) else none) else none) else none) else none) else (some true) := (loop_unfold _ _ _ _).trans (by kernel_rfl)
noncomputable def laws_eqInt64SS.con : Con := ⟨laws_eqInt64SS.fn.ins, laws_eqInt64SS.fn.outs, Bool, fun x => laws_eqInt64SS.f x.1 x.2.1, fun r => ((r, ()), (()))⟩
theorem laws_eqInt64SS.valid : Valid Try.prog 37 laws_eqInt64SS.con := fn_valid (f := laws_eqInt64SS.fn) (E := laws_eqInt64SS.E) (enc := laws_eqInt64SS.enc) ⟨ttOk, (conCons laws_eqInt64S.valid conNil)⟩ (Checked.mixed Try.checked) ⟨Try.func37, by kernel_rfl, by kernel_rfl, by kernel_rfl, by kernel_rfl, by decide, by kernel_rfl, by kernel_rfl⟩ (fun _ => rfl)
end Go.Proofs.Ytlkdhmijgpadaaa.P
set_option linter.unusedVariables false
namespace Go.Proofs.Ytlkdhmijgpadaaa.P
open Go Go.RowKit Go.Proofs.Ytlkdhmijgpadaaa.D
noncomputable def laws_eqGroup.E : Env := { tt := TT, con := [(37, laws_eqInt64SS.con)], frz := [], rows := [], live := [], n := 11, pin := 0, nils := [] }
noncomputable def laws_eqGroup.fn : D.Fn := { body := Try.f18.body.getD .skip, res := Try.f18.results.toList, ins := [.agg [.v (.sl 25 (.sl 2 (.int .i64)))], .agg [.v (.sl 25 (.sl 2 (.int .i64)))]], outs := [.one (.v .bool)] }
def laws_eqGroup.enc (y : lsd (flats laws_eqGroup.fn.outs) × lsd (ios laws_eqGroup.fn.ins)) : Bool := y.1.1
noncomputable def laws_eqGroup.f (l0_0 : List (List Int)) (l1_0 : List (List Int)) : Option Bool := denF laws_eqGroup.E laws_eqGroup.fn laws_eqGroup.enc (l0_0, l1_0, ())
set_option maxRecDepth 100000 in
theorem laws_eqGroup.f_eq (l0_0 : List (List Int)) (l1_0 : List (List Int)) : laws_eqGroup.f l0_0 l1_0 = (laws_eqInt64SS.f l0_0 l1_0).bind fun t9 => if t9 = true then (some true) else (some false) := by kernel_rfl
noncomputable def laws_eqGroup.con : Con := ⟨laws_eqGroup.fn.ins, laws_eqGroup.fn.outs, Bool, fun x => laws_eqGroup.f x.1 x.2.1, fun r => ((r, ()), (()))⟩
theorem laws_eqGroup.valid : Valid Try.prog 18 laws_eqGroup.con := fn_valid (f := laws_eqGroup.fn) (E := laws_eqGroup.E) (enc := laws_eqGroup.enc) ⟨ttOk, (conCons laws_eqInt64SS.valid conNil)⟩ (Checked.mixed Try.checked) ⟨Try.func18, by kernel_rfl, by kernel_rfl, by kernel_rfl, by kernel_rfl, by decide, by kernel_rfl, by kernel_rfl⟩ (fun _ => rfl)
end Go.Proofs.Ytlkdhmijgpadaaa.P
set_option linter.unusedVariables false
namespace Go.Proofs.Ytlkdhmijgpadaaa.P
open Go Go.RowKit Go.Proofs.Ytlkdhmijgpadaaa.D
noncomputable def laws_eqModule.E : Env := { tt := TT, con := [(17, laws_eqInt64S.con)], frz := [], rows := [], live := [], n := 16, pin := 0, nils := [] }
noncomputable def laws_eqModule.fn : D.Fn := { body := Try.f19.body.getD .skip, res := Try.f19.results.toList, ins := [.agg [.v (.int .i64), .v (.sl 2 (.int .i64))], .agg [.v (.int .i64), .v (.sl 2 (.int .i64))]], outs := [.one (.v .bool)] }
def laws_eqModule.enc (y : lsd (flats laws_eqModule.fn.outs) × lsd (ios laws_eqModule.fn.ins)) : Bool := y.1.1
noncomputable def laws_eqModule.f (a0_0 : Int) (l0_1 : List Int) (a1_0 : Int) (l1_1 : List Int) : Option Bool := denF laws_eqModule.E laws_eqModule.fn laws_eqModule.enc (a0_0, l0_1, a1_0, l1_1, ())
set_option maxRecDepth 100000 in
theorem laws_eqModule.f_eq (a0_0 : Int) (l0_1 : List Int) (a1_0 : Int) (l1_1 : List Int) : laws_eqModule.f a0_0 l0_1 a1_0 l1_1 = if a0_0 = a1_0 then ((laws_eqInt64S.f l0_1 l1_1).bind fun t14 => if t14 = true then (some true) else (some false)) else (some false) := by kernel_rfl
noncomputable def laws_eqModule.con : Con := ⟨laws_eqModule.fn.ins, laws_eqModule.fn.outs, Bool, fun x => laws_eqModule.f x.1 x.2.1 x.2.2.1 x.2.2.2.1, fun r => ((r, ()), (()))⟩
theorem laws_eqModule.valid : Valid Try.prog 19 laws_eqModule.con := fn_valid (f := laws_eqModule.fn) (E := laws_eqModule.E) (enc := laws_eqModule.enc) ⟨ttOk, (conCons laws_eqInt64S.valid conNil)⟩ (Checked.mixed Try.checked) ⟨Try.func19, by kernel_rfl, by kernel_rfl, by kernel_rfl, by kernel_rfl, by decide, by kernel_rfl, by kernel_rfl⟩ (fun _ => rfl)
end Go.Proofs.Ytlkdhmijgpadaaa.P
set_option linter.unusedVariables false
namespace Go.Proofs.Ytlkdhmijgpadaaa.P
open Go Go.RowKit Go.Proofs.Ytlkdhmijgpadaaa.D
noncomputable def laws_eqCochain.E : Env := { tt := TT, con := [(17, laws_eqInt64S.con)], frz := [], rows := [], live := [], n := 16, pin := 0, nils := [] }
noncomputable def laws_eqCochain.fn : D.Fn := { body := Try.f20.body.getD .skip, res := Try.f20.results.toList, ins := [.agg [.v (.int .i64), .v (.sl 2 (.int .i64))], .agg [.v (.int .i64), .v (.sl 2 (.int .i64))]], outs := [.one (.v .bool)] }
def laws_eqCochain.enc (y : lsd (flats laws_eqCochain.fn.outs) × lsd (ios laws_eqCochain.fn.ins)) : Bool := y.1.1
noncomputable def laws_eqCochain.f (a0_0 : Int) (l0_1 : List Int) (a1_0 : Int) (l1_1 : List Int) : Option Bool := denF laws_eqCochain.E laws_eqCochain.fn laws_eqCochain.enc (a0_0, l0_1, a1_0, l1_1, ())
set_option maxRecDepth 100000 in
theorem laws_eqCochain.f_eq (a0_0 : Int) (l0_1 : List Int) (a1_0 : Int) (l1_1 : List Int) : laws_eqCochain.f a0_0 l0_1 a1_0 l1_1 = if a0_0 = a1_0 then ((laws_eqInt64S.f l0_1 l1_1).bind fun t14 => if t14 = true then (some true) else (some false)) else (some false) := by kernel_rfl
noncomputable def laws_eqCochain.con : Con := ⟨laws_eqCochain.fn.ins, laws_eqCochain.fn.outs, Bool, fun x => laws_eqCochain.f x.1 x.2.1 x.2.2.1 x.2.2.2.1, fun r => ((r, ()), (()))⟩
theorem laws_eqCochain.valid : Valid Try.prog 20 laws_eqCochain.con := fn_valid (f := laws_eqCochain.fn) (E := laws_eqCochain.E) (enc := laws_eqCochain.enc) ⟨ttOk, (conCons laws_eqInt64S.valid conNil)⟩ (Checked.mixed Try.checked) ⟨Try.func20, by kernel_rfl, by kernel_rfl, by kernel_rfl, by kernel_rfl, by decide, by kernel_rfl, by kernel_rfl⟩ (fun _ => rfl)
end Go.Proofs.Ytlkdhmijgpadaaa.P
set_option linter.unusedVariables false
namespace Go.Proofs.Ytlkdhmijgpadaaa.P
open Go Go.RowKit Go.Proofs.Ytlkdhmijgpadaaa.D
noncomputable def laws_markInt64S.E : Env := { tt := TT, con := [], frz := [], rows := [], live := [(2, [0, 1, 5])], n := 19, pin := 1, nils := [] }
noncomputable def laws_markInt64S.fn : D.Fn := { body := Try.f24.body.getD .skip, res := Try.f24.results.toList, ins := [.one (.own 2 true (.int .i64)), .one (.v (.int .i64))], outs := [.one (.v (.int .i64))] }
def laws_markInt64S.enc (y : lsd (flats laws_markInt64S.fn.outs) × lsd (ios laws_markInt64S.fn.ins)) : Int × (List Int) := (y.1.1, y.2.1)
noncomputable def laws_markInt64S.f (l0 : List Int) (a1 : Int) : Option (Int × (List Int)) := denF laws_markInt64S.E laws_markInt64S.fn laws_markInt64S.enc (l0, a1, ())
noncomputable def laws_markInt64S.l0 (x1 : Int) (x5 : Int) (r0 : List Int) : Option (Int × (List Int)) := denAt laws_markInt64S.E laws_markInt64S.fn laws_markInt64S.enc [1, 0, 1, 0] { fr := [(0, .lf (.own 0)), (1, .lf (.int .i64 x1)), (5, .lf (.int .i64 x5))], ob := [(0, .row 2 true (.int .i64) r0)], nx := 1 }
set_option maxRecDepth 100000 in
theorem laws_markInt64S.f_eq (l0 : List Int) (a1 : Int) : laws_markInt64S.f l0 a1 = laws_markInt64S.l0 a1 0 l0 := by kernel_rfl
set_option maxRecDepth 100000 in
theorem laws_markInt64S.l0_eq (x1 : Int) (x5 : Int) (r0 : List Int) : laws_markInt64S.l0 x1 x5 r0 = if x5 < (r0.length : Int) then (if 0 ≤ x5 then (if x5 < (r0.length : Int) then (if 0 ≤ x5 then (if x5 < (r0.length : Int) then (laws_markInt64S.l0 (wrapI (x1 + 1)) (wrapI (x5 + 1)) (r0.set (x5 : Int).toNat x1)) else none) else none) else none) else none) else (some (x1, r0)) := (loop_unfold _ _ _ _).trans (by kernel_rfl)
noncomputable def laws_markInt64S.con : Con := ⟨laws_markInt64S.fn.ins, laws_markInt64S.fn.outs, Int × (List Int), fun x => laws_markInt64S.f x.1 x.2.1, fun r => ((r.1, ()), (r.2, ()))⟩
theorem laws_markInt64S.valid : Valid Try.prog 24 laws_markInt64S.con := fn_valid (f := laws_markInt64S.fn) (E := laws_markInt64S.E) (enc := laws_markInt64S.enc) ⟨ttOk, conNil⟩ (Checked.mixed Try.checked) ⟨Try.func24, by kernel_rfl, by kernel_rfl, by kernel_rfl, by kernel_rfl, by decide, by kernel_rfl, by kernel_rfl⟩ (fun _ => rfl)
end Go.Proofs.Ytlkdhmijgpadaaa.P
set_option linter.unusedVariables false
namespace Go.Proofs.Ytlkdhmijgpadaaa.P
open Go Go.RowKit Go.Proofs.Ytlkdhmijgpadaaa.D
noncomputable def laws_markInt64SS.E : Env := { tt := TT, con := [(24, laws_markInt64S.con)], frz := [], rows := [], live := [(2, [0, 1, 5])], n := 19, pin := 1, nils := [] }
noncomputable def laws_markInt64SS.fn : D.Fn := { body := Try.f38.body.getD .skip, res := Try.f38.results.toList, ins := [.one (.own 25 true (.sl 2 (.int .i64))), .one (.v (.int .i64))], outs := [.one (.v (.int .i64))] }
def laws_markInt64SS.enc (y : lsd (flats laws_markInt64SS.fn.outs) × lsd (ios laws_markInt64SS.fn.ins)) : Int × (List (List Int)) := (y.1.1, y.2.1)
noncomputable def laws_markInt64SS.f (l0 : List (List Int)) (a1 : Int) : Option (Int × (List (List Int))) := denF laws_markInt64SS.E laws_markInt64SS.fn laws_markInt64SS.enc (l0, a1, ())
noncomputable def laws_markInt64SS.l0 (x1 : Int) (x5 : Int) (r0 : List (List Int)) : Option (Int × (List (List Int))) := denAt laws_markInt64SS.E laws_markInt64SS.fn laws_markInt64SS.enc [1, 0, 1, 0] { fr := [(0, .lf (.own 0)), (1, .lf (.int .i64 x1)), (5, .lf (.int .i64 x5))], ob := [(0, .row 25 true (.sl 2 (.int .i64)) r0)], nx := 1 }
set_option maxRecDepth 100000 in
theorem laws_markInt64SS.f_eq (l0 : List (List Int)) (a1 : Int) : laws_markInt64SS.f l0 a1 = laws_markInt64SS.l0 a1 0 l0 := by kernel_rfl
set_option maxRecDepth 100000 in
theorem laws_markInt64SS.l0_eq (x1 : Int) (x5 : Int) (r0 : List (List Int)) : laws_markInt64SS.l0 x1 x5 r0 = if x5 < (r0.length : Int) then (if 0 ≤ x5 then (if x5 < (r0.length : Int) then (if 0 ≤ x5 then (if x5 < (r0.length : Int) then ((laws_markInt64S.f (row r0 x5) x1).bind fun t17 => laws_markInt64SS.l0 t17.1 (wrapI (x5 + 1)) (r0.set (x5 : Int).toNat t17.2)) else none) else none) else none) else none) else (some (x1, r0)) := (loop_unfold _ _ _ _).trans (by kernel_rfl)
noncomputable def laws_markInt64SS.con : Con := ⟨laws_markInt64SS.fn.ins, laws_markInt64SS.fn.outs, Int × (List (List Int)), fun x => laws_markInt64SS.f x.1 x.2.1, fun r => ((r.1, ()), (r.2, ()))⟩
theorem laws_markInt64SS.valid : Valid Try.prog 38 laws_markInt64SS.con := fn_valid (f := laws_markInt64SS.fn) (E := laws_markInt64SS.E) (enc := laws_markInt64SS.enc) ⟨ttOk, (conCons laws_markInt64S.valid conNil)⟩ (Checked.mixed Try.checked) ⟨Try.func38, by kernel_rfl, by kernel_rfl, by kernel_rfl, by kernel_rfl, by decide, by kernel_rfl, by kernel_rfl⟩ (fun _ => rfl)
end Go.Proofs.Ytlkdhmijgpadaaa.P
set_option linter.unusedVariables false
namespace Go.Proofs.Ytlkdhmijgpadaaa.P
open Go Go.RowKit Go.Proofs.Ytlkdhmijgpadaaa.D
noncomputable def laws_markGroup.E : Env := { tt := TT, con := [(38, laws_markInt64SS.con)], frz := [], rows := [], live := [], n := 10, pin := 1, nils := [] }
noncomputable def laws_markGroup.fn : D.Fn := { body := Try.f21.body.getD .skip, res := Try.f21.results.toList, ins := [.agg [.own 25 true (.sl 2 (.int .i64))], .one (.v (.int .i64))], outs := [.one (.v (.int .i64))] }
def laws_markGroup.enc (y : lsd (flats laws_markGroup.fn.outs) × lsd (ios laws_markGroup.fn.ins)) : Int × (List (List Int)) := (y.1.1, y.2.1)
noncomputable def laws_markGroup.f (l0_0 : List (List Int)) (a1 : Int) : Option (Int × (List (List Int))) := denF laws_markGroup.E laws_markGroup.fn laws_markGroup.enc (l0_0, a1, ())
set_option maxRecDepth 100000 in
theorem laws_markGroup.f_eq (l0_0 : List (List Int)) (a1 : Int) : laws_markGroup.f l0_0 a1 = (laws_markInt64SS.f l0_0 a1).bind fun t8 => some (t8.1, t8.2) := by kernel_rfl
noncomputable def laws_markGroup.con : Con := ⟨laws_markGroup.fn.ins, laws_markGroup.fn.outs, Int × (List (List Int)), fun x => laws_markGroup.f x.1 x.2.1, fun r => ((r.1, ()), (r.2, ()))⟩
theorem laws_markGroup.valid : Valid Try.prog 21 laws_markGroup.con := fn_valid (f := laws_markGroup.fn) (E := laws_markGroup.E) (enc := laws_markGroup.enc) ⟨ttOk, (conCons laws_markInt64SS.valid conNil)⟩ (Checked.mixed Try.checked) ⟨Try.func21, by kernel_rfl, by kernel_rfl, by kernel_rfl, by kernel_rfl, by decide, by kernel_rfl, by kernel_rfl⟩ (fun _ => rfl)
end Go.Proofs.Ytlkdhmijgpadaaa.P
set_option linter.unusedVariables false
namespace Go.Proofs.Ytlkdhmijgpadaaa.P
open Go Go.RowKit Go.Proofs.Ytlkdhmijgpadaaa.D
noncomputable def laws_markModule.E : Env := { tt := TT, con := [(24, laws_markInt64S.con)], frz := [], rows := [], live := [], n := 10, pin := 1, nils := [] }
noncomputable def laws_markModule.fn : D.Fn := { body := Try.f22.body.getD .skip, res := Try.f22.results.toList, ins := [.agg [.v (.int .i64), .own 2 true (.int .i64)], .one (.v (.int .i64))], outs := [.one (.v (.int .i64))] }
def laws_markModule.enc (y : lsd (flats laws_markModule.fn.outs) × lsd (ios laws_markModule.fn.ins)) : Int × (List Int) := (y.1.1, y.2.1)
noncomputable def laws_markModule.f (a0_0 : Int) (l0_1 : List Int) (a1 : Int) : Option (Int × (List Int)) := denF laws_markModule.E laws_markModule.fn laws_markModule.enc (a0_0, l0_1, a1, ())
set_option maxRecDepth 100000 in
theorem laws_markModule.f_eq (a0_0 : Int) (l0_1 : List Int) (a1 : Int) : laws_markModule.f a0_0 l0_1 a1 = (laws_markInt64S.f l0_1 a1).bind fun t8 => some (t8.1, t8.2) := by kernel_rfl
noncomputable def laws_markModule.con : Con := ⟨laws_markModule.fn.ins, laws_markModule.fn.outs, Int × (List Int), fun x => laws_markModule.f x.1 x.2.1 x.2.2.1, fun r => ((r.1, ()), (r.2, ()))⟩
theorem laws_markModule.valid : Valid Try.prog 22 laws_markModule.con := fn_valid (f := laws_markModule.fn) (E := laws_markModule.E) (enc := laws_markModule.enc) ⟨ttOk, (conCons laws_markInt64S.valid conNil)⟩ (Checked.mixed Try.checked) ⟨Try.func22, by kernel_rfl, by kernel_rfl, by kernel_rfl, by kernel_rfl, by decide, by kernel_rfl, by kernel_rfl⟩ (fun _ => rfl)
end Go.Proofs.Ytlkdhmijgpadaaa.P
set_option linter.unusedVariables false
namespace Go.Proofs.Ytlkdhmijgpadaaa.P
open Go Go.RowKit Go.Proofs.Ytlkdhmijgpadaaa.D
noncomputable def laws_markCochain.E : Env := { tt := TT, con := [(24, laws_markInt64S.con)], frz := [], rows := [], live := [], n := 10, pin := 1, nils := [] }
noncomputable def laws_markCochain.fn : D.Fn := { body := Try.f23.body.getD .skip, res := Try.f23.results.toList, ins := [.agg [.v (.int .i64), .own 2 true (.int .i64)], .one (.v (.int .i64))], outs := [.one (.v (.int .i64))] }
def laws_markCochain.enc (y : lsd (flats laws_markCochain.fn.outs) × lsd (ios laws_markCochain.fn.ins)) : Int × (List Int) := (y.1.1, y.2.1)
noncomputable def laws_markCochain.f (a0_0 : Int) (l0_1 : List Int) (a1 : Int) : Option (Int × (List Int)) := denF laws_markCochain.E laws_markCochain.fn laws_markCochain.enc (a0_0, l0_1, a1, ())
set_option maxRecDepth 100000 in
theorem laws_markCochain.f_eq (a0_0 : Int) (l0_1 : List Int) (a1 : Int) : laws_markCochain.f a0_0 l0_1 a1 = (laws_markInt64S.f l0_1 a1).bind fun t8 => some (t8.1, t8.2) := by kernel_rfl
noncomputable def laws_markCochain.con : Con := ⟨laws_markCochain.fn.ins, laws_markCochain.fn.outs, Int × (List Int), fun x => laws_markCochain.f x.1 x.2.1 x.2.2.1, fun r => ((r.1, ()), (r.2, ()))⟩
theorem laws_markCochain.valid : Valid Try.prog 23 laws_markCochain.con := fn_valid (f := laws_markCochain.fn) (E := laws_markCochain.E) (enc := laws_markCochain.enc) ⟨ttOk, (conCons laws_markInt64S.valid conNil)⟩ (Checked.mixed Try.checked) ⟨Try.func23, by kernel_rfl, by kernel_rfl, by kernel_rfl, by kernel_rfl, by decide, by kernel_rfl, by kernel_rfl⟩ (fun _ => rfl)
end Go.Proofs.Ytlkdhmijgpadaaa.P
set_option linter.unusedVariables false
namespace Go.Proofs.Ytlkdhmijgpadaaa.P
open Go Go.RowKit Go.Proofs.Ytlkdhmijgpadaaa.D
noncomputable def laws_heldInt64S.E : Env := { tt := TT, con := [], frz := [], rows := [], live := [(2, [0, 1, 5])], n := 21, pin := 0, nils := [] }
noncomputable def laws_heldInt64S.fn : D.Fn := { body := Try.f25.body.getD .skip, res := Try.f25.results.toList, ins := [.one (.v (.sl 2 (.int .i64))), .one (.v (.int .i64))], outs := [.one (.v (.int .i64))] }
def laws_heldInt64S.enc (y : lsd (flats laws_heldInt64S.fn.outs) × lsd (ios laws_heldInt64S.fn.ins)) : Int := y.1.1
noncomputable def laws_heldInt64S.f (l0 : List Int) (a1 : Int) : Option Int := denF laws_heldInt64S.E laws_heldInt64S.fn laws_heldInt64S.enc (l0, a1, ())
noncomputable def laws_heldInt64S.l0 (x0 : List Int) (x1 : Int) (x5 : Int) : Option Int := denAt laws_heldInt64S.E laws_heldInt64S.fn laws_heldInt64S.enc [1, 0, 1, 0] { fr := [(0, .lf (.sl (.int .i64) x0)), (1, .lf (.int .i64 x1)), (5, .lf (.int .i64 x5))], ob := [], nx := 0 }
set_option maxRecDepth 100000 in
theorem laws_heldInt64S.f_eq (l0 : List Int) (a1 : Int) : laws_heldInt64S.f l0 a1 = laws_heldInt64S.l0 l0 a1 0 := by kernel_rfl
set_option maxRecDepth 100000 in
theorem laws_heldInt64S.l0_eq (x0 : List Int) (x1 : Int) (x5 : Int) : laws_heldInt64S.l0 x0 x1 x5 = if x5 < (x0.length : Int) then (if 0 ≤ x5 then (if x5 < (x0.length : Int) then (if (rd x0 x5) = x1 then (laws_heldInt64S.l0 x0 (wrapI (x1 + 1)) (wrapI (x5 + 1))) else (some (-1))) else none) else none) else (some x1) := (loop_unfold _ _ _ _).trans (by kernel_rfl)
noncomputable def laws_heldInt64S.con : Con := ⟨laws_heldInt64S.fn.ins, laws_heldInt64S.fn.outs, Int, fun x => laws_heldInt64S.f x.1 x.2.1, fun r => ((r, ()), (()))⟩
theorem laws_heldInt64S.valid : Valid Try.prog 25 laws_heldInt64S.con := fn_valid (f := laws_heldInt64S.fn) (E := laws_heldInt64S.E) (enc := laws_heldInt64S.enc) ⟨ttOk, conNil⟩ (Checked.mixed Try.checked) ⟨Try.func25, by kernel_rfl, by kernel_rfl, by kernel_rfl, by kernel_rfl, by decide, by kernel_rfl, by kernel_rfl⟩ (fun _ => rfl)
end Go.Proofs.Ytlkdhmijgpadaaa.P
set_option linter.unusedVariables false
namespace Go.Proofs.Ytlkdhmijgpadaaa.P
open Go Go.RowKit Go.Proofs.Ytlkdhmijgpadaaa.D
noncomputable def laws_FnExactOrdersOfExtension.E : Env := { tt := TT, con := [(9, laws_szGroup.con), (10, laws_szModule.con), (11, laws_szCochain.con), (13, laws_toGroup.con), (14, laws_toModule.con), (15, laws_toCochain.con), (12, spec_OrdersOfExtension.con), (16, impl_OrdersOfExtension.con), (17, laws_eqInt64S.con), (18, laws_eqGroup.con), (19, laws_eqModule.con), (20, laws_eqCochain.con), (21, laws_markGroup.con), (22, laws_markModule.con), (23, laws_markCochain.con), (24, laws_markInt64S.con), (25, laws_heldInt64S.con)], frz := [], rows := [], live := [], n := 142, pin := 0, nils := [] }
noncomputable def laws_FnExactOrdersOfExtension.fn : D.Fn := { body := Try.f3.body.getD .skip, res := Try.f3.results.toList, ins := [.agg [.v (.sl 25 (.sl 2 (.int .i64)))], .agg [.v (.int .i64), .v (.sl 2 (.int .i64))], .agg [.v (.int .i64), .v (.sl 2 (.int .i64))]], outs := [.one (.v .bool)] }
def laws_FnExactOrdersOfExtension.enc (y : lsd (flats laws_FnExactOrdersOfExtension.fn.outs) × lsd (ios laws_FnExactOrdersOfExtension.fn.ins)) : Bool := y.1.1
noncomputable def laws_FnExactOrdersOfExtension.f (l0_0 : List (List Int)) (a1_0 : Int) (l1_1 : List Int) (a2_0 : Int) (l2_1 : List Int) : Option Bool := denF laws_FnExactOrdersOfExtension.E laws_FnExactOrdersOfExtension.fn laws_FnExactOrdersOfExtension.enc (l0_0, a1_0, l1_1, a2_0, l2_1, ())
set_option maxRecDepth 100000 in
theorem laws_FnExactOrdersOfExtension.f_eq (l0_0 : List (List Int)) (a1_0 : Int) (l1_1 : List Int) (a2_0 : Int) (l2_1 : List Int) : laws_FnExactOrdersOfExtension.f l0_0 a1_0 l1_1 a2_0 l2_1 = (laws_szGroup.f l0_0 1048576).bind fun t22 => if t22 < 0 then (some true) else ((laws_szModule.f a1_0 l1_1 t22).bind fun t27 => if t27 < 0 then (some true) else ((laws_szCochain.f a2_0 l2_1 t27).bind fun t32 => if t32 < 0 then (some true) else ((laws_toGroup.f l0_0).bind fun t37 => (laws_toModule.f a1_0 l1_1).bind fun t39 => (laws_toCochain.f a2_0 l2_1).bind fun t41 => (spec_OrdersOfExtension.f t37 t39.1 t39.2 t41.1 t41.2).bind fun t42 => (laws_toGroup.f l0_0).bind fun t46 => (laws_toModule.f a1_0 l1_1).bind fun t48 => (laws_toCochain.f a2_0 l2_1).bind fun t50 => (impl_OrdersOfExtension.f t46 t48.1 t48.2 t50.1 t50.2).bind fun t55 => (laws_eqInt64S.f t55.1 t42.1).bind fun t60 => if t60 = true then (if t55.2 = t42.2 then ((laws_toGroup.f l0_0).bind fun t69 => (laws_eqGroup.f t46 t69).bind fun t70 => if t70 = true then ((laws_toModule.f a1_0 l1_1).bind fun t74 => (laws_eqModule.f t48.1 t48.2 t74.1 t74.2).bind fun t75 => if t75 = true then ((laws_toCochain.f a2_0 l2_1).bind fun t79 => (laws_eqCochain.f t50.1 t50.2 t79.1 t79.2).bind fun t80 => if t80 = true then ((laws_markGroup.f t46 1).bind fun t84 => (laws_markModule.f t48.1 t48.2 t84.1).bind fun t87 => (laws_markCochain.f t50.1 t50.2 t87.1).bind fun t90 => if t90.1 < 0 then (some false) else ((laws_eqInt64S.f t55.1 t42.1).bind fun t96 => if t96 = true then (if t55.2 = t42.2 then ((laws_markInt64S.f t55.1 1).bind fun t106 => (laws_heldInt64S.f t106.2 1).bind fun t109 => if t109 < 0 then (some false) else (if t109 = t106.1 then ((laws_toGroup.f l0_0).bind fun t117 => (laws_toModule.f a1_0 l1_1).bind fun t119 => (laws_toCochain.f a2_0 l2_1).bind fun t121 => (impl_OrdersOfExtension.f t117 t119.1 t119.2 t121.1 t121.2).bind fun t122 => (laws_eqInt64S.f t122.1 t42.1).bind fun t127 => if t127 = true then (if t122.2 = t42.2 then ((laws_heldInt64S.f t106.2 1).bind fun t136 => if t136 < 0 then (some false) else (if t136 = t106.1 then (some true) else (some false))) else (some false)) else (some false)) else (some false))) else (some false)) else (some false))) else (some false)) else (some false)) else (some false)) else (some false)) else (some false)))) := by kernel_rfl
noncomputable def laws_FnExactOrdersOfExtension.con : Con := ⟨laws_FnExactOrdersOfExtension.fn.ins, laws_FnExactOrdersOfExtension.fn.outs, Bool, fun x => laws_FnExactOrdersOfExtension.f x.1 x.2.1 x.2.2.1 x.2.2.2.1 x.2.2.2.2.1, fun r => ((r, ()), (()))⟩
theorem laws_FnExactOrdersOfExtension.valid : Valid Try.prog 3 laws_FnExactOrdersOfExtension.con := fn_valid (f := laws_FnExactOrdersOfExtension.fn) (E := laws_FnExactOrdersOfExtension.E) (enc := laws_FnExactOrdersOfExtension.enc) ⟨ttOk, (conCons laws_szGroup.valid (conCons laws_szModule.valid (conCons laws_szCochain.valid (conCons laws_toGroup.valid (conCons laws_toModule.valid (conCons laws_toCochain.valid (conCons spec_OrdersOfExtension.valid (conCons impl_OrdersOfExtension.valid (conCons laws_eqInt64S.valid (conCons laws_eqGroup.valid (conCons laws_eqModule.valid (conCons laws_eqCochain.valid (conCons laws_markGroup.valid (conCons laws_markModule.valid (conCons laws_markCochain.valid (conCons laws_markInt64S.valid (conCons laws_heldInt64S.valid conNil)))))))))))))))))⟩ (Checked.mixed Try.checked) ⟨Try.func3, by kernel_rfl, by kernel_rfl, by kernel_rfl, by kernel_rfl, by decide, by kernel_rfl, by kernel_rfl⟩ (fun _ => rfl)
end Go.Proofs.Ytlkdhmijgpadaaa.P
set_option linter.unusedVariables false
namespace Go.Proofs.Ytlkdhmijgpadaaa.P
open Go Go.RowKit Go.Proofs.Ytlkdhmijgpadaaa.D
end Go.Proofs.Ytlkdhmijgpadaaa.P
set_option linter.unusedVariables false
namespace Go.Proofs.Ytlkdhmijgpadaaa.P
open Go Go.RowKit Go.Proofs.Ytlkdhmijgpadaaa.D
end Go.Proofs.Ytlkdhmijgpadaaa.P
set_option linter.unusedVariables false
namespace Go.Proofs.Ytlkdhmijgpadaaa.P
open Go Go.RowKit Go.Proofs.Ytlkdhmijgpadaaa.D
end Go.Proofs.Ytlkdhmijgpadaaa.P
