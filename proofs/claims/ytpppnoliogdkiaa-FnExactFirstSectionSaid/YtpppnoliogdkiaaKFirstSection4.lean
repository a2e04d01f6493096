/- What the proof of the law FirstSection stands on, part 4: words, each Go function's Lean function, and that the Go code comes to its answers; no condition. (Packed by wip/myprint/pack.py out of what the kit's printer wrote, its words among it, partly by our patches of it, and out of texts of this session.) -/
import Derived.ChangeSlices
import Derived.ChangeSame
import Derived.Deep.Matrix
import Derived.Lib.SmallJoins
import Derived.Test.YtpppnoliogdkiaaKFirstSection3
set_option linter.unusedVariables false
namespace Go.Proofs.Ytpppnoliogdkiaa.P
open Go Go.RowKit Go.Proofs.Ytpppnoliogdkiaa.D
noncomputable def spec_l01Is.E : Env := { tt := TT, con := [(125, spec_l01In.con)], frz := [], rows := [], live := [(5, [1, 3, 4]), (10, [1, 3, 4, 5]), (15, [1, 3, 6]), (21, [1, 3, 6, 7, 8]), (25, [1, 3, 6, 7, 8, 9])], n := 137, pin := 0, nils := [7] }
noncomputable def spec_l01Is.fn : D.Fn := { body := Try.f116.body.getD .skip, res := Try.f116.results.toList, ins := [.agg [.v (.sl 25 (.sl 2 (.int .i64)))]], outs := [.one (.v .bool)] }
def spec_l01Is.enc (y : lsd (flats spec_l01Is.fn.outs) × lsd (ios spec_l01Is.fn.ins)) : Bool := y.1.1
noncomputable def spec_l01Is.f (l0_0 : List (List Int)) : Option Bool := denF spec_l01Is.E spec_l01Is.fn spec_l01Is.enc (l0_0, ())
noncomputable def spec_l01Is.l0 (x3 : Int) (x4 : Int) (b0_0 : List (List Int)) : Option Bool := denAt spec_l01Is.E spec_l01Is.fn spec_l01Is.enc [1, 1, 1, 0, 1, 0] { fr := [(1, .lf (.box 0 0)), (3, .lf (.int .i64 x3)), (4, .lf (.int .i64 x4))], ob := [(0, .box 32 false [.sl (.sl 2 (.int .i64)) b0_0])], nx := 1 }
noncomputable def spec_l01Is.l1 (x3 : Int) (x4 : Int) (x5 : Int) (b0_0 : List (List Int)) : Option Bool := denAt spec_l01Is.E spec_l01Is.fn spec_l01Is.enc [1, 1, 1, 0, 1, 0, 0, 1, 0, 0, 1, 1, 0] { fr := [(1, .lf (.box 0 0)), (3, .lf (.int .i64 x3)), (4, .lf (.int .i64 x4)), (5, .lf (.int .i64 x5))], ob := [(0, .box 32 false [.sl (.sl 2 (.int .i64)) b0_0])], nx := 1 }
noncomputable def spec_l01Is.l2 (x3 : Int) (x6 : Int) (b0_0 : List (List Int)) : Option Bool := denAt spec_l01Is.E spec_l01Is.fn spec_l01Is.enc [1, 1, 1, 1, 0, 1, 0] { fr := [(1, .lf (.box 0 0)), (3, .lf (.int .i64 x3)), (6, .lf (.int .i64 x6))], ob := [(0, .box 32 false [.sl (.sl 2 (.int .i64)) b0_0])], nx := 1 }
noncomputable def spec_l01Is.l3 (x3 : Int) (x6 : Int) (x7 : Bool) (x8 : Int) (b0_0 : List (List Int)) : Option Bool := denAt spec_l01Is.E spec_l01Is.fn spec_l01Is.enc [1, 1, 1, 1, 0, 1, 0, 0, 1, 0, 0, 1, 1, 0, 1, 0] { fr := [(1, .lf (.box 0 0)), (3, .lf (.int .i64 x3)), (6, .lf (.int .i64 x6)), (7, .lf (boolLf x7)), (8, .lf (.int .i64 x8))], ob := [(0, .box 32 false [.sl (.sl 2 (.int .i64)) b0_0])], nx := 1 }
noncomputable def spec_l01Is.l4 (x3 : Int) (x6 : Int) (x7 : Bool) (x8 : Int) (x9 : Int) (b0_0 : List (List Int)) : Option Bool := denAt spec_l01Is.E spec_l01Is.fn spec_l01Is.enc [1, 1, 1, 1, 0, 1, 0, 0, 1, 0, 0, 1, 1, 0, 1, 0, 0, 1, 0, 0, 1, 1, 0] { fr := [(1, .lf (.box 0 0)), (3, .lf (.int .i64 x3)), (6, .lf (.int .i64 x6)), (7, .lf (boolLf x7)), (8, .lf (.int .i64 x8)), (9, .lf (.int .i64 x9))], ob := [(0, .box 32 false [.sl (.sl 2 (.int .i64)) b0_0])], nx := 1 }
set_option maxRecDepth 100000 in
theorem spec_l01Is.f_eq (l0_0 : List (List Int)) : spec_l01Is.f l0_0 = (spec_l01In.f (l0_0.length : Int) 1 8).bind fun t14 => if t14 = true then (spec_l01Is.l0 (l0_0.length : Int) 0 l0_0) else (some false) := by kernel_rfl
set_option maxRecDepth 100000 in
theorem spec_l01Is.l0_eq (x3 : Int) (x4 : Int) (b0_0 : List (List Int)) : spec_l01Is.l0 x3 x4 b0_0 = if x4 < x3 then (if 0 ≤ x4 then (if x4 < (b0_0.length : Int) then (if ((row b0_0 x4).length : Int) = x3 then (spec_l01Is.l1 x3 x4 0 b0_0) else (some false)) else none) else none) else (spec_l01Is.l2 x3 0 b0_0) := (loop_unfold _ _ _ _).trans (by kernel_rfl)
set_option maxRecDepth 100000 in
theorem spec_l01Is.l1_eq (x3 : Int) (x4 : Int) (x5 : Int) (b0_0 : List (List Int)) : spec_l01Is.l1 x3 x4 x5 b0_0 = if x5 < x3 then (if 0 ≤ x4 then (if x4 < (b0_0.length : Int) then (if 0 ≤ x5 then (if x5 < ((row b0_0 x4).length : Int) then ((spec_l01In.f (T b0_0 x4 x5) 0 (wrapI (x3 - 1))).bind fun t44 => if t44 = true then (spec_l01Is.l1 x3 x4 (wrapI (x5 + 1)) b0_0) else (some false)) else none) else none) else none) else none) else (spec_l01Is.l0 x3 (wrapI (x4 + 1)) b0_0) := (loop_unfold _ _ _ _).trans (by kernel_rfl)
set_option maxRecDepth 100000 in
theorem spec_l01Is.l2_eq (x3 : Int) (x6 : Int) (b0_0 : List (List Int)) : spec_l01Is.l2 x3 x6 b0_0 = if x6 < x3 then (if 0 < (b0_0.length : Int) then (if 0 ≤ x6 then (if x6 < ((row b0_0 0).length : Int) then (if (T b0_0 0 x6) = x6 then (if 0 ≤ x6 then (if x6 < (b0_0.length : Int) then (if 0 < ((row b0_0 x6).length : Int) then (if (T b0_0 x6 0) = x6 then (spec_l01Is.l3 x3 x6 false 0 b0_0) else (some false)) else none) else none) else none) else (some false)) else none) else none) else none) else (some true) := (loop_unfold _ _ _ _).trans (by kernel_rfl)
set_option maxRecDepth 100000 in
theorem spec_l01Is.l3_eq (x3 : Int) (x6 : Int) (x7 : Bool) (x8 : Int) (b0_0 : List (List Int)) : spec_l01Is.l3 x3 x6 x7 x8 b0_0 = if x8 < x3 then (if x7 = true then (spec_l01Is.l4 x3 x6 true x8 0 b0_0) else (if 0 ≤ x6 then (if x6 < (b0_0.length : Int) then (if 0 ≤ x8 then (if x8 < ((row b0_0 x6).length : Int) then (if (T b0_0 x6 x8) = 0 then (if 0 ≤ x8 then (if x8 < (b0_0.length : Int) then (if 0 ≤ x6 then (if x6 < ((row b0_0 x8).length : Int) then (spec_l01Is.l4 x3 x6 (decide ((T b0_0 x8 x6) = 0)) x8 0 b0_0) else none) else none) else none) else none) else (spec_l01Is.l4 x3 x6 false x8 0 b0_0)) else none) else none) else none) else none)) else (if x7 = true then (spec_l01Is.l2 x3 (wrapI (x6 + 1)) b0_0) else (some false)) := (loop_unfold _ _ _ _).trans (by kernel_rfl)
set_option maxRecDepth 100000 in
theorem spec_l01Is.l4_eq (x3 : Int) (x6 : Int) (x7 : Bool) (x8 : Int) (x9 : Int) (b0_0 : List (List Int)) : spec_l01Is.l4 x3 x6 x7 x8 x9 b0_0 = if x9 < x3 then (if 0 ≤ x6 then (if x6 < (b0_0.length : Int) then (if 0 ≤ x8 then (if x8 < ((row b0_0 x6).length : Int) then (if 0 ≤ T b0_0 x6 x8 then (if T b0_0 x6 x8 < (b0_0.length : Int) then (if 0 ≤ x9 then (if x9 < ((row b0_0 (T b0_0 x6 x8)).length : Int) then (if 0 ≤ x6 then (if x6 < (b0_0.length : Int) then (if 0 ≤ x8 then (if x8 < (b0_0.length : Int) then (if 0 ≤ x9 then (if x9 < ((row b0_0 x8).length : Int) then (if 0 ≤ T b0_0 x8 x9 then (if T b0_0 x8 x9 < ((row b0_0 x6).length : Int) then (if (T b0_0 (T b0_0 x6 x8) x9) = (T b0_0 x6 (T b0_0 x8 x9)) then (spec_l01Is.l4 x3 x6 x7 x8 (wrapI (x9 + 1)) b0_0) else (some false)) else none) else none) else none) else none) else none) else none) else none) else none) else none) else none) else none) else none) else none) else none) else none) else none) else (spec_l01Is.l3 x3 x6 x7 (wrapI (x8 + 1)) b0_0) := (loop_unfold _ _ _ _).trans (by kernel_rfl)
noncomputable def spec_l01Is.con : Con := ⟨spec_l01Is.fn.ins, spec_l01Is.fn.outs, Bool, fun x => spec_l01Is.f x.1, fun r => ((r, ()), (()))⟩
theorem spec_l01Is.valid : Valid Try.prog 116 spec_l01Is.con := fn_valid (f := spec_l01Is.fn) (E := spec_l01Is.E) (enc := spec_l01Is.enc) ⟨ttOk, (conCons spec_l01In.valid conNil)⟩ (Checked.mixed Try.checked) ⟨Try.func116, by kernel_rfl, by kernel_rfl, by kernel_rfl, by kernel_rfl, by decide, by kernel_rfl, by kernel_rfl⟩ (fun _ => rfl)
end Go.Proofs.Ytpppnoliogdkiaa.P
set_option linter.unusedVariables false
namespace Go.Proofs.Ytpppnoliogdkiaa.P
open Go Go.RowKit Go.Proofs.Ytpppnoliogdkiaa.D
noncomputable def spec_l01Gcd.E : Env := { tt := TT, con := [], frz := [], rows := [], live := [(1, [0, 1])], n := 17, pin := 0, nils := [] }
noncomputable def spec_l01Gcd.fn : D.Fn := { body := Try.f163.body.getD .skip, res := Try.f163.results.toList, ins := [.one (.v (.int .i64)), .one (.v (.int .i64))], outs := [.one (.v (.int .i64))] }
def spec_l01Gcd.enc (y : lsd (flats spec_l01Gcd.fn.outs) × lsd (ios spec_l01Gcd.fn.ins)) : Int := y.1.1
noncomputable def spec_l01Gcd.f (a0 : Int) (a1 : Int) : Option Int := denF spec_l01Gcd.E spec_l01Gcd.fn spec_l01Gcd.enc (a0, a1, ())
noncomputable def spec_l01Gcd.l0 (x0 : Int) (x1 : Int) : Option Int := denAt spec_l01Gcd.E spec_l01Gcd.fn spec_l01Gcd.enc [1, 0, 0] { fr := [(0, .lf (.int .i64 x0)), (1, .lf (.int .i64 x1))], ob := [], nx := 0 }
set_option maxRecDepth 100000 in
theorem spec_l01Gcd.f_eq (a0 : Int) (a1 : Int) : spec_l01Gcd.f a0 a1 = spec_l01Gcd.l0 a0 a1 := by kernel_rfl
set_option maxRecDepth 100000 in
theorem spec_l01Gcd.l0_eq (x0 : Int) (x1 : Int) : spec_l01Gcd.l0 x0 x1 = if x1 = 0 then (some (if (wrapI (0 - x0)) > x0 then (wrapI (0 - x0)) else x0)) else (if x1 = 0 then none else (spec_l01Gcd.l0 x1 ((x0 : Int).tmod x1))) := (loop_unfold _ _ _ _).trans (by kernel_rfl)
noncomputable def spec_l01Gcd.con : Con := ⟨spec_l01Gcd.fn.ins, spec_l01Gcd.fn.outs, Int, fun x => spec_l01Gcd.f x.1 x.2.1, fun r => ((r, ()), (()))⟩
theorem spec_l01Gcd.valid : Valid Try.prog 163 spec_l01Gcd.con := fn_valid (f := spec_l01Gcd.fn) (E := spec_l01Gcd.E) (enc := spec_l01Gcd.enc) ⟨ttOk, conNil⟩ (Checked.mixed Try.checked) ⟨Try.func163, by kernel_rfl, by kernel_rfl, by kernel_rfl, by kernel_rfl, by decide, by kernel_rfl, by kernel_rfl⟩ (fun _ => rfl)
end Go.Proofs.Ytpppnoliogdkiaa.P
set_option linter.unusedVariables false
namespace Go.Proofs.Ytpppnoliogdkiaa.P
open Go Go.RowKit Go.Proofs.Ytpppnoliogdkiaa.D
noncomputable def spec_l02Is.E : Env := { tt := TT, con := [(125, spec_l01In.con), (163, spec_l01Gcd.con)], frz := [], rows := [], live := [(4, [2, 3, 5]), (9, [2, 3, 6]), (12, [2, 3, 6, 7])], n := 90, pin := 0, nils := [] }
noncomputable def spec_l02Is.fn : D.Fn := { body := Try.f117.body.getD .skip, res := Try.f117.results.toList, ins := [.agg [.v (.sl 25 (.sl 2 (.int .i64)))], .agg [.v (.int .i64), .v (.sl 2 (.int .i64))]], outs := [.one (.v .bool)] }
def spec_l02Is.enc (y : lsd (flats spec_l02Is.fn.outs) × lsd (ios spec_l02Is.fn.ins)) : Bool := y.1.1
noncomputable def spec_l02Is.f (l0_0 : List (List Int)) (a1_0 : Int) (l1_1 : List Int) : Option Bool := denF spec_l02Is.E spec_l02Is.fn spec_l02Is.enc (l0_0, a1_0, l1_1, ())
noncomputable def spec_l02Is.l0 (x5 : Int) (b0_0 : List (List Int)) (b1_0 : Int) (b1_1 : List Int) : Option Bool := denAt spec_l02Is.E spec_l02Is.fn spec_l02Is.enc [1, 1, 0, 1, 0] { fr := [(2, .lf (.box 0 0)), (3, .lf (.box 1 0)), (5, .lf (.int .i64 x5))], ob := [(0, .box 32 false [.sl (.sl 2 (.int .i64)) b0_0]), (1, .box 34 false [.int .i64 b1_0, .sl (.int .i64) b1_1])], nx := 2 }
noncomputable def spec_l02Is.l1 (x6 : Int) (b0_0 : List (List Int)) (b1_0 : Int) (b1_1 : List Int) : Option Bool := denAt spec_l02Is.E spec_l02Is.fn spec_l02Is.enc [1, 1, 1, 0, 1, 0] { fr := [(2, .lf (.box 0 0)), (3, .lf (.box 1 0)), (6, .lf (.int .i64 x6))], ob := [(0, .box 32 false [.sl (.sl 2 (.int .i64)) b0_0]), (1, .box 34 false [.int .i64 b1_0, .sl (.int .i64) b1_1])], nx := 2 }
noncomputable def spec_l02Is.l2 (x6 : Int) (x7 : Int) (b0_0 : List (List Int)) (b1_0 : Int) (b1_1 : List Int) : Option Bool := denAt spec_l02Is.E spec_l02Is.fn spec_l02Is.enc [1, 1, 1, 0, 1, 0, 0, 1, 0, 0, 1, 0] { fr := [(2, .lf (.box 0 0)), (3, .lf (.box 1 0)), (6, .lf (.int .i64 x6)), (7, .lf (.int .i64 x7))], ob := [(0, .box 32 false [.sl (.sl 2 (.int .i64)) b0_0]), (1, .box 34 false [.int .i64 b1_0, .sl (.int .i64) b1_1])], nx := 2 }
set_option maxRecDepth 100000 in
theorem spec_l02Is.f_eq (l0_0 : List (List Int)) (a1_0 : Int) (l1_1 : List Int) : spec_l02Is.f l0_0 a1_0 l1_1 = (spec_l01In.f a1_0 2 12).bind fun t10 => if t10 = true then (if (l1_1.length : Int) = (l0_0.length : Int) then (spec_l02Is.l0 0 l0_0 a1_0 l1_1) else (some false)) else (some false) := by kernel_rfl
set_option maxRecDepth 100000 in
theorem spec_l02Is.l0_eq (x5 : Int) (b0_0 : List (List Int)) (b1_0 : Int) (b1_1 : List Int) : spec_l02Is.l0 x5 b0_0 b1_0 b1_1 = if x5 < (b1_1.length : Int) then (if 0 ≤ x5 then (if x5 < (b1_1.length : Int) then ((spec_l01In.f (rd b1_1 x5) 1 (wrapI (b1_0 - 1))).bind fun t36 => if t36 = true then (if 0 ≤ x5 then (if x5 < (b1_1.length : Int) then ((spec_l01Gcd.f (rd b1_1 x5) b1_0).bind fun t46 => if t46 = 1 then (spec_l02Is.l0 (wrapI (x5 + 1)) b0_0 b1_0 b1_1) else (some false)) else none) else none) else (some false)) else none) else none) else (spec_l02Is.l1 0 b0_0 b1_0 b1_1) := (loop_unfold _ _ _ _).trans (by kernel_rfl)
set_option maxRecDepth 100000 in
theorem spec_l02Is.l1_eq (x6 : Int) (b0_0 : List (List Int)) (b1_0 : Int) (b1_1 : List Int) : spec_l02Is.l1 x6 b0_0 b1_0 b1_1 = if x6 < (b1_1.length : Int) then (spec_l02Is.l2 x6 0 b0_0 b1_0 b1_1) else (some true) := (loop_unfold _ _ _ _).trans (by kernel_rfl)
set_option maxRecDepth 100000 in
theorem spec_l02Is.l2_eq (x6 : Int) (x7 : Int) (b0_0 : List (List Int)) (b1_0 : Int) (b1_1 : List Int) : spec_l02Is.l2 x6 x7 b0_0 b1_0 b1_1 = if x7 < (b1_1.length : Int) then (if 0 ≤ x6 then (if x6 < (b0_0.length : Int) then (if 0 ≤ x7 then (if x7 < ((row b0_0 x6).length : Int) then (if 0 ≤ T b0_0 x6 x7 then (if T b0_0 x6 x7 < (b1_1.length : Int) then (if 0 ≤ x6 then (if x6 < (b1_1.length : Int) then (if 0 ≤ x7 then (if x7 < (b1_1.length : Int) then (if b1_0 = 0 then none else (if (rd b1_1 (T b0_0 x6 x7)) = ((wrapI ((rd b1_1 x6) * (rd b1_1 x7)) : Int).tmod b1_0) then (spec_l02Is.l2 x6 (wrapI (x7 + 1)) b0_0 b1_0 b1_1) else (some false))) else none) else none) else none) else none) else none) else none) else none) else none) else none) else none) else (spec_l02Is.l1 (wrapI (x6 + 1)) b0_0 b1_0 b1_1) := (loop_unfold _ _ _ _).trans (by kernel_rfl)
noncomputable def spec_l02Is.con : Con := ⟨spec_l02Is.fn.ins, spec_l02Is.fn.outs, Bool, fun x => spec_l02Is.f x.1 x.2.1 x.2.2.1, fun r => ((r, ()), (()))⟩
theorem spec_l02Is.valid : Valid Try.prog 117 spec_l02Is.con := fn_valid (f := spec_l02Is.fn) (E := spec_l02Is.E) (enc := spec_l02Is.enc) ⟨ttOk, (conCons spec_l01In.valid (conCons spec_l01Gcd.valid conNil))⟩ (Checked.mixed Try.checked) ⟨Try.func117, by kernel_rfl, by kernel_rfl, by kernel_rfl, by kernel_rfl, by decide, by kernel_rfl, by kernel_rfl⟩ (fun _ => rfl)
end Go.Proofs.Ytpppnoliogdkiaa.P
set_option linter.unusedVariables false
namespace Go.Proofs.Ytpppnoliogdkiaa.P
open Go Go.RowKit Go.Proofs.Ytpppnoliogdkiaa.D
noncomputable def spec_l01N.E : Env := { tt := TT, con := [], frz := [], rows := [], live := [], n := 6, pin := 0, nils := [] }
noncomputable def spec_l01N.fn : D.Fn := { body := Try.f131.body.getD .skip, res := Try.f131.results.toList, ins := [.agg [.v (.sl 25 (.sl 2 (.int .i64)))]], outs := [.one (.v (.int .i64))] }
def spec_l01N.enc (y : lsd (flats spec_l01N.fn.outs) × lsd (ios spec_l01N.fn.ins)) : Int := y.1.1
noncomputable def spec_l01N.f (l0_0 : List (List Int)) : Option Int := denF spec_l01N.E spec_l01N.fn spec_l01N.enc (l0_0, ())
set_option maxRecDepth 100000 in
theorem spec_l01N.f_eq (l0_0 : List (List Int)) : spec_l01N.f l0_0 = some (l0_0.length : Int) := by kernel_rfl
noncomputable def spec_l01N.con : Con := ⟨spec_l01N.fn.ins, spec_l01N.fn.outs, Int, fun x => spec_l01N.f x.1, fun r => ((r, ()), (()))⟩
theorem spec_l01N.valid : Valid Try.prog 131 spec_l01N.con := fn_valid (f := spec_l01N.fn) (E := spec_l01N.E) (enc := spec_l01N.enc) ⟨ttOk, conNil⟩ (Checked.mixed Try.checked) ⟨Try.func131, by kernel_rfl, by kernel_rfl, by kernel_rfl, by kernel_rfl, by decide, by kernel_rfl, by kernel_rfl⟩ (fun _ => rfl)
end Go.Proofs.Ytpppnoliogdkiaa.P
set_option linter.unusedVariables false
namespace Go.Proofs.Ytpppnoliogdkiaa.P
open Go Go.RowKit Go.Proofs.Ytpppnoliogdkiaa.D
noncomputable def spec_l03Cells.E : Env := { tt := TT, con := [(131, spec_l01N.con)], frz := [], rows := [], live := [(2, [1, 2, 5])], n := 16, pin := 0, nils := [] }
noncomputable def spec_l03Cells.fn : D.Fn := { body := Try.f126.body.getD .skip, res := Try.f126.results.toList, ins := [.agg [.v (.sl 25 (.sl 2 (.int .i64)))], .one (.v (.int .i64))], outs := [.one (.v (.int .i64))] }
def spec_l03Cells.enc (y : lsd (flats spec_l03Cells.fn.outs) × lsd (ios spec_l03Cells.fn.ins)) : Int := y.1.1
noncomputable def spec_l03Cells.f (l0_0 : List (List Int)) (a1 : Int) : Option Int := denF spec_l03Cells.E spec_l03Cells.fn spec_l03Cells.enc (l0_0, a1, ())
noncomputable def spec_l03Cells.l0 (x1 : Int) (x5 : Int) (b0_0 : List (List Int)) : Option Int := denAt spec_l03Cells.E spec_l03Cells.fn spec_l03Cells.enc [1, 1, 0, 0] { fr := [(1, .lf (.int .i64 x1)), (2, .lf (.box 0 0)), (5, .lf (.int .i64 x5))], ob := [(0, .box 32 false [.sl (.sl 2 (.int .i64)) b0_0])], nx := 1 }
set_option maxRecDepth 100000 in
theorem spec_l03Cells.f_eq (l0_0 : List (List Int)) (a1 : Int) : spec_l03Cells.f l0_0 a1 = spec_l03Cells.l0 a1 1 l0_0 := by kernel_rfl
set_option maxRecDepth 100000 in
theorem spec_l03Cells.l0_eq (x1 : Int) (x5 : Int) (b0_0 : List (List Int)) : spec_l03Cells.l0 x1 x5 b0_0 = if x1 > 0 then ((spec_l01N.f b0_0).bind fun t12 => spec_l03Cells.l0 (wrapI (x1 - 1)) (wrapI (x5 * (wrapI (t12 - 1)))) b0_0) else (some x5) := (loop_unfold _ _ _ _).trans (by kernel_rfl)
noncomputable def spec_l03Cells.con : Con := ⟨spec_l03Cells.fn.ins, spec_l03Cells.fn.outs, Int, fun x => spec_l03Cells.f x.1 x.2.1, fun r => ((r, ()), (()))⟩
theorem spec_l03Cells.valid : Valid Try.prog 126 spec_l03Cells.con := fn_valid (f := spec_l03Cells.fn) (E := spec_l03Cells.E) (enc := spec_l03Cells.enc) ⟨ttOk, (conCons spec_l01N.valid conNil)⟩ (Checked.mixed Try.checked) ⟨Try.func126, by kernel_rfl, by kernel_rfl, by kernel_rfl, by kernel_rfl, by decide, by kernel_rfl, by kernel_rfl⟩ (fun _ => rfl)
end Go.Proofs.Ytpppnoliogdkiaa.P
set_option linter.unusedVariables false
namespace Go.Proofs.Ytpppnoliogdkiaa.P
open Go Go.RowKit Go.Proofs.Ytpppnoliogdkiaa.D
noncomputable def spec_l03Is.E : Env := { tt := TT, con := [(125, spec_l01In.con), (126, spec_l03Cells.con)], frz := [], rows := [], live := [(4, [4, 5, 7])], n := 39, pin := 0, nils := [] }
noncomputable def spec_l03Is.fn : D.Fn := { body := Try.f160.body.getD .skip, res := Try.f160.results.toList, ins := [.agg [.v (.sl 25 (.sl 2 (.int .i64)))], .agg [.v (.int .i64), .v (.sl 2 (.int .i64))], .agg [.v (.int .i64), .v (.sl 2 (.int .i64))]], outs := [.one (.v .bool)] }
def spec_l03Is.enc (y : lsd (flats spec_l03Is.fn.outs) × lsd (ios spec_l03Is.fn.ins)) : Bool := y.1.1
noncomputable def spec_l03Is.f (l0_0 : List (List Int)) (a1_0 : Int) (l1_1 : List Int) (a2_0 : Int) (l2_1 : List Int) : Option Bool := denF spec_l03Is.E spec_l03Is.fn spec_l03Is.enc (l0_0, a1_0, l1_1, a2_0, l2_1, ())
noncomputable def spec_l03Is.l0 (x7 : Int) (b0_0 : Int) (b0_1 : List Int) (b1_0 : Int) (b1_1 : List Int) : Option Bool := denAt spec_l03Is.E spec_l03Is.fn spec_l03Is.enc [1, 1, 0, 1, 0] { fr := [(4, .lf (.box 0 0)), (5, .lf (.box 1 0)), (7, .lf (.int .i64 x7))], ob := [(0, .box 34 false [.int .i64 b0_0, .sl (.int .i64) b0_1]), (1, .box 48 false [.int .i64 b1_0, .sl (.int .i64) b1_1])], nx := 2 }
set_option maxRecDepth 100000 in
theorem spec_l03Is.f_eq (l0_0 : List (List Int)) (a1_0 : Int) (l1_1 : List Int) (a2_0 : Int) (l2_1 : List Int) : spec_l03Is.f l0_0 a1_0 l1_1 a2_0 l2_1 = (spec_l01In.f a2_0 0 3).bind fun t10 => if t10 = true then ((spec_l03Cells.f l0_0 a2_0).bind fun t19 => if (l2_1.length : Int) = t19 then (spec_l03Is.l0 0 a1_0 l1_1 a2_0 l2_1) else (some false)) else (some false) := by kernel_rfl
set_option maxRecDepth 100000 in
theorem spec_l03Is.l0_eq (x7 : Int) (b0_0 : Int) (b0_1 : List Int) (b1_0 : Int) (b1_1 : List Int) : spec_l03Is.l0 x7 b0_0 b0_1 b1_0 b1_1 = if x7 < (b1_1.length : Int) then (if 0 ≤ x7 then (if x7 < (b1_1.length : Int) then ((spec_l01In.f (rd b1_1 x7) 0 (wrapI (b0_0 - 1))).bind fun t37 => if t37 = true then (spec_l03Is.l0 (wrapI (x7 + 1)) b0_0 b0_1 b1_0 b1_1) else (some false)) else none) else none) else (some true) := (loop_unfold _ _ _ _).trans (by kernel_rfl)
noncomputable def spec_l03Is.con : Con := ⟨spec_l03Is.fn.ins, spec_l03Is.fn.outs, Bool, fun x => spec_l03Is.f x.1 x.2.1 x.2.2.1 x.2.2.2.1 x.2.2.2.2.1, fun r => ((r, ()), (()))⟩
theorem spec_l03Is.valid : Valid Try.prog 160 spec_l03Is.con := fn_valid (f := spec_l03Is.fn) (E := spec_l03Is.E) (enc := spec_l03Is.enc) ⟨ttOk, (conCons spec_l01In.valid (conCons spec_l03Cells.valid conNil))⟩ (Checked.mixed Try.checked) ⟨Try.func160, by kernel_rfl, by kernel_rfl, by kernel_rfl, by kernel_rfl, by decide, by kernel_rfl, by kernel_rfl⟩ (fun _ => rfl)
end Go.Proofs.Ytpppnoliogdkiaa.P
set_option linter.unusedVariables false
namespace Go.Proofs.Ytpppnoliogdkiaa.P
open Go Go.RowKit Go.Proofs.Ytpppnoliogdkiaa.D
noncomputable def spec_l03Code.E : Env := { tt := TT, con := [(116, spec_l01Is.con), (117, spec_l02Is.con), (160, spec_l03Is.con)], frz := [], rows := [], live := [(4, [2, 3, 4, 7])], n := 31, pin := 0, nils := [] }
noncomputable def spec_l03Code.fn : D.Fn := { body := Try.f113.body.getD .skip, res := Try.f113.results.toList, ins := [.agg [.v (.sl 25 (.sl 2 (.int .i64)))], .agg [.v (.int .i64), .v (.sl 2 (.int .i64))], .one (.v (.sl 48 (.pr (.int .i64) (.sl 2 (.int .i64)))))], outs := [.one (.v (.int .i64))] }
def spec_l03Code.enc (y : lsd (flats spec_l03Code.fn.outs) × lsd (ios spec_l03Code.fn.ins)) : Int := y.1.1
noncomputable def spec_l03Code.f (l0_0 : List (List Int)) (a1_0 : Int) (l1_1 : List Int) (l2 : List (Int × (List Int))) : Option Int := denF spec_l03Code.E spec_l03Code.fn spec_l03Code.enc (l0_0, a1_0, l1_1, l2, ())
noncomputable def spec_l03Code.l0 (x2 : List (Int × (List Int))) (x7 : Int) (b0_0 : List (List Int)) (b1_0 : Int) (b1_1 : List Int) : Option Int := denAt spec_l03Code.E spec_l03Code.fn spec_l03Code.enc [1, 1, 0, 1, 0] { fr := [(2, .lf (.sl (.pr (.int .i64) (.sl 2 (.int .i64))) x2)), (3, .lf (.box 0 0)), (4, .lf (.box 1 0)), (7, .lf (.int .i64 x7))], ob := [(0, .box 32 false [.sl (.sl 2 (.int .i64)) b0_0]), (1, .box 34 false [.int .i64 b1_0, .sl (.int .i64) b1_1])], nx := 2 }
set_option maxRecDepth 100000 in
theorem spec_l03Code.f_eq (l0_0 : List (List Int)) (a1_0 : Int) (l1_1 : List Int) (l2 : List (Int × (List Int))) : spec_l03Code.f l0_0 a1_0 l1_1 l2 = (spec_l01Is.f l0_0).bind fun t9 => if t9 = true then ((spec_l02Is.f l0_0 a1_0 l1_1).bind fun t14 => if t14 = true then (spec_l03Code.l0 l2 0 l0_0 a1_0 l1_1) else (some 1)) else (some 1) := by kernel_rfl
set_option maxRecDepth 100000 in
theorem spec_l03Code.l0_eq (x2 : List (Int × (List Int))) (x7 : Int) (b0_0 : List (List Int)) (b1_0 : Int) (b1_1 : List Int) : spec_l03Code.l0 x2 x7 b0_0 b1_0 b1_1 = if x7 < (x2.length : Int) then (if 0 ≤ x7 then (if x7 < (x2.length : Int) then ((spec_l03Is.f b0_0 b1_0 b1_1 ((Ty.rd (.pr (.int .i64) (.sl 2 (.int .i64))) x2 x7).1) ((Ty.rd (.pr (.int .i64) (.sl 2 (.int .i64))) x2 x7).2)).bind fun t29 => if t29 = true then (spec_l03Code.l0 x2 (wrapI (x7 + 1)) b0_0 b1_0 b1_1) else (some 1)) else none) else none) else (some 0) := (loop_unfold _ _ _ _).trans (by kernel_rfl)
noncomputable def spec_l03Code.con : Con := ⟨spec_l03Code.fn.ins, spec_l03Code.fn.outs, Int, fun x => spec_l03Code.f x.1 x.2.1 x.2.2.1 x.2.2.2.1, fun r => ((r, ()), (()))⟩
theorem spec_l03Code.valid : Valid Try.prog 113 spec_l03Code.con := fn_valid (f := spec_l03Code.fn) (E := spec_l03Code.E) (enc := spec_l03Code.enc) ⟨ttOk, (conCons spec_l01Is.valid (conCons spec_l02Is.valid (conCons spec_l03Is.valid conNil)))⟩ (Checked.mixed Try.checked) ⟨Try.func113, by kernel_rfl, by kernel_rfl, by kernel_rfl, by kernel_rfl, by decide, by kernel_rfl, by kernel_rfl⟩ (fun _ => rfl)
end Go.Proofs.Ytpppnoliogdkiaa.P
set_option linter.unusedVariables false
namespace Go.Proofs.Ytpppnoliogdkiaa.P
open Go Go.RowKit Go.Proofs.Ytpppnoliogdkiaa.D
noncomputable def spec_l01Own.E : Env := { tt := TT, con := [], frz := [], rows := [], live := [], n := 6, pin := 0, nils := [] }
noncomputable def spec_l01Own.fn : D.Fn := { body := Try.f96.body.getD .skip, res := Try.f96.results.toList, ins := [.one (.v (.sl 2 (.int .i64)))], outs := [.one (.own 2 true (.int .i64))] }
def spec_l01Own.enc (y : lsd (flats spec_l01Own.fn.outs) × lsd (ios spec_l01Own.fn.ins)) : (List Int) := y.1.1
noncomputable def spec_l01Own.f (l0 : List Int) : Option (List Int) := denF spec_l01Own.E spec_l01Own.fn spec_l01Own.enc (l0, ())
set_option maxRecDepth 100000 in
theorem spec_l01Own.f_eq (l0 : List Int) : spec_l01Own.f l0 = if ([] : List Int).length + l0.length ≤ 17592186044416 then (some (([] : List Int) ++ l0)) else none := by kernel_rfl
noncomputable def spec_l01Own.con : Con := ⟨spec_l01Own.fn.ins, spec_l01Own.fn.outs, (List Int), fun x => spec_l01Own.f x.1, fun r => ((r, ()), (()))⟩
theorem spec_l01Own.valid : Valid Try.prog 96 spec_l01Own.con := fn_valid (f := spec_l01Own.fn) (E := spec_l01Own.E) (enc := spec_l01Own.enc) ⟨ttOk, conNil⟩ (Checked.mixed Try.checked) ⟨Try.func96, by kernel_rfl, by kernel_rfl, by kernel_rfl, by kernel_rfl, by decide, by kernel_rfl, by kernel_rfl⟩ (fun _ => rfl)
end Go.Proofs.Ytpppnoliogdkiaa.P
set_option linter.unusedVariables false
namespace Go.Proofs.Ytpppnoliogdkiaa.P
open Go Go.RowKit Go.Proofs.Ytpppnoliogdkiaa.D
noncomputable def spec_l01Mod.E : Env := { tt := TT, con := [], frz := [], rows := [], live := [], n := 12, pin := 0, nils := [] }
noncomputable def spec_l01Mod.fn : D.Fn := { body := Try.f97.body.getD .skip, res := Try.f97.results.toList, ins := [.one (.v (.int .i64)), .one (.v (.int .i64))], outs := [.one (.v (.int .i64))] }
def spec_l01Mod.enc (y : lsd (flats spec_l01Mod.fn.outs) × lsd (ios spec_l01Mod.fn.ins)) : Int := y.1.1
noncomputable def spec_l01Mod.f (a0 : Int) (a1 : Int) : Option Int := denF spec_l01Mod.E spec_l01Mod.fn spec_l01Mod.enc (a0, a1, ())
set_option maxRecDepth 100000 in
theorem spec_l01Mod.f_eq (a0 : Int) (a1 : Int) : spec_l01Mod.f a0 a1 = if a1 = 0 then none else (if a1 = 0 then none else (some ((wrapI (((a0 : Int).tmod a1) + a1) : Int).tmod a1))) := by kernel_rfl
noncomputable def spec_l01Mod.con : Con := ⟨spec_l01Mod.fn.ins, spec_l01Mod.fn.outs, Int, fun x => spec_l01Mod.f x.1 x.2.1, fun r => ((r, ()), (()))⟩
theorem spec_l01Mod.valid : Valid Try.prog 97 spec_l01Mod.con := fn_valid (f := spec_l01Mod.fn) (E := spec_l01Mod.E) (enc := spec_l01Mod.enc) ⟨ttOk, conNil⟩ (Checked.mixed Try.checked) ⟨Try.func97, by kernel_rfl, by kernel_rfl, by kernel_rfl, by kernel_rfl, by decide, by kernel_rfl, by kernel_rfl⟩ (fun _ => rfl)
end Go.Proofs.Ytpppnoliogdkiaa.P
set_option linter.unusedVariables false
namespace Go.Proofs.Ytpppnoliogdkiaa.P
open Go Go.RowKit Go.Proofs.Ytpppnoliogdkiaa.D
noncomputable def spec_l03At.E : Env := { tt := TT, con := [(131, spec_l01N.con)], frz := [], rows := [], live := [(3, [2, 3, 4, 7, 8])], n := 36, pin := 0, nils := [] }
noncomputable def spec_l03At.fn : D.Fn := { body := Try.f133.body.getD .skip, res := Try.f133.results.toList, ins := [.agg [.v (.sl 25 (.sl 2 (.int .i64)))], .agg [.v (.int .i64), .v (.sl 2 (.int .i64))], .one (.v (.sl 2 (.int .i64)))], outs := [.one (.v (.int .i64))] }
def spec_l03At.enc (y : lsd (flats spec_l03At.fn.outs) × lsd (ios spec_l03At.fn.ins)) : Int := y.1.1
noncomputable def spec_l03At.f (l0_0 : List (List Int)) (a1_0 : Int) (l1_1 : List Int) (l2 : List Int) : Option Int := denF spec_l03At.E spec_l03At.fn spec_l03At.enc (l0_0, a1_0, l1_1, l2, ())
noncomputable def spec_l03At.l0 (x2 : List Int) (x7 : Int) (x8 : Int) (b0_0 : List (List Int)) (b1_0 : Int) (b1_1 : List Int) : Option Int := denAt spec_l03At.E spec_l03At.fn spec_l03At.enc [1, 1, 0, 1, 0] { fr := [(2, .lf (.sl (.int .i64) x2)), (3, .lf (.box 0 0)), (4, .lf (.box 1 0)), (7, .lf (.int .i64 x7)), (8, .lf (.int .i64 x8))], ob := [(0, .box 32 false [.sl (.sl 2 (.int .i64)) b0_0]), (1, .box 48 false [.int .i64 b1_0, .sl (.int .i64) b1_1])], nx := 2 }
set_option maxRecDepth 100000 in
theorem spec_l03At.f_eq (l0_0 : List (List Int)) (a1_0 : Int) (l1_1 : List Int) (l2 : List Int) : spec_l03At.f l0_0 a1_0 l1_1 l2 = spec_l03At.l0 l2 0 0 l0_0 a1_0 l1_1 := by kernel_rfl
set_option maxRecDepth 100000 in
theorem spec_l03At.l0_eq (x2 : List Int) (x7 : Int) (x8 : Int) (b0_0 : List (List Int)) (b1_0 : Int) (b1_1 : List Int) : spec_l03At.l0 x2 x7 x8 b0_0 b1_0 b1_1 = if x8 < (x2.length : Int) then (if 0 ≤ x8 then (if x8 < (x2.length : Int) then (if (rd x2 x8) = 0 then (some 0) else ((spec_l01N.f b0_0).bind fun t22 => if 0 ≤ x8 then (if x8 < (x2.length : Int) then (spec_l03At.l0 x2 (wrapI ((wrapI ((wrapI (x7 * (wrapI (t22 - 1)))) + (rd x2 x8))) - 1)) (wrapI (x8 + 1)) b0_0 b1_0 b1_1) else none) else none)) else none) else none) else (if 0 ≤ x7 then (if x7 < (b1_1.length : Int) then (some (rd b1_1 x7)) else none) else none) := (loop_unfold _ _ _ _).trans (by kernel_rfl)
noncomputable def spec_l03At.con : Con := ⟨spec_l03At.fn.ins, spec_l03At.fn.outs, Int, fun x => spec_l03At.f x.1 x.2.1 x.2.2.1 x.2.2.2.1, fun r => ((r, ()), (()))⟩
theorem spec_l03At.valid : Valid Try.prog 133 spec_l03At.con := fn_valid (f := spec_l03At.fn) (E := spec_l03At.E) (enc := spec_l03At.enc) ⟨ttOk, (conCons spec_l01N.valid conNil)⟩ (Checked.mixed Try.checked) ⟨Try.func133, by kernel_rfl, by kernel_rfl, by kernel_rfl, by kernel_rfl, by decide, by kernel_rfl, by kernel_rfl⟩ (fun _ => rfl)
end Go.Proofs.Ytpppnoliogdkiaa.P
set_option linter.unusedVariables false
namespace Go.Proofs.Ytpppnoliogdkiaa.P
open Go Go.RowKit Go.Proofs.Ytpppnoliogdkiaa.D
noncomputable def spec_l03Side.E : Env := { tt := TT, con := [(133, spec_l03At.con), (96, spec_l01Own.con), (97, spec_l01Mod.con)], frz := [], rows := [], live := [(4, [3, 4, 5, 6, 9, 10, 11, 12])], n := 85, pin := 0, nils := [] }
noncomputable def spec_l03Side.fn : D.Fn := { body := Try.f161.body.getD .skip, res := Try.f161.results.toList, ins := [.agg [.v (.sl 25 (.sl 2 (.int .i64)))], .agg [.v (.int .i64), .v (.sl 2 (.int .i64))], .agg [.v (.int .i64), .v (.sl 2 (.int .i64))], .one (.v (.sl 2 (.int .i64)))], outs := [.one (.v (.int .i64))] }
def spec_l03Side.enc (y : lsd (flats spec_l03Side.fn.outs) × lsd (ios spec_l03Side.fn.ins)) : Int := y.1.1
noncomputable def spec_l03Side.f (l0_0 : List (List Int)) (a1_0 : Int) (l1_1 : List Int) (a2_0 : Int) (l2_1 : List Int) (l3 : List Int) : Option Int := denF spec_l03Side.E spec_l03Side.fn spec_l03Side.enc (l0_0, a1_0, l1_1, a2_0, l2_1, l3, ())
noncomputable def spec_l03Side.l0 (x3 : List Int) (x9 : Int) (x10 : Int) (x11 : Int) (x12 : Int) (b0_0 : List (List Int)) (b1_0 : Int) (b1_1 : List Int) (b2_0 : Int) (b2_1 : List Int) : Option Int := denAt spec_l03Side.E spec_l03Side.fn spec_l03Side.enc [1, 1, 1, 0, 1, 0] { fr := [(3, .lf (.sl (.int .i64) x3)), (4, .lf (.box 0 0)), (5, .lf (.box 1 0)), (6, .lf (.box 2 0)), (9, .lf (.int .i64 x9)), (10, .lf (.int .i64 x10)), (11, .lf (.int .i64 x11)), (12, .lf (.int .i64 x12))], ob := [(0, .box 32 false [.sl (.sl 2 (.int .i64)) b0_0]), (1, .box 34 false [.int .i64 b1_0, .sl (.int .i64) b1_1]), (2, .box 48 false [.int .i64 b2_0, .sl (.int .i64) b2_1])], nx := 3 }
set_option maxRecDepth 100000 in
theorem spec_l03Side.f_eq (l0_0 : List (List Int)) (a1_0 : Int) (l1_1 : List Int) (a2_0 : Int) (l2_1 : List Int) (l3 : List Int) : spec_l03Side.f l0_0 a1_0 l1_1 a2_0 l2_1 l3 = if 0 < (l3.length : Int) then (if 0 ≤ rd l3 0 then (if rd l3 0 < (l1_1.length : Int) then (if 1 ≤ (l3.length : Int) then ((spec_l03At.f l0_0 a2_0 l2_1 (l3.drop (1 : Int).toNat)).bind fun t28 => spec_l03Side.l0 l3 (wrapI ((l3.length : Int) - 1)) (wrapI ((rd l1_1 (rd l3 0)) * t28)) (-1) 0 l0_0 a1_0 l1_1 a2_0 l2_1) else none) else none) else none) else none := by kernel_rfl
set_option maxRecDepth 100000 in
theorem spec_l03Side.l0_eq (x3 : List Int) (x9 : Int) (x10 : Int) (x11 : Int) (x12 : Int) (b0_0 : List (List Int)) (b1_0 : Int) (b1_1 : List Int) (b2_0 : Int) (b2_1 : List Int) : spec_l03Side.l0 x3 x9 x10 x11 x12 b0_0 b1_0 b1_1 b2_0 b2_1 = if x12 < x9 then (if 0 ≤ x12 then (if x12 ≤ (x3.length : Int) then ((spec_l01Own.f (x3.take (x12 : Int).toNat)).bind fun t38 => if 0 ≤ x12 then (if x12 < (x3.length : Int) then (if 0 ≤ rd x3 x12 then (if rd x3 x12 < (b0_0.length : Int) then (if 0 ≤ wrapI (x12 + 1) then (if wrapI (x12 + 1) < (x3.length : Int) then (if 0 ≤ rd x3 (wrapI (x12 + 1)) then (if rd x3 (wrapI (x12 + 1)) < ((row b0_0 (rd x3 x12)).length : Int) then (if t38.length + ([T b0_0 (rd x3 x12) (rd x3 (wrapI (x12 + 1)))] : List Int).length ≤ 17592186044416 then (if 0 ≤ wrapI (x12 + 2) then (if wrapI (x12 + 2) ≤ (x3.length : Int) then (if (t38 ++ ([T b0_0 (rd x3 x12) (rd x3 (wrapI (x12 + 1)))] : List Int)).length + (x3.drop (wrapI (x12 + 2) : Int).toNat).length ≤ 17592186044416 then ((spec_l03At.f b0_0 b2_0 b2_1 ((t38 ++ ([T b0_0 (rd x3 x12) (rd x3 (wrapI (x12 + 1)))] : List Int)) ++ (x3.drop (wrapI (x12 + 2) : Int).toNat))).bind fun t67 => spec_l03Side.l0 x3 x9 (wrapI (x10 + (wrapI (x11 * t67)))) (wrapI (0 - x11)) (wrapI (x12 + 1)) b0_0 b1_0 b1_1 b2_0 b2_1) else none) else none) else none) else none) else none) else none) else none) else none) else none) else none) else none) else none) else none) else none) else (if 0 ≤ x9 then (if x9 ≤ (x3.length : Int) then ((spec_l03At.f b0_0 b2_0 b2_1 (x3.take (x9 : Int).toNat)).bind fun t79 => (spec_l01Mod.f (wrapI (x10 + (wrapI (x11 * t79)))) b1_0).bind fun t84 => some t84) else none) else none) := (loop_unfold _ _ _ _).trans (by kernel_rfl)
noncomputable def spec_l03Side.con : Con := ⟨spec_l03Side.fn.ins, spec_l03Side.fn.outs, Int, fun x => spec_l03Side.f x.1 x.2.1 x.2.2.1 x.2.2.2.1 x.2.2.2.2.1 x.2.2.2.2.2.1, fun r => ((r, ()), (()))⟩
theorem spec_l03Side.valid : Valid Try.prog 161 spec_l03Side.con := fn_valid (f := spec_l03Side.fn) (E := spec_l03Side.E) (enc := spec_l03Side.enc) ⟨ttOk, (conCons spec_l03At.valid (conCons spec_l01Own.valid (conCons spec_l01Mod.valid conNil)))⟩ (Checked.mixed Try.checked) ⟨Try.func161, by kernel_rfl, by kernel_rfl, by kernel_rfl, by kernel_rfl, by decide, by kernel_rfl, by kernel_rfl⟩ (fun _ => rfl)
end Go.Proofs.Ytpppnoliogdkiaa.P
set_option linter.unusedVariables false
namespace Go.Proofs.Ytpppnoliogdkiaa.P
open Go Go.RowKit Go.Proofs.Ytpppnoliogdkiaa.D
noncomputable def spec_l03List.E : Env := { tt := TT, con := [(131, spec_l01N.con)], frz := [], rows := [], live := [(3, [2, 7, 8, 9])], n := 32, pin := 0, nils := [] }
noncomputable def spec_l03List.fn : D.Fn := { body := Try.f162.body.getD .skip, res := Try.f162.results.toList, ins := [.agg [.v (.sl 25 (.sl 2 (.int .i64)))], .one (.v (.int .i64)), .one (.v (.int .i64))], outs := [.one (.own 2 true (.int .i64))] }
def spec_l03List.enc (y : lsd (flats spec_l03List.fn.outs) × lsd (ios spec_l03List.fn.ins)) : (List Int) := y.1.1
noncomputable def spec_l03List.f (l0_0 : List (List Int)) (a1 : Int) (a2 : Int) : Option (List Int) := denF spec_l03List.E spec_l03List.fn spec_l03List.enc (l0_0, a1, a2, ())
noncomputable def spec_l03List.l0 (x2 : Int) (x8 : Int) (x9 : Int) (r0 : List Int) : Option (List Int) := denAt spec_l03List.E spec_l03List.fn spec_l03List.enc [1, 1, 0, 1, 0] { fr := [(2, .lf (.int .i64 x2)), (7, .lf (.own 0)), (8, .lf (.int .i64 x8)), (9, .lf (.int .i64 x9))], ob := [(0, .row 2 true (.int .i64) r0)], nx := 1 }
set_option maxRecDepth 100000 in
theorem spec_l03List.f_eq (l0_0 : List (List Int)) (a1 : Int) (a2 : Int) : spec_l03List.f l0_0 a1 a2 = if a1 = a1 then (if 0 ≤ a1 then (if (a1 : Int).toNat ≤ 17592186044416 then ((spec_l01N.f l0_0).bind fun t13 => spec_l03List.l0 a2 (wrapI (t13 - 1)) (wrapI (a1 - 1)) (List.replicate (a1 : Int).toNat (0 : Int))) else none) else none) else none := by kernel_rfl
set_option maxRecDepth 100000 in
theorem spec_l03List.l0_eq (x2 : Int) (x8 : Int) (x9 : Int) (r0 : List Int) : spec_l03List.l0 x2 x8 x9 r0 = if x9 ≥ 0 then (if x8 = 0 then none else (if 0 ≤ x9 then (if x9 < (r0.length : Int) then (if 0 ≤ x9 then (if x9 < (r0.length : Int) then (if x8 = 0 then none else (spec_l03List.l0 (wrapI ((x2 : Int).tdiv x8)) x8 (wrapI (x9 - 1)) (r0.set (x9 : Int).toNat (wrapI (((x2 : Int).tmod x8) + 1))))) else none) else none) else none) else none)) else (some r0) := (loop_unfold _ _ _ _).trans (by kernel_rfl)
noncomputable def spec_l03List.con : Con := ⟨spec_l03List.fn.ins, spec_l03List.fn.outs, (List Int), fun x => spec_l03List.f x.1 x.2.1 x.2.2.1, fun r => ((r, ()), (()))⟩
theorem spec_l03List.valid : Valid Try.prog 162 spec_l03List.con := fn_valid (f := spec_l03List.fn) (E := spec_l03List.E) (enc := spec_l03List.enc) ⟨ttOk, (conCons spec_l01N.valid conNil)⟩ (Checked.mixed Try.checked) ⟨Try.func162, by kernel_rfl, by kernel_rfl, by kernel_rfl, by kernel_rfl, by decide, by kernel_rfl, by kernel_rfl⟩ (fun _ => rfl)
end Go.Proofs.Ytpppnoliogdkiaa.P
set_option linter.unusedVariables false
namespace Go.Proofs.Ytpppnoliogdkiaa.P
open Go Go.RowKit Go.Proofs.Ytpppnoliogdkiaa.D
noncomputable def spec_l03Cocycle.E : Env := { tt := TT, con := [(126, spec_l03Cells.con), (162, spec_l03List.con), (161, spec_l03Side.con)], frz := [], rows := [], live := [(2, [3, 4, 5, 7])], n := 28, pin := 0, nils := [] }
noncomputable def spec_l03Cocycle.fn : D.Fn := { body := Try.f132.body.getD .skip, res := Try.f132.results.toList, ins := [.agg [.v (.sl 25 (.sl 2 (.int .i64)))], .agg [.v (.int .i64), .v (.sl 2 (.int .i64))], .agg [.v (.int .i64), .v (.sl 2 (.int .i64))]], outs := [.one (.v .bool)] }
def spec_l03Cocycle.enc (y : lsd (flats spec_l03Cocycle.fn.outs) × lsd (ios spec_l03Cocycle.fn.ins)) : Bool := y.1.1
noncomputable def spec_l03Cocycle.f (l0_0 : List (List Int)) (a1_0 : Int) (l1_1 : List Int) (a2_0 : Int) (l2_1 : List Int) : Option Bool := denF spec_l03Cocycle.E spec_l03Cocycle.fn spec_l03Cocycle.enc (l0_0, a1_0, l1_1, a2_0, l2_1, ())
noncomputable def spec_l03Cocycle.l0 (x7 : Int) (b0_0 : List (List Int)) (b1_0 : Int) (b1_1 : List Int) (b2_0 : Int) (b2_1 : List Int) : Option Bool := denAt spec_l03Cocycle.E spec_l03Cocycle.fn spec_l03Cocycle.enc [1, 0, 1, 0] { fr := [(3, .lf (.box 0 0)), (4, .lf (.box 1 0)), (5, .lf (.box 2 0)), (7, .lf (.int .i64 x7))], ob := [(0, .box 32 false [.sl (.sl 2 (.int .i64)) b0_0]), (1, .box 34 false [.int .i64 b1_0, .sl (.int .i64) b1_1]), (2, .box 48 false [.int .i64 b2_0, .sl (.int .i64) b2_1])], nx := 3 }
set_option maxRecDepth 100000 in
theorem spec_l03Cocycle.f_eq (l0_0 : List (List Int)) (a1_0 : Int) (l1_1 : List Int) (a2_0 : Int) (l2_1 : List Int) : spec_l03Cocycle.f l0_0 a1_0 l1_1 a2_0 l2_1 = spec_l03Cocycle.l0 0 l0_0 a1_0 l1_1 a2_0 l2_1 := by kernel_rfl
set_option maxRecDepth 100000 in
theorem spec_l03Cocycle.l0_eq (x7 : Int) (b0_0 : List (List Int)) (b1_0 : Int) (b1_1 : List Int) (b2_0 : Int) (b2_1 : List Int) : spec_l03Cocycle.l0 x7 b0_0 b1_0 b1_1 b2_0 b2_1 = (spec_l03Cells.f b0_0 (wrapI (b2_0 + 1))).bind fun t13 => if x7 < t13 then ((spec_l03List.f b0_0 (wrapI (b2_0 + 1)) x7).bind fun t25 => (spec_l03Side.f b0_0 b1_0 b1_1 b2_0 b2_1 t25).bind fun t26 => if t26 = 0 then (spec_l03Cocycle.l0 (wrapI (x7 + 1)) b0_0 b1_0 b1_1 b2_0 b2_1) else (some false)) else (some true) := (loop_unfold _ _ _ _).trans (by kernel_rfl)
noncomputable def spec_l03Cocycle.con : Con := ⟨spec_l03Cocycle.fn.ins, spec_l03Cocycle.fn.outs, Bool, fun x => spec_l03Cocycle.f x.1 x.2.1 x.2.2.1 x.2.2.2.1 x.2.2.2.2.1, fun r => ((r, ()), (()))⟩
theorem spec_l03Cocycle.valid : Valid Try.prog 132 spec_l03Cocycle.con := fn_valid (f := spec_l03Cocycle.fn) (E := spec_l03Cocycle.E) (enc := spec_l03Cocycle.enc) ⟨ttOk, (conCons spec_l03Cells.valid (conCons spec_l03List.valid (conCons spec_l03Side.valid conNil)))⟩ (Checked.mixed Try.checked) ⟨Try.func132, by kernel_rfl, by kernel_rfl, by kernel_rfl, by kernel_rfl, by decide, by kernel_rfl, by kernel_rfl⟩ (fun _ => rfl)
end Go.Proofs.Ytpppnoliogdkiaa.P
set_option linter.unusedVariables false
namespace Go.Proofs.Ytpppnoliogdkiaa.P
open Go Go.RowKit Go.Proofs.Ytpppnoliogdkiaa.D
noncomputable def spec_l06Given.E : Env := { tt := TT, con := [(113, spec_l03Code.con), (131, spec_l01N.con), (132, spec_l03Cocycle.con)], frz := [], rows := [13], live := [], n := 36, pin := 0, nils := [] }
noncomputable def spec_l06Given.fn : D.Fn := { body := Try.f78.body.getD .skip, res := Try.f78.results.toList, ins := [.agg [.v (.sl 25 (.sl 2 (.int .i64)))], .agg [.v (.int .i64), .v (.sl 2 (.int .i64))], .agg [.v (.int .i64), .v (.sl 2 (.int .i64))], .one (.v (.int .i64))], outs := [.one (.v (.int .i64))] }
def spec_l06Given.enc (y : lsd (flats spec_l06Given.fn.outs) × lsd (ios spec_l06Given.fn.ins)) : Int := y.1.1
noncomputable def spec_l06Given.f (l0_0 : List (List Int)) (a1_0 : Int) (l1_1 : List Int) (a2_0 : Int) (l2_1 : List Int) (a3 : Int) : Option Int := denF spec_l06Given.E spec_l06Given.fn spec_l06Given.enc (l0_0, a1_0, l1_1, a2_0, l2_1, a3, ())
set_option maxRecDepth 100000 in
theorem spec_l06Given.f_eq (l0_0 : List (List Int)) (a1_0 : Int) (l1_1 : List Int) (a2_0 : Int) (l2_1 : List Int) (a3 : Int) : spec_l06Given.f l0_0 a1_0 l1_1 a2_0 l2_1 a3 = (spec_l03Code.f l0_0 a1_0 l1_1 ([(a2_0, l2_1)] : List (Int × (List Int)))).bind fun t14 => if t14 = 0 then (if a2_0 = 2 then ((spec_l01N.f l0_0).bind fun t24 => if (wrapI (t24 * a1_0)) > a3 then (some 3) else ((spec_l03Cocycle.f l0_0 a1_0 l1_1 a2_0 l2_1).bind fun t34 => if t34 = true then (some 0) else (some 5))) else (some 2)) else (some t14) := by kernel_rfl
noncomputable def spec_l06Given.con : Con := ⟨spec_l06Given.fn.ins, spec_l06Given.fn.outs, Int, fun x => spec_l06Given.f x.1 x.2.1 x.2.2.1 x.2.2.2.1 x.2.2.2.2.1 x.2.2.2.2.2.1, fun r => ((r, ()), (()))⟩
theorem spec_l06Given.valid : Valid Try.prog 78 spec_l06Given.con := fn_valid (f := spec_l06Given.fn) (E := spec_l06Given.E) (enc := spec_l06Given.enc) ⟨ttOk, (conCons spec_l03Code.valid (conCons spec_l01N.valid (conCons spec_l03Cocycle.valid conNil)))⟩ (Checked.mixed Try.checked) ⟨Try.func78, by kernel_rfl, by kernel_rfl, by kernel_rfl, by kernel_rfl, by decide, by kernel_rfl, by kernel_rfl⟩ (fun _ => rfl)
end Go.Proofs.Ytpppnoliogdkiaa.P
set_option linter.unusedVariables false
namespace Go.Proofs.Ytpppnoliogdkiaa.D
open Go Go.RowKit
theorem valid_view {P : Program} {g : FuncId} {c : Con} (hv : Valid P g c) {x : lsd (flats c.ins)} {r : c.R} (hx : c.f x = some r) {w : World} {vs : List Value} (ha : ASRs P (fun _ => False) (fun k => k < w.heap.size) w c.ins x vs (fun _ => False)) :
    Calls P g vs.toArray w fun e w' => ∃ u, e = .returned u ∧ Below w.heap.size w w' ∧ ∃ Z' Fo us, u = outV us ∧ ASRs P (fun _ => False) Z' w' c.outs (c.dec r).1 us Fo := by
  refine (hv.2 x r hx (fun k => k < w.heap.size) (fun _ => False) (fun _ => False) w vs ha (fun _ h => h.elim) (fun _ h => h) (fun _ h => h.elim)).mono ?_
  rintro e w' ⟨u, rfl, Z', Fi, Fo, hp⟩
  obtain ⟨us, hu, ho⟩ := hp.out
  exact ⟨u, rfl, ⟨hp.os, hp.tape, hp.output, hp.size, fun k hk => hp.old k hk fun h => h⟩, Z', Fo, us, hu, ho⟩
theorem cell_lt {w : World} {a : Addr} {v : Value} (h : w.cell? a = some v) : a.block < w.heap.size := by
  unfold World.cell? at h
  cases hb : w.heap[a.block]? with
  | none => rw [hb] at h; cases h
  | some o => exact (Array.getElem?_eq_some_iff.1 hb).1
theorem view_raw {α : Type} {w : World} {sz : Nat} {R : α → List Value → Prop} {A : Option Addr} {c : Nat} {xs : List α} (hz : 0 < sz) (hc : xs.length ≤ c) (hm : xs.length ≤ 9223372036854775807)
    (h : 0 < xs.length → ∃ ad, A = some ad ∧ ∀ (j : Nat) (p : α), xs[j]? = some p → ∃ cs, cs.length = sz ∧ R p cs ∧ ∀ (i : Nat) (u : Value), cs[i]? = some u → w.cell? (ad.add (j * sz + i)) = some u) : ViewRep (fun k => k < w.heap.size) w sz R A c xs := by
  refine ⟨hc, hm, fun hl => ?_⟩
  obtain ⟨ad, rfl, hcell⟩ := h hl
  refine ⟨ad, rfl, ?_, hcell⟩
  obtain ⟨cs, h1, h2, h3⟩ := hcell 0 xs[0] (List.getElem?_eq_getElem hl)
  have := cell_lt (h3 0 cs[0] (List.getElem?_eq_getElem (by omega)))
  rwa [add_block] at this
theorem law_true {P : Program} {g : FuncId} {c : Con} (hv : Valid P g c) {x : lsd (flats c.ins)} {r : c.R} (hx : c.f x = some r) {w : World} {vs : List Value} (ha : ASRs P (fun _ => False) (fun k => k < w.heap.size) w c.ins x vs (fun _ => False)) (ho : c.outs = [.one (.v .bool)]) (hr : ∀ y : lsd (flats [.one (.v .bool)]), HEq y (c.dec r).1 → y.1 = true) :
    Calls P g vs.toArray w fun e w' => e = .returned (.bool true) ∧ Below w.heap.size w w' := by
  refine (valid_view hv hx ha).mono ?_
  rintro e w' ⟨u, rfl, hb, Z', Fo, us, rfl, hh⟩
  refine ⟨?_, hb⟩
  obtain ⟨ins, outs, R, f, dec⟩ := c
  have ho : outs = [.one (.v .bool)] := ho
  subst ho
  obtain ⟨v, vs', F0, F1, rfl, h1, h2, _⟩ := hh
  cases h2
  have h1 : [v] = [.bool (dec r).1.1] := h1
  have hb1 : (dec r).1.1 = true := hr _ HEq.rfl
  cases h1
  rw [hb1]
  rfl
end Go.Proofs.Ytpppnoliogdkiaa.D
set_option linter.unusedVariables false
namespace Go.Proofs.Ytpppnoliogdkiaa.D
open Go Go.RowKit Go.ChangeShapes Go.WideShapes Go.Joins Go.Deep
section
variable {H : Type} {enc : TypeId × Value → H} {P : Program} {w : World} {base : Nat} {held : Bool}
abbrev Zw (w : World) : Nat → Prop := fun k => k < w.heap.size
abbrev No : Nat → Prop := fun _ => False
theorem rep_ints {q : TypeId} (hn : nf q = false) {k : IntKind} {a : Addr} {len cap : Nat} {zs : List Int} (hl : len ≤ cap) (hm : cap ≤ maxLen) (hz : zs.length = cap) (hc : ∀ i, i < zs.length → w.cell? (a.add i) = some (.int k (zs.getD i 0))) (hw : ∀ n ∈ zs, (Lit.int k n).wf = true) :
    ∃ l : List Int, len = l.length ∧ l.length ≤ maxLen ∧ (∀ x ∈ l, (Lit.int k x).wf = true) ∧ Rep (Zw w) w false (.sl q (.int k)) l [.slice (some a) len cap] No := by
  have hlen : (zs.take len).length = len := by rw [List.length_take]; omega
  refine ⟨zs.take len, hlen.symm, by omega, fun x hx => hw x (List.mem_of_mem_take hx), some a, cap, by rw [hlen], ?_, fun h => by rw [hn] at h; cases h⟩
  refine view_raw Nat.one_pos (by show (zs.take len).length ≤ _; omega) (by show (zs.take len).length ≤ _; simp only [maxLen] at hm; omega) fun _ => ⟨a, rfl, fun j p hj => ?_⟩
  have hj : (zs.take len)[j]? = some p := hj
  have hjl : j < len := by
    have := (List.getElem?_eq_some_iff.1 hj).1
    omega
  refine ⟨[.int k p], rfl, rfl, fun i u hu => ?_⟩
  cases i with
  | zero =>
    simp only [List.getElem?_cons_zero, Option.some.injEq] at hu
    subst hu
    have h := hc j (by omega)
    have hp : zs.getD j 0 = p := by
      rw [List.getElem?_take] at hj
      simp only [hjl, if_true] at hj
      simp [List.getD, hj]
    rw [hp] at h
    simpa [Ty.size] using h
  | succ i => simp at hu
theorem rep_none {q : TypeId} {t : Ty} : Rep (Zw w) w false (.sl q t) ([] : List t.den) [.slice none 0 0] No :=
  ⟨none, 0, rfl, ⟨Nat.le_refl _, Nat.zero_le _, fun h => absurd h (by simp)⟩, fun _ _ => rfl⟩
theorem come_ints {t e : TypeId} {k : IntKind} {fuel : Nat} {v : Value} {x : DataW H × List MemPlace} (ht : P.underlying t = some (.slice e)) (he : P.underlying e = some (.int k)) (hc : P.cellsOf e = 1)
    (h : DataW.trod enc P w base (fun _ => true) held fuel t [v] = some x) (hn : nf e = false := by rfl) :
    ∃ l : List Int, l.length ≤ maxLen ∧ (∀ x ∈ l, (Lit.int k x).wf = true) ∧ Rep (Zw w) w false (.sl e (.int k)) l [v] No := by
  rcases open_ints ht he hc h with ⟨hcs, _⟩ | ⟨a, len, cap, zs, hcs, _, hl, hm, hz, _, hcell, hw⟩
  · refine ⟨[], by simp, by simp, ?_⟩
    rw [hcs]
    exact rep_none
  · simp only [if_true] at hz
    obtain ⟨l, h1, h2, h3, h4⟩ := rep_ints (q := e) hn hl hm hz hcell hw
    exact ⟨l, h2, h3, by rw [hcs]; exact h4⟩
theorem come_rows {t e q : TypeId} {k : IntKind} {fuel : Nat} {v : Value} {x : DataW H × List MemPlace} (ht : P.underlying t = some (.slice e)) (he : P.underlying e = some (.slice q)) (hq : P.underlying q = some (.int k))
    (ce : P.cellsOf e = 1) (cq : P.cellsOf q = 1) (h : DataW.trod enc P w base (fun _ => true) held fuel t [v] = some x) (hne : nf e = false := by rfl) (hn : nf q = false := by rfl) :
    ∃ l : List (List Int), l.length ≤ maxLen ∧ (∀ r ∈ l, r.length ≤ maxLen ∧ ∀ x ∈ r, (Lit.int k x).wf = true) ∧ Rep (Zw w) w false (.sl e (.sl q (.int k))) l [v] No := by
  rcases open_int_rows ht he hq ce cq h with ⟨hcs, _⟩ | ⟨a, len, cap, A, L, C, Z, hcs, _, hl, hm, _, hr⟩
  · refine ⟨[], by simp, by simp, ?_⟩
    rw [hcs]
    exact rep_none
  · have each : ∀ r, r < cap → ∃ y : List Int, y.length ≤ maxLen ∧ (∀ x ∈ y, (Lit.int k x).wf = true) ∧ Rep (Zw w) w false (.sl q (.int k)) y [.slice (A r) (L r) (C r)] No := by
      intro r hrc
      obtain ⟨_, h1, h2, h3, h4, h5, h6⟩ := hr r hrc
      cases hA : A r with
      | none =>
        have hC := h5 hA
        refine ⟨[], by simp, by simp, ?_⟩
        have hL : L r = 0 := by omega
        rw [hL, hC]
        exact rep_none
      | some a' =>
        obtain ⟨l, _, h7, h8, h9⟩ := rep_ints (q := q) hn h1 h2 h3 (fun i hi => (h6 a' hA).2 i (by omega)) h4
        exact ⟨l, h7, h8, h9⟩
    obtain ⟨Y, hY⟩ := choose_lt each
    have hlen : ((List.range len).map Y).length = len := by simp
    refine ⟨(List.range len).map Y, by omega, fun r hr' => ?_, ?_⟩
    · obtain ⟨j, hj, rfl⟩ := List.mem_map.1 hr'
      obtain ⟨h1, h2, _⟩ := hY j (by have := List.mem_range.1 hj; omega)
      exact ⟨h1, h2⟩
    · rw [hcs]
      refine ⟨some a, cap, by rw [hlen], ?_, fun h => by rw [hne] at h; cases h⟩
      refine view_raw Nat.one_pos (by show ((List.range len).map Y).length ≤ _; omega) (by show ((List.range len).map Y).length ≤ _; simp only [maxLen] at hm; omega) fun _ => ⟨a, rfl, fun j p hj => ?_⟩
      have hj : ((List.range len).map Y)[j]? = some p := hj
      have hjl : j < len := by
        have := (List.getElem?_eq_some_iff.1 hj).1
        omega
      have hp : p = Y j := by simpa [hjl] using hj.symm
      subst hp
      obtain ⟨h1, h2, h3⟩ := hY j (by omega)
      refine ⟨[.slice (A j) (L j) (C j)], rfl, h3, fun i u hu => ?_⟩
      cases i with
      | zero =>
        simp only [List.getElem?_cons_zero, Option.some.injEq] at hu
        subst hu
        have := (hr j (by omega)).1
        simpa [Ty.size] using this
      | succ i => simp at hu
theorem come_int {t : TypeId} {k : IntKind} {fuel : Nat} {v : Value} {x : DataW H × List MemPlace} (ht : P.underlying t = some (.int k)) (h : DataW.trod enc P w base (fun _ => true) held fuel t [v] = some x) : ∃ n : Int, (Lit.int k n).wf = true ∧ Rep (Zw w) w false (.int k) n [v] No := by
  obtain ⟨n, h1, _, h2⟩ := DataW.trod_int ht h
  exact ⟨n, h2, h1⟩
theorem open_agg1 {r : Reach} {b0 : Nat} {t : TypeId} {f0 : Field} {v : Value} {d : DataW H} {p : List MemPlace} {spare : Nat → Bool} (hs : P.underlying t = some (.struct #[f0])) (hone : oneCellFields P #[f0] = true) (hC : P.cellsOf t = 1)
    (hv : Value.okWide P w r b0 t v) (h : DataW.Trod enc P w base spare held t v d p) :
    ∃ (v0 : Value) (y0 : DataW H × List MemPlace) (n : Nat), v = .agg #[v0] ∧ DataW.trod enc P w base spare held n f0.type [v0] = some y0 := by
  obtain ⟨cs, rfl, hsz⟩ := okWide_struct hs hv
  have hsz1 : cs.size = 1 := hsz.trans hC
  obtain ⟨c0, rfl⟩ : ∃ c0, cs = #[c0] := by
    obtain ⟨l⟩ := cs
    match l, hsz1 with
    | [c0], _ => exact ⟨c0, rfl⟩
  obtain ⟨fuel, hf⟩ := h
  obtain ⟨y0, n, hx, _, h0⟩ := trod_struct1 hs hf
  obtain ⟨o0, k0⟩ := hone_of hone 0 f0 rfl
  exact ⟨c0, y0, n, rfl, by simpa [Value.cells, o0, k0] using h0⟩
theorem args_nil : ASRs P No (Zw w) w [] () [] No := rfl
theorem args_agg1 {t : Ty} {x : t.den} {v : Value} {ins : List ASh} {y : lsd (flats ins)} {vs : List Value} (h : Rep (Zw w) w false t x [v] No) (hr : ASRs P No (Zw w) w ins y vs No) : ASRs P No (Zw w) w (.agg [.v t] :: ins) (x, y) (.agg #[v] :: vs) No :=
  ⟨.agg #[v], vs, No, No, rfl, ⟨[v], rfl, v, [], No, No, rfl, h, rfl, fun _ h => h, fun _ h => h, fun _ h => h.elim⟩, hr, fun _ h => h, fun _ h => h, fun _ h => h.elim⟩
theorem args_agg2 {t t' : Ty} {x : t.den} {x' : t'.den} {v v' : Value} {ins : List ASh} {y : lsd (flats ins)} {vs : List Value} (h : Rep (Zw w) w false t x [v] No) (h' : Rep (Zw w) w false t' x' [v'] No) (hr : ASRs P No (Zw w) w ins y vs No) : ASRs P No (Zw w) w (.agg [.v t, .v t'] :: ins) (x, x', y) (.agg #[v, v'] :: vs) No :=
  ⟨.agg #[v, v'], vs, No, No, rfl, ⟨[v, v'], rfl, v, [v'], No, No, rfl, h, ⟨v', [], No, No, rfl, h', rfl, fun _ h => h, fun _ h => h, fun _ h => h.elim⟩, fun _ h => h, fun _ h => h, fun _ h => h.elim⟩, hr, fun _ h => h, fun _ h => h, fun _ h => h.elim⟩
end
end Go.Proofs.Ytpppnoliogdkiaa.D
set_option linter.unusedVariables false
namespace Go.Proofs.Ytpppnoliogdkiaa.D
open Go Go.RowKit
end Go.Proofs.Ytpppnoliogdkiaa.D
set_option linter.unusedVariables false
set_option linter.unusedSimpArgs false
namespace Go.Proofs.Ytpppnoliogdkiaa.D
open Go Go.RowKit
noncomputable def denE {R : Type} (E : Env) (f : Fn) (enc : lsd (flats f.outs) × lsd (ios f.ins) → R) (σ : St) : Option R := denC E f.body σ (retG f enc E)
def empSt (b : Bool) : St := { fr := [(0, .lf (.emp b))], ob := [], nx := 0 }
theorem emp_valid {P : Program} {E : Env} (hE : EnvOk P E) (hm : P.follows .mixedOrders = true) {g : FuncId} {fn : Func} {body : Code} {res : List ResultVar} {e : TypeId} {t : Ty} {outs : List ASh} (h : FnOk P E g fn ⟨body, res, [.one (.v (.sl e t))], outs⟩) {R : Type}
    {enc : lsd (flats outs) × lsd (ios [.one (.v (.sl e t))]) → R} {dec : R → lsd (flats outs) × lsd (ios [.one (.v (.sl e t))])} (hde : ∀ y, dec (enc y) = y) {F : lsd (flats [.one (.v (.sl e t))]) → Option R} {r0 : R}
    (hb : ∀ b, denE E ⟨body, res, [.one (.v (.sl e t))], outs⟩ enc (empSt b) = some r0) (hv : Valid P g ⟨[.one (.v (.sl e t))], outs, R, F, dec⟩) :
    Valid P g ⟨[.one (.v (.sl e t))], outs, R, fun x => @ite _ (List.length x.1 = 0) (instDecidableEqNat _ _) (some r0) (F x), dec⟩ := by
  refine ⟨hv.1, fun x r hx Z B S w vs hargs hS hZ hB => ?_⟩
  by_cases h0 : List.length x.1 = 0
  rotate_left
  · exact hv.2 x r ((if_neg h0).symm.trans hx) Z B S w vs hargs hS hZ hB
  have hx : some r0 = some r := (if_pos h0).symm.trans hx
  cases hx
  obtain ⟨ρ0, e1, e2, e3⟩ := entry_at (E := E) (f := ⟨body, res, [.one (.v (.sl e t))], outs⟩) h.ro h.len hargs hS hZ hB
  refine calls_of_wp h.func h.body ?_
  rw [h.n]
  obtain ⟨v, vs', F0, F1, rfl, h2, h3, _⟩ := hargs
  have h3 : vs' = [] := h3
  subst h3
  have h2 : Rep Z w false (.sl e t) x.1 [v] F0 := h2
  obtain ⟨A, c, hv1, _, _⟩ := h2
  cases hv1
  have hemp : At P B E.n E.pin ρ0 Z (look (entry [.one (.v (.sl e t))] x).ob) w (empSt A.isNone) { tmps := #[Value.slice A (List.length x.1) c] ++ Array.replicate (E.n - 1) undef, defers := [] } w := by
    obtain ⟨ρ, Z', L, k1, k2, k3, k4, k5, k6, k7⟩ := e3
    refine ⟨ρ, Z', L, k1, k2, k3, fun u av hu => ?_, k5, k6, k7⟩
    by_cases e : u = 0
    · subst e
      have hu : some (AV.lf (.emp A.isNone)) = some av := hu
      cases hu
      refine ⟨A, c, ?_, rfl⟩
      simp only [Act.eval, Array.getD_eq_getD_getElem?, h0]
      rw [Array.getElem?_append_left (by simp)]
      rfl
    · simp [empSt, lk, beq_ne e] at hu
  have out : ∀ {yz}, (collect E ⟨body, res, [.one (.v (.sl e t))], outs⟩ yz).map enc = some r0 → ∃ y, collect E ⟨body, res, [.one (.v (.sl e t))], outs⟩ yz = some y ∧ dec r0 = y := fun {σ} h => by
    cases hc : collect E ⟨body, res, [.one (.v (.sl e t))], outs⟩ σ with
    | none => rw [hc] at h; cases h
    | some y =>
      rw [hc] at h
      cases h
      exact ⟨y, rfl, hde y⟩
  refine denC_sound hE hm body (retG ⟨body, res, [.one (.v (.sl e t))], outs⟩ enc E) r0 (empSt A.isNone) _ w _ (hb _) hemp fun ex σ' a' w' hk hat => ?_
  cases ex with
  | normal =>
    obtain ⟨y, hy, e⟩ := out hk
    obtain ⟨d, u, hr, hp⟩ := exit_post (fn := fn) hE h.res h.pin e1 e2 hat hy
    exact ⟨d, u, hr, u, rfl, by show ∃ Z' Fi Fo, PostR P B Z S w _ outs _ (dec r0).1 (dec r0).2 u w' Z' Fi Fo; rw [e]; exact hp⟩
  | exit i => cases hk
  | ret =>
    obtain ⟨y, hy, e⟩ := out hk
    obtain ⟨d, u, hr, hp⟩ := exit_post (fn := fn) hE h.res h.pin e1 e2 hat hy
    exact ⟨d, u, hr, u, rfl, by show ∃ Z' Fi Fo, PostR P B Z S w _ outs _ (dec r0).1 (dec r0).2 u w' Z' Fi Fo; rw [e]; exact hp⟩
end Go.Proofs.Ytpppnoliogdkiaa.D
namespace Go.Proofs.Ytpppnoliogdkiaa.D
noncomputable def fuel : Nat := Classical.choose (⟨64, rfl⟩ : ∃ n, n = 64)
theorem fuel_eq : fuel = 64 := Classical.choose_spec (⟨64, rfl⟩ : ∃ n, n = 64)
theorem valid_none {P : Go.Program} {g : Go.FuncId} (hc : Callable P g) {ins outs : List ASh} {R : Type} {dec : R → lsd (flats outs) × lsd (ios ins)} : Valid P g ⟨ins, outs, R, fun _ => none, dec⟩ := ⟨hc, fun x r h => by cases h⟩
end Go.Proofs.Ytpppnoliogdkiaa.D
set_option linter.unusedVariables false
namespace Go.Proofs.Ytpppnoliogdkiaa.P
open Go Go.RowKit Go.Proofs.Ytpppnoliogdkiaa.D
noncomputable def spec_l06Go.E (c : Con) : Env := { tt := TT, con := [(79, c), (133, spec_l03At.con), (96, spec_l01Own.con)], frz := [92], rows := [], live := [(3, [3, 4, 5, 6, 10, 11]), (6, [3, 4, 5, 6, 10, 11, 12]), (16, [3, 4, 5, 6, 15])], n := 98, pin := 0, nils := [] }
noncomputable def spec_l06Go.fn : D.Fn := { body := Try.f79.body.getD .skip, res := Try.f79.results.toList, ins := [.agg [.v (.sl 25 (.sl 2 (.int .i64)))], .agg [.v (.int .i64), .v (.sl 2 (.int .i64))], .agg [.v (.int .i64), .v (.sl 2 (.int .i64))], .one (.v (.sl 2 (.int .i64)))], outs := [.one (.v (.sl 2 (.int .i64))), .one (.v .bool)] }
def spec_l06Go.enc (y : lsd (flats spec_l06Go.fn.outs) × lsd (ios spec_l06Go.fn.ins)) : (List Int) × Bool := (y.1.1, y.1.2.1)
noncomputable def spec_l06Go.cof (F : lsd (flats spec_l06Go.fn.ins) → Option ((List Int) × Bool)) : Con := ⟨spec_l06Go.fn.ins, spec_l06Go.fn.outs, (List Int) × Bool, F, fun r => ((r.1, r.2, ()), (()))⟩
noncomputable def spec_l06Go.fx : Nat → lsd (flats spec_l06Go.fn.ins) → Option ((List Int) × Bool)
 | 0 => fun _ => none
 | n + 1 => fun x => denF (spec_l06Go.E (spec_l06Go.cof (spec_l06Go.fx n))) spec_l06Go.fn spec_l06Go.enc x
noncomputable def spec_l06Go.cn (n : Nat) : Con := spec_l06Go.cof (spec_l06Go.fx n)
noncomputable def spec_l06Go.f (n : Nat) (l0_0 : List (List Int)) (a1_0 : Int) (l1_1 : List Int) (a2_0 : Int) (l2_1 : List Int) (l3 : List Int) : Option ((List Int) × Bool) := spec_l06Go.fx n (l0_0, a1_0, l1_1, a2_0, l2_1, l3, ())
noncomputable def spec_l06Go.l0 (n : Nat) (x3 : List Int) (x10 : Int) (x11 : Int) (b0_0 : List (List Int)) (b1_0 : Int) (b1_1 : List Int) (b2_0 : Int) (b2_1 : List Int) : Option ((List Int) × Bool) := denAt (spec_l06Go.E (spec_l06Go.cn n)) spec_l06Go.fn spec_l06Go.enc [1, 1, 0, 1, 0] { fr := [(3, .lf (.sl (.int .i64) x3)), (4, .lf (.box 0 0)), (5, .lf (.box 1 0)), (6, .lf (.box 2 0)), (10, .lf (.int .i64 x10)), (11, .lf (.int .i64 x11))], ob := [(0, .box 32 false [.sl (.sl 2 (.int .i64)) b0_0]), (1, .box 34 false [.int .i64 b1_0, .sl (.int .i64) b1_1]), (2, .box 48 false [.int .i64 b2_0, .sl (.int .i64) b2_1])], nx := 3 }
noncomputable def spec_l06Go.l1 (n : Nat) (x3 : List Int) (x10 : Int) (x11 : Int) (x12 : Int) (b0_0 : List (List Int)) (b1_0 : Int) (b1_1 : List Int) (b2_0 : Int) (b2_1 : List Int) : Option ((List Int) × Bool) := denAt (spec_l06Go.E (spec_l06Go.cn n)) spec_l06Go.fn spec_l06Go.enc [1, 1, 0, 1, 0, 0, 1, 0, 0, 1, 0] { fr := [(3, .lf (.sl (.int .i64) x3)), (4, .lf (.box 0 0)), (5, .lf (.box 1 0)), (6, .lf (.box 2 0)), (10, .lf (.int .i64 x10)), (11, .lf (.int .i64 x11)), (12, .lf (.int .i64 x12))], ob := [(0, .box 32 false [.sl (.sl 2 (.int .i64)) b0_0]), (1, .box 34 false [.int .i64 b1_0, .sl (.int .i64) b1_1]), (2, .box 48 false [.int .i64 b2_0, .sl (.int .i64) b2_1])], nx := 3 }
noncomputable def spec_l06Go.l2 (n : Nat) (x3 : List Int) (x15 : Int) (b0_0 : List (List Int)) (b1_0 : Int) (b1_1 : List Int) (b2_0 : Int) (b2_1 : List Int) : Option ((List Int) × Bool) := denAt (spec_l06Go.E (spec_l06Go.cn n)) spec_l06Go.fn spec_l06Go.enc [1, 1, 1, 1, 0, 1, 0] { fr := [(3, .lf (.sl (.int .i64) x3)), (4, .lf (.box 0 0)), (5, .lf (.box 1 0)), (6, .lf (.box 2 0)), (15, .lf (.int .i64 x15))], ob := [(0, .box 32 false [.sl (.sl 2 (.int .i64)) b0_0]), (1, .box 34 false [.int .i64 b1_0, .sl (.int .i64) b1_1]), (2, .box 48 false [.int .i64 b2_0, .sl (.int .i64) b2_1])], nx := 3 }
set_option maxRecDepth 100000 in
theorem spec_l06Go.f_eq (n : Nat) (l0_0 : List (List Int)) (a1_0 : Int) (l1_1 : List Int) (a2_0 : Int) (l2_1 : List Int) (l3 : List Int) : spec_l06Go.f (n + 1) l0_0 a1_0 l1_1 a2_0 l2_1 l3 = spec_l06Go.l0 n l3 (l3.length : Int) 0 l0_0 a1_0 l1_1 a2_0 l2_1 := by kernel_rfl
set_option maxRecDepth 100000 in
theorem spec_l06Go.l0_eq (n : Nat) (x3 : List Int) (x10 : Int) (x11 : Int) (b0_0 : List (List Int)) (b1_0 : Int) (b1_1 : List Int) (b2_0 : Int) (b2_1 : List Int) : spec_l06Go.l0 n x3 x10 x11 b0_0 b1_0 b1_1 b2_0 b2_1 = if x11 < x10 then (spec_l06Go.l1 n x3 x10 x11 0 b0_0 b1_0 b1_1 b2_0 b2_1) else (if x10 = (b0_0.length : Int) then (some (x3, true)) else (spec_l06Go.l2 n x3 0 b0_0 b1_0 b1_1 b2_0 b2_1)) := (loop_unfold _ _ _ _).trans (by kernel_rfl)
set_option maxRecDepth 100000 in
theorem spec_l06Go.l1_eq (n : Nat) (x3 : List Int) (x10 : Int) (x11 : Int) (x12 : Int) (b0_0 : List (List Int)) (b1_0 : Int) (b1_1 : List Int) (b2_0 : Int) (b2_1 : List Int) : spec_l06Go.l1 n x3 x10 x11 x12 b0_0 b1_0 b1_1 b2_0 b2_1 = if x12 < x10 then (if 0 ≤ x11 then (if x11 < (b0_0.length : Int) then (if 0 ≤ x12 then (if x12 < ((row b0_0 x11).length : Int) then (if (T b0_0 x11 x12) < x10 then (if 0 ≤ x11 then (if x11 < (x3.length : Int) then (if 0 ≤ x11 then (if x11 < (b1_1.length : Int) then (if 0 ≤ x12 then (if x12 < (x3.length : Int) then ((spec_l03At.f b0_0 b2_0 b2_1 ([x11, x12] : List Int)).bind fun t61 => if b1_0 = 0 then none else (if 0 ≤ T b0_0 x11 x12 then (if T b0_0 x11 x12 < (x3.length : Int) then (if ((wrapI ((wrapI ((rd x3 x11) + (wrapI ((rd b1_1 x11) * (rd x3 x12))))) + t61) : Int).tmod b1_0) = (rd x3 (T b0_0 x11 x12)) then (spec_l06Go.l1 n x3 x10 x11 (wrapI (x12 + 1)) b0_0 b1_0 b1_1 b2_0 b2_1) else (some (([] : List Int), false))) else none) else none)) else none) else none) else none) else none) else none) else none) else (spec_l06Go.l1 n x3 x10 x11 (wrapI (x12 + 1)) b0_0 b1_0 b1_1 b2_0 b2_1)) else none) else none) else none) else none) else (spec_l06Go.l0 n x3 x10 (wrapI (x11 + 1)) b0_0 b1_0 b1_1 b2_0 b2_1) := (loop_unfold _ _ _ _).trans (by kernel_rfl)
set_option maxRecDepth 100000 in
theorem spec_l06Go.l2_eq (n : Nat) (x3 : List Int) (x15 : Int) (b0_0 : List (List Int)) (b1_0 : Int) (b1_1 : List Int) (b2_0 : Int) (b2_1 : List Int) : spec_l06Go.l2 n x3 x15 b0_0 b1_0 b1_1 b2_0 b2_1 = if x15 < b1_0 then ((spec_l01Own.f x3).bind fun t89 => if t89.length + ([x15] : List Int).length ≤ 17592186044416 then ((spec_l06Go.f n b0_0 b1_0 b1_1 b2_0 b2_1 (t89 ++ ([x15] : List Int))).bind fun t93 => if t93.2 = true then (some (t93.1, true)) else (spec_l06Go.l2 n x3 (wrapI (x15 + 1)) b0_0 b1_0 b1_1 b2_0 b2_1)) else none) else (some (([] : List Int), false)) := (loop_unfold _ _ _ _).trans (by kernel_rfl)
theorem spec_l06Go.vn : ∀ n, Valid Try.prog 79 (spec_l06Go.cn n)
 | 0 => valid_none ⟨_, Try.func79, by kernel_rfl, by kernel_rfl⟩
 | n + 1 => fn_valid (f := spec_l06Go.fn) (E := spec_l06Go.E (spec_l06Go.cn n)) (enc := spec_l06Go.enc) ⟨ttOk, (conCons (spec_l06Go.vn n) (conCons spec_l03At.valid (conCons spec_l01Own.valid conNil)))⟩ (Checked.mixed Try.checked) ⟨Try.func79, by kernel_rfl, by kernel_rfl, by kernel_rfl, by kernel_rfl, of_decide_eq_true (by kernel_rfl), by kernel_rfl, by kernel_rfl⟩ (fun _ => rfl)
noncomputable def spec_l06Go.con : Con := spec_l06Go.cn fuel
theorem spec_l06Go.valid : Valid Try.prog 79 spec_l06Go.con := spec_l06Go.vn fuel
end Go.Proofs.Ytpppnoliogdkiaa.P
set_option linter.unusedVariables false
namespace Go.Proofs.Ytpppnoliogdkiaa.P
open Go Go.RowKit Go.Proofs.Ytpppnoliogdkiaa.D
noncomputable def spec_FirstSection.E : Env := { tt := TT, con := [(78, spec_l06Given.con), (79, spec_l06Go.con)], frz := [22], rows := [], live := [], n := 29, pin := 0, nils := [] }
noncomputable def spec_FirstSection.fn : D.Fn := { body := Try.f35.body.getD .skip, res := Try.f35.results.toList, ins := [.agg [.v (.sl 25 (.sl 2 (.int .i64)))], .agg [.v (.int .i64), .v (.sl 2 (.int .i64))], .agg [.v (.int .i64), .v (.sl 2 (.int .i64))]], outs := [.one (.v (.sl 2 (.int .i64))), .one (.v (.int .i64))] }
def spec_FirstSection.enc (y : lsd (flats spec_FirstSection.fn.outs) × lsd (ios spec_FirstSection.fn.ins)) : (List Int) × Int := (y.1.1, y.1.2.1)
noncomputable def spec_FirstSection.f (l0_0 : List (List Int)) (a1_0 : Int) (l1_1 : List Int) (a2_0 : Int) (l2_1 : List Int) : Option ((List Int) × Int) := denF spec_FirstSection.E spec_FirstSection.fn spec_FirstSection.enc (l0_0, a1_0, l1_1, a2_0, l2_1, ())
set_option maxRecDepth 100000 in
theorem spec_FirstSection.f_eq (l0_0 : List (List Int)) (a1_0 : Int) (l1_1 : List Int) (a2_0 : Int) (l2_1 : List Int) : spec_FirstSection.f l0_0 a1_0 l1_1 a2_0 l2_1 = (spec_l06Given.f l0_0 a1_0 l1_1 a2_0 l2_1 64).bind fun t14 => if t14 = 0 then ((spec_l06Go.f fuel l0_0 a1_0 l1_1 a2_0 l2_1 ([] : List Int)).bind fun t23 => if t23.2 = true then (some (t23.1, 0)) else (some (([] : List Int), 5))) else (some (([] : List Int), t14)) := by kernel_rfl
noncomputable def spec_FirstSection.con : Con := ⟨spec_FirstSection.fn.ins, spec_FirstSection.fn.outs, (List Int) × Int, fun x => spec_FirstSection.f x.1 x.2.1 x.2.2.1 x.2.2.2.1 x.2.2.2.2.1, fun r => ((r.1, r.2, ()), (()))⟩
theorem spec_FirstSection.valid : Valid Try.prog 35 spec_FirstSection.con := fn_valid (f := spec_FirstSection.fn) (E := spec_FirstSection.E) (enc := spec_FirstSection.enc) ⟨ttOk, (conCons spec_l06Given.valid (conCons spec_l06Go.valid conNil))⟩ (Checked.mixed Try.checked) ⟨Try.func35, by kernel_rfl, by kernel_rfl, by kernel_rfl, by kernel_rfl, by decide, by kernel_rfl, by kernel_rfl⟩ (fun _ => rfl)
end Go.Proofs.Ytpppnoliogdkiaa.P
set_option linter.unusedVariables false
namespace Go.Proofs.Ytpppnoliogdkiaa.P
open Go Go.RowKit Go.Proofs.Ytpppnoliogdkiaa.D
noncomputable def impl_order.E : Env := { tt := TT, con := [], frz := [], rows := [], live := [], n := 6, pin := 0, nils := [] }
noncomputable def impl_order.fn : D.Fn := { body := Try.f134.body.getD .skip, res := Try.f134.results.toList, ins := [.agg [.v (.sl 25 (.sl 2 (.int .i64)))]], outs := [.one (.v (.int .i64))] }
def impl_order.enc (y : lsd (flats impl_order.fn.outs) × lsd (ios impl_order.fn.ins)) : Int := y.1.1
noncomputable def impl_order.f (l0_0 : List (List Int)) : Option Int := denF impl_order.E impl_order.fn impl_order.enc (l0_0, ())
set_option maxRecDepth 100000 in
theorem impl_order.f_eq (l0_0 : List (List Int)) : impl_order.f l0_0 = some (l0_0.length : Int) := by kernel_rfl
noncomputable def impl_order.con : Con := ⟨impl_order.fn.ins, impl_order.fn.outs, Int, fun x => impl_order.f x.1, fun r => ((r, ()), (()))⟩
theorem impl_order.valid : Valid Try.prog 134 impl_order.con := fn_valid (f := impl_order.fn) (E := impl_order.E) (enc := impl_order.enc) ⟨ttOk, conNil⟩ (Checked.mixed Try.checked) ⟨Try.func134, by kernel_rfl, by kernel_rfl, by kernel_rfl, by kernel_rfl, by decide, by kernel_rfl, by kernel_rfl⟩ (fun _ => rfl)
end Go.Proofs.Ytpppnoliogdkiaa.P
set_option linter.unusedVariables false
namespace Go.Proofs.Ytpppnoliogdkiaa.P
open Go Go.RowKit Go.Proofs.Ytpppnoliogdkiaa.D
noncomputable def impl_areIn.E : Env := { tt := TT, con := [], frz := [], rows := [], live := [(2, [0, 7, 8, 9])], n := 21, pin := 0, nils := [] }
noncomputable def impl_areIn.fn : D.Fn := { body := Try.f148.body.getD .skip, res := Try.f148.results.toList, ins := [.one (.v (.int .i64)), .one (.v (.sl 2 (.int .i64)))], outs := [.one (.v .bool)] }
def impl_areIn.enc (y : lsd (flats impl_areIn.fn.outs) × lsd (ios impl_areIn.fn.ins)) : Bool := y.1.1
noncomputable def impl_areIn.f (a0 : Int) (l1 : List Int) : Option Bool := denF impl_areIn.E impl_areIn.fn impl_areIn.enc (a0, l1, ())
noncomputable def impl_areIn.l0 (x0 : Int) (x7 : List Int) (x8 : Int) (x9 : Int) : Option Bool := denAt impl_areIn.E impl_areIn.fn impl_areIn.enc [1, 0, 1, 0] { fr := [(0, .lf (.int .i64 x0)), (7, .lf (.sl (.int .i64) x7)), (8, .lf (.int .i64 x8)), (9, .lf (.int .i64 x9))], ob := [], nx := 0 }
set_option maxRecDepth 100000 in
theorem impl_areIn.f_eq (a0 : Int) (l1 : List Int) : impl_areIn.f a0 l1 = impl_areIn.l0 a0 l1 (l1.length : Int) 0 := by kernel_rfl
set_option maxRecDepth 100000 in
theorem impl_areIn.l0_eq (x0 : Int) (x7 : List Int) (x8 : Int) (x9 : Int) : impl_areIn.l0 x0 x7 x8 x9 = if x9 < x8 then (if 0 ≤ x9 then (if x9 < (x7.length : Int) then (if (rd x7 x9) < 0 then (some false) else (if (rd x7 x9) ≥ x0 then (some false) else (impl_areIn.l0 x0 x7 x8 (wrapI (x9 + 1))))) else none) else none) else (some true) := (loop_unfold _ _ _ _).trans (by kernel_rfl)
noncomputable def impl_areIn.con : Con := ⟨impl_areIn.fn.ins, impl_areIn.fn.outs, Bool, fun x => impl_areIn.f x.1 x.2.1, fun r => ((r, ()), (()))⟩
theorem impl_areIn.valid : Valid Try.prog 148 impl_areIn.con := fn_valid (f := impl_areIn.fn) (E := impl_areIn.E) (enc := impl_areIn.enc) ⟨ttOk, conNil⟩ (Checked.mixed Try.checked) ⟨Try.func148, by kernel_rfl, by kernel_rfl, by kernel_rfl, by kernel_rfl, by decide, by kernel_rfl, by kernel_rfl⟩ (fun _ => rfl)
end Go.Proofs.Ytpppnoliogdkiaa.P
set_option linter.unusedVariables false
namespace Go.Proofs.Ytpppnoliogdkiaa.P
open Go Go.RowKit Go.Proofs.Ytpppnoliogdkiaa.D
noncomputable def slices_Index_int64.E : Env := { tt := TT, con := [], frz := [], rows := [], live := [(2, [0, 1, 7, 8])], n := 19, pin := 0, nils := [] }
noncomputable def slices_Index_int64.fn : D.Fn := { body := Try.f183.body.getD .skip, res := Try.f183.results.toList, ins := [.one (.v (.sl 2 (.int .i64))), .one (.v (.int .i64))], outs := [.one (.v (.int .i64))] }
def slices_Index_int64.enc (y : lsd (flats slices_Index_int64.fn.outs) × lsd (ios slices_Index_int64.fn.ins)) : Int := y.1.1
noncomputable def slices_Index_int64.f (l0 : List Int) (a1 : Int) : Option Int := denF slices_Index_int64.E slices_Index_int64.fn slices_Index_int64.enc (l0, a1, ())
noncomputable def slices_Index_int64.l0 (x0 : List Int) (x1 : Int) (x7 : Int) (x8 : Int) : Option Int := denAt slices_Index_int64.E slices_Index_int64.fn slices_Index_int64.enc [1, 0, 1, 0] { fr := [(0, .lf (.sl (.int .i64) x0)), (1, .lf (.int .i64 x1)), (7, .lf (.int .i64 x7)), (8, .lf (.int .i64 x8))], ob := [], nx := 0 }
set_option maxRecDepth 100000 in
theorem slices_Index_int64.f_eq (l0 : List Int) (a1 : Int) : slices_Index_int64.f l0 a1 = slices_Index_int64.l0 l0 a1 (l0.length : Int) 0 := by kernel_rfl
set_option maxRecDepth 100000 in
theorem slices_Index_int64.l0_eq (x0 : List Int) (x1 : Int) (x7 : Int) (x8 : Int) : slices_Index_int64.l0 x0 x1 x7 x8 = if x8 < x7 then (if 0 ≤ x8 then (if x8 < (x0.length : Int) then (if x1 = (rd x0 x8) then (some x8) else (slices_Index_int64.l0 x0 x1 x7 (wrapI (x8 + 1)))) else none) else none) else (some (-1)) := (loop_unfold _ _ _ _).trans (by kernel_rfl)
noncomputable def slices_Index_int64.con : Con := ⟨slices_Index_int64.fn.ins, slices_Index_int64.fn.outs, Int, fun x => slices_Index_int64.f x.1 x.2.1, fun r => ((r, ()), (()))⟩
theorem slices_Index_int64.valid : Valid Try.prog 183 slices_Index_int64.con := fn_valid (f := slices_Index_int64.fn) (E := slices_Index_int64.E) (enc := slices_Index_int64.enc) ⟨ttOk, conNil⟩ (Checked.mixed Try.checked) ⟨Try.func183, by kernel_rfl, by kernel_rfl, by kernel_rfl, by kernel_rfl, by decide, by kernel_rfl, by kernel_rfl⟩ (fun _ => rfl)
end Go.Proofs.Ytpppnoliogdkiaa.P
set_option linter.unusedVariables false
namespace Go.Proofs.Ytpppnoliogdkiaa.P
open Go Go.RowKit Go.Proofs.Ytpppnoliogdkiaa.D
noncomputable def slices_Contains_int64.E : Env := { tt := TT, con := [(183, slices_Index_int64.con)], frz := [], rows := [], live := [], n := 9, pin := 0, nils := [] }
noncomputable def slices_Contains_int64.fn : D.Fn := { body := Try.f149.body.getD .skip, res := Try.f149.results.toList, ins := [.one (.v (.sl 2 (.int .i64))), .one (.v (.int .i64))], outs := [.one (.v .bool)] }
def slices_Contains_int64.enc (y : lsd (flats slices_Contains_int64.fn.outs) × lsd (ios slices_Contains_int64.fn.ins)) : Bool := y.1.1
noncomputable def slices_Contains_int64.f (l0 : List Int) (a1 : Int) : Option Bool := denF slices_Contains_int64.E slices_Contains_int64.fn slices_Contains_int64.enc (l0, a1, ())
set_option maxRecDepth 100000 in
theorem slices_Contains_int64.f_eq (l0 : List Int) (a1 : Int) : slices_Contains_int64.f l0 a1 = (slices_Index_int64.f l0 a1).bind fun t7 => some (decide (t7 ≥ 0)) := by kernel_rfl
noncomputable def slices_Contains_int64.con : Con := ⟨slices_Contains_int64.fn.ins, slices_Contains_int64.fn.outs, Bool, fun x => slices_Contains_int64.f x.1 x.2.1, fun r => ((r, ()), (()))⟩
theorem slices_Contains_int64.valid : Valid Try.prog 149 slices_Contains_int64.con := fn_valid (f := slices_Contains_int64.fn) (E := slices_Contains_int64.E) (enc := slices_Contains_int64.enc) ⟨ttOk, (conCons slices_Index_int64.valid conNil)⟩ (Checked.mixed Try.checked) ⟨Try.func149, by kernel_rfl, by kernel_rfl, by kernel_rfl, by kernel_rfl, by decide, by kernel_rfl, by kernel_rfl⟩ (fun _ => rfl)
end Go.Proofs.Ytpppnoliogdkiaa.P
set_option linter.unusedVariables false
namespace Go.Proofs.Ytpppnoliogdkiaa.P
open Go Go.RowKit Go.Proofs.Ytpppnoliogdkiaa.D
noncomputable def impl_IsGroup.E : Env := { tt := TT, con := [(134, impl_order.con), (148, impl_areIn.con), (149, slices_Contains_int64.con)], frz := [], rows := [], live := [(5, [1, 3, 18, 19, 20]), (11, [1, 3, 35, 36]), (16, [1, 3, 6, 35, 36, 68, 69]), (19, [1, 3, 6, 7, 35, 36, 68, 69, 72, 73])], n := 110, pin := 0, nils := [] }
noncomputable def impl_IsGroup.fn : D.Fn := { body := Try.f106.body.getD .skip, res := Try.f106.results.toList, ins := [.agg [.v (.sl 25 (.sl 2 (.int .i64)))]], outs := [.one (.v .bool)] }
def impl_IsGroup.enc (y : lsd (flats impl_IsGroup.fn.outs) × lsd (ios impl_IsGroup.fn.ins)) : Bool := y.1.1
noncomputable def impl_IsGroup.f (l0_0 : List (List Int)) : Option Bool := denF impl_IsGroup.E impl_IsGroup.fn impl_IsGroup.enc (l0_0, ())
noncomputable def impl_IsGroup.l0 (x3 : Int) (x18 : List (List Int)) (x19 : Int) (x20 : Int) (b0_0 : List (List Int)) : Option Bool := denAt impl_IsGroup.E impl_IsGroup.fn impl_IsGroup.enc [1, 1, 1, 0, 1, 0] { fr := [(1, .lf (.box 0 0)), (3, .lf (.int .i64 x3)), (18, .lf (.sl (.sl 2 (.int .i64)) x18)), (19, .lf (.int .i64 x19)), (20, .lf (.int .i64 x20))], ob := [(0, .box 32 false [.sl (.sl 2 (.int .i64)) b0_0])], nx := 1 }
noncomputable def impl_IsGroup.l1 (x3 : Int) (x35 : Int) (x36 : Int) (b0_0 : List (List Int)) : Option Bool := denAt impl_IsGroup.E impl_IsGroup.fn impl_IsGroup.enc [1, 1, 1, 1, 0, 1, 0] { fr := [(1, .lf (.box 0 0)), (3, .lf (.int .i64 x3)), (35, .lf (.int .i64 x35)), (36, .lf (.int .i64 x36))], ob := [(0, .box 32 false [.sl (.sl 2 (.int .i64)) b0_0])], nx := 1 }
noncomputable def impl_IsGroup.l2 (x3 : Int) (x6 : Int) (x35 : Int) (x36 : Int) (x68 : Int) (x69 : Int) (b0_0 : List (List Int)) : Option Bool := denAt impl_IsGroup.E impl_IsGroup.fn impl_IsGroup.enc [1, 1, 1, 1, 0, 1, 0, 0, 1, 1, 0, 0, 1, 1, 1, 0] { fr := [(1, .lf (.box 0 0)), (3, .lf (.int .i64 x3)), (6, .lf (.int .i64 x6)), (35, .lf (.int .i64 x35)), (36, .lf (.int .i64 x36)), (68, .lf (.int .i64 x68)), (69, .lf (.int .i64 x69))], ob := [(0, .box 32 false [.sl (.sl 2 (.int .i64)) b0_0])], nx := 1 }
noncomputable def impl_IsGroup.l3 (x3 : Int) (x6 : Int) (x7 : Int) (x35 : Int) (x36 : Int) (x68 : Int) (x69 : Int) (x72 : Int) (x73 : Int) (b0_0 : List (List Int)) : Option Bool := denAt impl_IsGroup.E impl_IsGroup.fn impl_IsGroup.enc [1, 1, 1, 1, 0, 1, 0, 0, 1, 1, 0, 0, 1, 1, 1, 0, 0, 1, 1, 0, 0, 1, 1, 0] { fr := [(1, .lf (.box 0 0)), (3, .lf (.int .i64 x3)), (6, .lf (.int .i64 x6)), (7, .lf (.int .i64 x7)), (35, .lf (.int .i64 x35)), (36, .lf (.int .i64 x36)), (68, .lf (.int .i64 x68)), (69, .lf (.int .i64 x69)), (72, .lf (.int .i64 x72)), (73, .lf (.int .i64 x73))], ob := [(0, .box 32 false [.sl (.sl 2 (.int .i64)) b0_0])], nx := 1 }
set_option maxRecDepth 100000 in
theorem impl_IsGroup.f_eq (l0_0 : List (List Int)) : impl_IsGroup.f l0_0 = (impl_order.f l0_0).bind fun t10 => if t10 < 1 then (some false) else (if t10 > 8 then (some false) else (impl_IsGroup.l0 t10 l0_0 (l0_0.length : Int) 0 l0_0)) := by kernel_rfl
set_option maxRecDepth 100000 in
theorem impl_IsGroup.l0_eq (x3 : Int) (x18 : List (List Int)) (x19 : Int) (x20 : Int) (b0_0 : List (List Int)) : impl_IsGroup.l0 x3 x18 x19 x20 b0_0 = if x20 < x19 then (if 0 ≤ x20 then (if x20 < (x18.length : Int) then (if ((row x18 x20).length : Int) = x3 then ((impl_areIn.f x3 (row x18 x20)).bind fun t31 => if t31 = true then (impl_IsGroup.l0 x3 x18 x19 (wrapI (x20 + 1)) b0_0) else (some false)) else (some false)) else none) else none) else (impl_IsGroup.l1 x3 x3 0 b0_0) := (loop_unfold _ _ _ _).trans (by kernel_rfl)
set_option maxRecDepth 100000 in
theorem impl_IsGroup.l1_eq (x3 : Int) (x35 : Int) (x36 : Int) (b0_0 : List (List Int)) : impl_IsGroup.l1 x3 x35 x36 b0_0 = if x36 < x35 then (if 0 < (b0_0.length : Int) then (if 0 ≤ x36 then (if x36 < ((row b0_0 0).length : Int) then (if (T b0_0 0 x36) = x36 then (if 0 ≤ x36 then (if x36 < (b0_0.length : Int) then (if 0 < ((row b0_0 x36).length : Int) then (if (T b0_0 x36 0) = x36 then (if 0 ≤ x36 then (if x36 < (b0_0.length : Int) then ((slices_Contains_int64.f (row b0_0 x36) 0).bind fun t65 => if t65 = true then (impl_IsGroup.l2 x3 x36 x35 x36 x3 0 b0_0) else (some false)) else none) else none) else (some false)) else none) else none) else none) else (some false)) else none) else none) else none) else (some true) := (loop_unfold _ _ _ _).trans (by kernel_rfl)
set_option maxRecDepth 100000 in
theorem impl_IsGroup.l2_eq (x3 : Int) (x6 : Int) (x35 : Int) (x36 : Int) (x68 : Int) (x69 : Int) (b0_0 : List (List Int)) : impl_IsGroup.l2 x3 x6 x35 x36 x68 x69 b0_0 = if x69 < x68 then (impl_IsGroup.l3 x3 x6 x69 x35 x36 x68 x69 x3 0 b0_0) else (impl_IsGroup.l1 x3 x35 (wrapI (x36 + 1)) b0_0) := (loop_unfold _ _ _ _).trans (by kernel_rfl)
set_option maxRecDepth 100000 in
theorem impl_IsGroup.l3_eq (x3 : Int) (x6 : Int) (x7 : Int) (x35 : Int) (x36 : Int) (x68 : Int) (x69 : Int) (x72 : Int) (x73 : Int) (b0_0 : List (List Int)) : impl_IsGroup.l3 x3 x6 x7 x35 x36 x68 x69 x72 x73 b0_0 = if x73 < x72 then (if 0 ≤ x6 then (if x6 < (b0_0.length : Int) then (if 0 ≤ x7 then (if x7 < ((row b0_0 x6).length : Int) then (if 0 ≤ T b0_0 x6 x7 then (if T b0_0 x6 x7 < (b0_0.length : Int) then (if 0 ≤ x73 then (if x73 < ((row b0_0 (T b0_0 x6 x7)).length : Int) then (if 0 ≤ x6 then (if x6 < (b0_0.length : Int) then (if 0 ≤ x7 then (if x7 < (b0_0.length : Int) then (if 0 ≤ x73 then (if x73 < ((row b0_0 x7).length : Int) then (if 0 ≤ T b0_0 x7 x73 then (if T b0_0 x7 x73 < ((row b0_0 x6).length : Int) then (if (T b0_0 (T b0_0 x6 x7) x73) = (T b0_0 x6 (T b0_0 x7 x73)) then (impl_IsGroup.l3 x3 x6 x7 x35 x36 x68 x69 x72 (wrapI (x73 + 1)) b0_0) else (some false)) else none) else none) else none) else none) else none) else none) else none) else none) else none) else none) else none) else none) else none) else none) else none) else none) else (impl_IsGroup.l2 x3 x6 x35 x36 x68 (wrapI (x69 + 1)) b0_0) := (loop_unfold _ _ _ _).trans (by kernel_rfl)
noncomputable def impl_IsGroup.con : Con := ⟨impl_IsGroup.fn.ins, impl_IsGroup.fn.outs, Bool, fun x => impl_IsGroup.f x.1, fun r => ((r, ()), (()))⟩
theorem impl_IsGroup.valid : Valid Try.prog 106 impl_IsGroup.con := fn_valid (f := impl_IsGroup.fn) (E := impl_IsGroup.E) (enc := impl_IsGroup.enc) ⟨ttOk, (conCons impl_order.valid (conCons impl_areIn.valid (conCons slices_Contains_int64.valid conNil)))⟩ (Checked.mixed Try.checked) ⟨Try.func106, by kernel_rfl, by kernel_rfl, by kernel_rfl, by kernel_rfl, by decide, by kernel_rfl, by kernel_rfl⟩ (fun _ => rfl)
end Go.Proofs.Ytpppnoliogdkiaa.P
set_option linter.unusedVariables false
namespace Go.Proofs.Ytpppnoliogdkiaa.P
open Go Go.RowKit Go.Proofs.Ytpppnoliogdkiaa.D
noncomputable def impl_isModulus.E : Env := { tt := TT, con := [], frz := [], rows := [], live := [], n := 9, pin := 0, nils := [] }
noncomputable def impl_isModulus.fn : D.Fn := { body := Try.f107.body.getD .skip, res := Try.f107.results.toList, ins := [.one (.v (.int .i64))], outs := [.one (.v .bool)] }
def impl_isModulus.enc (y : lsd (flats impl_isModulus.fn.outs) × lsd (ios impl_isModulus.fn.ins)) : Bool := y.1.1
noncomputable def impl_isModulus.f (a0 : Int) : Option Bool := denF impl_isModulus.E impl_isModulus.fn impl_isModulus.enc (a0, ())
set_option maxRecDepth 100000 in
theorem impl_isModulus.f_eq (a0 : Int) : impl_isModulus.f a0 = if a0 ≥ 2 then (some (decide (a0 ≤ 12))) else (some false) := by kernel_rfl
noncomputable def impl_isModulus.con : Con := ⟨impl_isModulus.fn.ins, impl_isModulus.fn.outs, Bool, fun x => impl_isModulus.f x.1, fun r => ((r, ()), (()))⟩
theorem impl_isModulus.valid : Valid Try.prog 107 impl_isModulus.con := fn_valid (f := impl_isModulus.fn) (E := impl_isModulus.E) (enc := impl_isModulus.enc) ⟨ttOk, conNil⟩ (Checked.mixed Try.checked) ⟨Try.func107, by kernel_rfl, by kernel_rfl, by kernel_rfl, by kernel_rfl, by decide, by kernel_rfl, by kernel_rfl⟩ (fun _ => rfl)
end Go.Proofs.Ytpppnoliogdkiaa.P
set_option linter.unusedVariables false
namespace Go.Proofs.Ytpppnoliogdkiaa.P
open Go Go.RowKit Go.Proofs.Ytpppnoliogdkiaa.D
noncomputable def impl_gcd.E : Env := { tt := TT, con := [], frz := [], rows := [], live := [(1, [0, 1])], n := 12, pin := 0, nils := [] }
noncomputable def impl_gcd.fn : D.Fn := { body := Try.f184.body.getD .skip, res := Try.f184.results.toList, ins := [.one (.v (.int .i64)), .one (.v (.int .i64))], outs := [.one (.v (.int .i64))] }
def impl_gcd.enc (y : lsd (flats impl_gcd.fn.outs) × lsd (ios impl_gcd.fn.ins)) : Int := y.1.1
noncomputable def impl_gcd.f (a0 : Int) (a1 : Int) : Option Int := denF impl_gcd.E impl_gcd.fn impl_gcd.enc (a0, a1, ())
noncomputable def impl_gcd.l0 (x0 : Int) (x1 : Int) : Option Int := denAt impl_gcd.E impl_gcd.fn impl_gcd.enc [1, 0, 0] { fr := [(0, .lf (.int .i64 x0)), (1, .lf (.int .i64 x1))], ob := [], nx := 0 }
set_option maxRecDepth 100000 in
theorem impl_gcd.f_eq (a0 : Int) (a1 : Int) : impl_gcd.f a0 a1 = impl_gcd.l0 a0 a1 := by kernel_rfl
set_option maxRecDepth 100000 in
theorem impl_gcd.l0_eq (x0 : Int) (x1 : Int) : impl_gcd.l0 x0 x1 = if x1 = 0 then (some x0) else (if x1 = 0 then none else (impl_gcd.l0 x1 ((x0 : Int).tmod x1))) := (loop_unfold _ _ _ _).trans (by kernel_rfl)
noncomputable def impl_gcd.con : Con := ⟨impl_gcd.fn.ins, impl_gcd.fn.outs, Int, fun x => impl_gcd.f x.1 x.2.1, fun r => ((r, ()), (()))⟩
theorem impl_gcd.valid : Valid Try.prog 184 impl_gcd.con := fn_valid (f := impl_gcd.fn) (E := impl_gcd.E) (enc := impl_gcd.enc) ⟨ttOk, conNil⟩ (Checked.mixed Try.checked) ⟨Try.func184, by kernel_rfl, by kernel_rfl, by kernel_rfl, by kernel_rfl, by decide, by kernel_rfl, by kernel_rfl⟩ (fun _ => rfl)
end Go.Proofs.Ytpppnoliogdkiaa.P
set_option linter.unusedVariables false
namespace Go.Proofs.Ytpppnoliogdkiaa.P
open Go Go.RowKit Go.Proofs.Ytpppnoliogdkiaa.D
noncomputable def impl_isUnit.E : Env := { tt := TT, con := [(184, impl_gcd.con)], frz := [], rows := [], live := [], n := 18, pin := 0, nils := [] }
noncomputable def impl_isUnit.fn : D.Fn := { body := Try.f152.body.getD .skip, res := Try.f152.results.toList, ins := [.one (.v (.int .i64)), .one (.v (.int .i64))], outs := [.one (.v .bool)] }
def impl_isUnit.enc (y : lsd (flats impl_isUnit.fn.outs) × lsd (ios impl_isUnit.fn.ins)) : Bool := y.1.1
noncomputable def impl_isUnit.f (a0 : Int) (a1 : Int) : Option Bool := denF impl_isUnit.E impl_isUnit.fn impl_isUnit.enc (a0, a1, ())
set_option maxRecDepth 100000 in
theorem impl_isUnit.f_eq (a0 : Int) (a1 : Int) : impl_isUnit.f a0 a1 = if a1 ≥ 1 then (if a1 < a0 then ((impl_gcd.f a0 a1).bind fun t15 => some (decide (t15 = 1))) else (some false)) else (some false) := by kernel_rfl
noncomputable def impl_isUnit.con : Con := ⟨impl_isUnit.fn.ins, impl_isUnit.fn.outs, Bool, fun x => impl_isUnit.f x.1 x.2.1, fun r => ((r, ()), (()))⟩
theorem impl_isUnit.valid : Valid Try.prog 152 impl_isUnit.con := fn_valid (f := impl_isUnit.fn) (E := impl_isUnit.E) (enc := impl_isUnit.enc) ⟨ttOk, (conCons impl_gcd.valid conNil)⟩ (Checked.mixed Try.checked) ⟨Try.func152, by kernel_rfl, by kernel_rfl, by kernel_rfl, by kernel_rfl, by decide, by kernel_rfl, by kernel_rfl⟩ (fun _ => rfl)
end Go.Proofs.Ytpppnoliogdkiaa.P
set_option linter.unusedVariables false
namespace Go.Proofs.Ytpppnoliogdkiaa.P
open Go Go.RowKit Go.Proofs.Ytpppnoliogdkiaa.D
noncomputable def impl_Group_times.E : Env := { tt := TT, con := [], frz := [], rows := [], live := [(3, [2, 5, 8, 9, 10])], n := 24, pin := 0, nils := [] }
noncomputable def impl_Group_times.fn : D.Fn := { body := Try.f153.body.getD .skip, res := Try.f153.results.toList, ins := [.agg [.v (.sl 25 (.sl 2 (.int .i64)))], .one (.v (.sl 2 (.int .i64)))], outs := [.one (.v (.int .i64))] }
def impl_Group_times.enc (y : lsd (flats impl_Group_times.fn.outs) × lsd (ios impl_Group_times.fn.ins)) : Int := y.1.1
noncomputable def impl_Group_times.f (l0_0 : List (List Int)) (l1 : List Int) : Option Int := denF impl_Group_times.E impl_Group_times.fn impl_Group_times.enc (l0_0, l1, ())
noncomputable def impl_Group_times.l0 (x5 : Int) (x8 : List Int) (x9 : Int) (x10 : Int) (b0_0 : List (List Int)) : Option Int := denAt impl_Group_times.E impl_Group_times.fn impl_Group_times.enc [1, 1, 0, 1, 0] { fr := [(2, .lf (.box 0 0)), (5, .lf (.int .i64 x5)), (8, .lf (.sl (.int .i64) x8)), (9, .lf (.int .i64 x9)), (10, .lf (.int .i64 x10))], ob := [(0, .box 32 false [.sl (.sl 2 (.int .i64)) b0_0])], nx := 1 }
set_option maxRecDepth 100000 in
theorem impl_Group_times.f_eq (l0_0 : List (List Int)) (l1 : List Int) : impl_Group_times.f l0_0 l1 = impl_Group_times.l0 0 l1 (l1.length : Int) 0 l0_0 := by kernel_rfl
set_option maxRecDepth 100000 in
theorem impl_Group_times.l0_eq (x5 : Int) (x8 : List Int) (x9 : Int) (x10 : Int) (b0_0 : List (List Int)) : impl_Group_times.l0 x5 x8 x9 x10 b0_0 = if x10 < x9 then (if 0 ≤ x10 then (if x10 < (x8.length : Int) then (if 0 ≤ x5 then (if x5 < (b0_0.length : Int) then (if 0 ≤ rd x8 x10 then (if rd x8 x10 < ((row b0_0 x5).length : Int) then (impl_Group_times.l0 (T b0_0 x5 (rd x8 x10)) x8 x9 (wrapI (x10 + 1)) b0_0) else none) else none) else none) else none) else none) else none) else (some x5) := (loop_unfold _ _ _ _).trans (by kernel_rfl)
noncomputable def impl_Group_times.con : Con := ⟨impl_Group_times.fn.ins, impl_Group_times.fn.outs, Int, fun x => impl_Group_times.f x.1 x.2.1, fun r => ((r, ()), (()))⟩
theorem impl_Group_times.valid : Valid Try.prog 153 impl_Group_times.con := fn_valid (f := impl_Group_times.fn) (E := impl_Group_times.E) (enc := impl_Group_times.enc) ⟨ttOk, conNil⟩ (Checked.mixed Try.checked) ⟨Try.func153, by kernel_rfl, by kernel_rfl, by kernel_rfl, by kernel_rfl, by decide, by kernel_rfl, by kernel_rfl⟩ (fun _ => rfl)
end Go.Proofs.Ytpppnoliogdkiaa.P
set_option linter.unusedVariables false
namespace Go.Proofs.Ytpppnoliogdkiaa.P
open Go Go.RowKit Go.Proofs.Ytpppnoliogdkiaa.D
noncomputable def impl_isModule.E : Env := { tt := TT, con := [(107, impl_isModulus.con), (134, impl_order.con), (152, impl_isUnit.con), (153, impl_Group_times.con)], frz := [], rows := [], live := [(4, [2, 3, 29, 30, 31]), (10, [2, 3, 42, 43]), (13, [2, 3, 7, 42, 43, 47, 48])], n := 77, pin := 0, nils := [] }
noncomputable def impl_isModule.fn : D.Fn := { body := Try.f151.body.getD .skip, res := Try.f151.results.toList, ins := [.agg [.v (.sl 25 (.sl 2 (.int .i64)))], .agg [.v (.int .i64), .v (.sl 2 (.int .i64))]], outs := [.one (.v .bool)] }
def impl_isModule.enc (y : lsd (flats impl_isModule.fn.outs) × lsd (ios impl_isModule.fn.ins)) : Bool := y.1.1
noncomputable def impl_isModule.f (l0_0 : List (List Int)) (a1_0 : Int) (l1_1 : List Int) : Option Bool := denF impl_isModule.E impl_isModule.fn impl_isModule.enc (l0_0, a1_0, l1_1, ())
noncomputable def impl_isModule.l0 (x29 : List Int) (x30 : Int) (x31 : Int) (b0_0 : List (List Int)) (b1_0 : Int) (b1_1 : List Int) : Option Bool := denAt impl_isModule.E impl_isModule.fn impl_isModule.enc [1, 1, 0, 1, 0] { fr := [(2, .lf (.box 0 0)), (3, .lf (.box 1 0)), (29, .lf (.sl (.int .i64) x29)), (30, .lf (.int .i64 x30)), (31, .lf (.int .i64 x31))], ob := [(0, .box 32 false [.sl (.sl 2 (.int .i64)) b0_0]), (1, .box 34 false [.int .i64 b1_0, .sl (.int .i64) b1_1])], nx := 2 }
noncomputable def impl_isModule.l1 (x42 : Int) (x43 : Int) (b0_0 : List (List Int)) (b1_0 : Int) (b1_1 : List Int) : Option Bool := denAt impl_isModule.E impl_isModule.fn impl_isModule.enc [1, 1, 1, 0, 1, 0] { fr := [(2, .lf (.box 0 0)), (3, .lf (.box 1 0)), (42, .lf (.int .i64 x42)), (43, .lf (.int .i64 x43))], ob := [(0, .box 32 false [.sl (.sl 2 (.int .i64)) b0_0]), (1, .box 34 false [.int .i64 b1_0, .sl (.int .i64) b1_1])], nx := 2 }
noncomputable def impl_isModule.l2 (x7 : Int) (x42 : Int) (x43 : Int) (x47 : Int) (x48 : Int) (b0_0 : List (List Int)) (b1_0 : Int) (b1_1 : List Int) : Option Bool := denAt impl_isModule.E impl_isModule.fn impl_isModule.enc [1, 1, 1, 0, 1, 0, 0, 1, 1, 0, 0, 1, 1, 0] { fr := [(2, .lf (.box 0 0)), (3, .lf (.box 1 0)), (7, .lf (.int .i64 x7)), (42, .lf (.int .i64 x42)), (43, .lf (.int .i64 x43)), (47, .lf (.int .i64 x47)), (48, .lf (.int .i64 x48))], ob := [(0, .box 32 false [.sl (.sl 2 (.int .i64)) b0_0]), (1, .box 34 false [.int .i64 b1_0, .sl (.int .i64) b1_1])], nx := 2 }
set_option maxRecDepth 100000 in
theorem impl_isModule.f_eq (l0_0 : List (List Int)) (a1_0 : Int) (l1_1 : List Int) : impl_isModule.f l0_0 a1_0 l1_1 = (impl_isModulus.f a1_0).bind fun t11 => if t11 = true then ((impl_order.f l0_0).bind fun t18 => if (l1_1.length : Int) = t18 then (if 0 < (l1_1.length : Int) then (if (rd l1_1 0) = 1 then (impl_isModule.l0 l1_1 (l1_1.length : Int) 0 l0_0 a1_0 l1_1) else (some false)) else none) else (some false)) else (some false) := by kernel_rfl
set_option maxRecDepth 100000 in
theorem impl_isModule.l0_eq (x29 : List Int) (x30 : Int) (x31 : Int) (b0_0 : List (List Int)) (b1_0 : Int) (b1_1 : List Int) : impl_isModule.l0 x29 x30 x31 b0_0 b1_0 b1_1 = if x31 < x30 then (if 0 ≤ x31 then (if x31 < (x29.length : Int) then ((impl_isUnit.f b1_0 (rd x29 x31)).bind fun t38 => if t38 = true then (impl_isModule.l0 x29 x30 (wrapI (x31 + 1)) b0_0 b1_0 b1_1) else (some false)) else none) else none) else ((impl_order.f b0_0).bind fun t42 => impl_isModule.l1 t42 0 b0_0 b1_0 b1_1) := (loop_unfold _ _ _ _).trans (by kernel_rfl)
set_option maxRecDepth 100000 in
theorem impl_isModule.l1_eq (x42 : Int) (x43 : Int) (b0_0 : List (List Int)) (b1_0 : Int) (b1_1 : List Int) : impl_isModule.l1 x42 x43 b0_0 b1_0 b1_1 = if x43 < x42 then ((impl_order.f b0_0).bind fun t47 => impl_isModule.l2 x43 x42 x43 t47 0 b0_0 b1_0 b1_1) else (some true) := (loop_unfold _ _ _ _).trans (by kernel_rfl)
set_option maxRecDepth 100000 in
theorem impl_isModule.l2_eq (x7 : Int) (x42 : Int) (x43 : Int) (x47 : Int) (x48 : Int) (b0_0 : List (List Int)) (b1_0 : Int) (b1_1 : List Int) : impl_isModule.l2 x7 x42 x43 x47 x48 b0_0 b1_0 b1_1 = if x48 < x47 then ((impl_Group_times.f b0_0 ([x7, x48] : List Int)).bind fun t57 => if 0 ≤ t57 then (if t57 < (b1_1.length : Int) then (if 0 ≤ x7 then (if x7 < (b1_1.length : Int) then (if 0 ≤ x48 then (if x48 < (b1_1.length : Int) then (if b1_0 = 0 then none else (if (rd b1_1 t57) = ((wrapI ((rd b1_1 x7) * (rd b1_1 x48)) : Int).tmod b1_0) then (impl_isModule.l2 x7 x42 x43 x47 (wrapI (x48 + 1)) b0_0 b1_0 b1_1) else (some false))) else none) else none) else none) else none) else none) else none) else (impl_isModule.l1 x42 (wrapI (x43 + 1)) b0_0 b1_0 b1_1) := (loop_unfold _ _ _ _).trans (by kernel_rfl)
noncomputable def impl_isModule.con : Con := ⟨impl_isModule.fn.ins, impl_isModule.fn.outs, Bool, fun x => impl_isModule.f x.1 x.2.1 x.2.2.1, fun r => ((r, ()), (()))⟩
theorem impl_isModule.valid : Valid Try.prog 151 impl_isModule.con := fn_valid (f := impl_isModule.fn) (E := impl_isModule.E) (enc := impl_isModule.enc) ⟨ttOk, (conCons impl_isModulus.valid (conCons impl_order.valid (conCons impl_isUnit.valid (conCons impl_Group_times.valid conNil))))⟩ (Checked.mixed Try.checked) ⟨Try.func151, by kernel_rfl, by kernel_rfl, by kernel_rfl, by kernel_rfl, by decide, by kernel_rfl, by kernel_rfl⟩ (fun _ => rfl)
end Go.Proofs.Ytpppnoliogdkiaa.P
set_option linter.unusedVariables false
namespace Go.Proofs.Ytpppnoliogdkiaa.P
open Go Go.RowKit Go.Proofs.Ytpppnoliogdkiaa.D
noncomputable def impl_areModules.E : Env := { tt := TT, con := [(106, impl_IsGroup.con), (151, impl_isModule.con)], frz := [], rows := [], live := [(2, [2, 7, 8, 9])], n := 23, pin := 0, nils := [] }
noncomputable def impl_areModules.fn : D.Fn := { body := Try.f154.body.getD .skip, res := Try.f154.results.toList, ins := [.agg [.v (.sl 25 (.sl 2 (.int .i64)))], .one (.v (.sl 34 (.pr (.int .i64) (.sl 2 (.int .i64)))))], outs := [.one (.v .bool)] }
def impl_areModules.enc (y : lsd (flats impl_areModules.fn.outs) × lsd (ios impl_areModules.fn.ins)) : Bool := y.1.1
noncomputable def impl_areModules.f (l0_0 : List (List Int)) (l1 : List (Int × (List Int))) : Option Bool := denF impl_areModules.E impl_areModules.fn impl_areModules.enc (l0_0, l1, ())
noncomputable def impl_areModules.l0 (x7 : List (Int × (List Int))) (x8 : Int) (x9 : Int) (b0_0 : List (List Int)) : Option Bool := denAt impl_areModules.E impl_areModules.fn impl_areModules.enc [1, 0, 1, 0] { fr := [(2, .lf (.box 0 0)), (7, .lf (.sl (.pr (.int .i64) (.sl 2 (.int .i64))) x7)), (8, .lf (.int .i64 x8)), (9, .lf (.int .i64 x9))], ob := [(0, .box 32 false [.sl (.sl 2 (.int .i64)) b0_0])], nx := 1 }
set_option maxRecDepth 100000 in
theorem impl_areModules.f_eq (l0_0 : List (List Int)) (l1 : List (Int × (List Int))) : impl_areModules.f l0_0 l1 = impl_areModules.l0 l1 (l1.length : Int) 0 l0_0 := by kernel_rfl
set_option maxRecDepth 100000 in
theorem impl_areModules.l0_eq (x7 : List (Int × (List Int))) (x8 : Int) (x9 : Int) (b0_0 : List (List Int)) : impl_areModules.l0 x7 x8 x9 b0_0 = if x9 < x8 then (if 0 ≤ x9 then (if x9 < (x7.length : Int) then ((impl_IsGroup.f b0_0).bind fun t14 => if t14 = true then ((impl_isModule.f b0_0 ((Ty.rd (.pr (.int .i64) (.sl 2 (.int .i64))) x7 x9).1) ((Ty.rd (.pr (.int .i64) (.sl 2 (.int .i64))) x7 x9).2)).bind fun t19 => if t19 = true then (impl_areModules.l0 x7 x8 (wrapI (x9 + 1)) b0_0) else (some false)) else (some false)) else none) else none) else (some true) := (loop_unfold _ _ _ _).trans (by kernel_rfl)
noncomputable def impl_areModules.con : Con := ⟨impl_areModules.fn.ins, impl_areModules.fn.outs, Bool, fun x => impl_areModules.f x.1 x.2.1, fun r => ((r, ()), (()))⟩
theorem impl_areModules.valid : Valid Try.prog 154 impl_areModules.con := fn_valid (f := impl_areModules.fn) (E := impl_areModules.E) (enc := impl_areModules.enc) ⟨ttOk, (conCons impl_IsGroup.valid (conCons impl_isModule.valid conNil))⟩ (Checked.mixed Try.checked) ⟨Try.func154, by kernel_rfl, by kernel_rfl, by kernel_rfl, by kernel_rfl, by decide, by kernel_rfl, by kernel_rfl⟩ (fun _ => rfl)
end Go.Proofs.Ytpppnoliogdkiaa.P
set_option linter.unusedVariables false
namespace Go.Proofs.Ytpppnoliogdkiaa.P
open Go Go.RowKit Go.Proofs.Ytpppnoliogdkiaa.D
noncomputable def impl_power.E : Env := { tt := TT, con := [], frz := [], rows := [], live := [(3, [0, 5, 6, 7])], n := 14, pin := 0, nils := [] }
noncomputable def impl_power.fn : D.Fn := { body := Try.f176.body.getD .skip, res := Try.f176.results.toList, ins := [.one (.v (.int .i64)), .one (.v (.int .i64))], outs := [.one (.v (.int .i64))] }
def impl_power.enc (y : lsd (flats impl_power.fn.outs) × lsd (ios impl_power.fn.ins)) : Int := y.1.1
noncomputable def impl_power.f (a0 : Int) (a1 : Int) : Option Int := denF impl_power.E impl_power.fn impl_power.enc (a0, a1, ())
noncomputable def impl_power.l0 (x0 : Int) (x5 : Int) (x6 : Int) (x7 : Int) : Option Int := denAt impl_power.E impl_power.fn impl_power.enc [1, 1, 0, 1, 0] { fr := [(0, .lf (.int .i64 x0)), (5, .lf (.int .i64 x5)), (6, .lf (.int .i64 x6)), (7, .lf (.int .i64 x7))], ob := [], nx := 0 }
set_option maxRecDepth 100000 in
theorem impl_power.f_eq (a0 : Int) (a1 : Int) : impl_power.f a0 a1 = impl_power.l0 a0 1 a1 0 := by kernel_rfl
set_option maxRecDepth 100000 in
theorem impl_power.l0_eq (x0 : Int) (x5 : Int) (x6 : Int) (x7 : Int) : impl_power.l0 x0 x5 x6 x7 = if x7 < x6 then (impl_power.l0 x0 (wrapI (x5 * x0)) x6 (wrapI (x7 + 1))) else (some x5) := (loop_unfold _ _ _ _).trans (by kernel_rfl)
noncomputable def impl_power.con : Con := ⟨impl_power.fn.ins, impl_power.fn.outs, Int, fun x => impl_power.f x.1 x.2.1, fun r => ((r, ()), (()))⟩
theorem impl_power.valid : Valid Try.prog 176 impl_power.con := fn_valid (f := impl_power.fn) (E := impl_power.E) (enc := impl_power.enc) ⟨ttOk, conNil⟩ (Checked.mixed Try.checked) ⟨Try.func176, by kernel_rfl, by kernel_rfl, by kernel_rfl, by kernel_rfl, by decide, by kernel_rfl, by kernel_rfl⟩ (fun _ => rfl)
end Go.Proofs.Ytpppnoliogdkiaa.P
set_option linter.unusedVariables false
namespace Go.Proofs.Ytpppnoliogdkiaa.P
open Go Go.RowKit Go.Proofs.Ytpppnoliogdkiaa.D
noncomputable def impl_cells.E : Env := { tt := TT, con := [(134, impl_order.con), (176, impl_power.con)], frz := [], rows := [], live := [], n := 10, pin := 0, nils := [] }
noncomputable def impl_cells.fn : D.Fn := { body := Try.f129.body.getD .skip, res := Try.f129.results.toList, ins := [.agg [.v (.sl 25 (.sl 2 (.int .i64)))], .one (.v (.int .i64))], outs := [.one (.v (.int .i64))] }
def impl_cells.enc (y : lsd (flats impl_cells.fn.outs) × lsd (ios impl_cells.fn.ins)) : Int := y.1.1
noncomputable def impl_cells.f (l0_0 : List (List Int)) (a1 : Int) : Option Int := denF impl_cells.E impl_cells.fn impl_cells.enc (l0_0, a1, ())
set_option maxRecDepth 100000 in
theorem impl_cells.f_eq (l0_0 : List (List Int)) (a1 : Int) : impl_cells.f l0_0 a1 = (impl_order.f l0_0).bind fun t6 => (impl_power.f (wrapI (t6 - 1)) a1).bind fun t9 => some t9 := by kernel_rfl
noncomputable def impl_cells.con : Con := ⟨impl_cells.fn.ins, impl_cells.fn.outs, Int, fun x => impl_cells.f x.1 x.2.1, fun r => ((r, ()), (()))⟩
theorem impl_cells.valid : Valid Try.prog 129 impl_cells.con := fn_valid (f := impl_cells.fn) (E := impl_cells.E) (enc := impl_cells.enc) ⟨ttOk, (conCons impl_order.valid (conCons impl_power.valid conNil))⟩ (Checked.mixed Try.checked) ⟨Try.func129, by kernel_rfl, by kernel_rfl, by kernel_rfl, by kernel_rfl, by decide, by kernel_rfl, by kernel_rfl⟩ (fun _ => rfl)
end Go.Proofs.Ytpppnoliogdkiaa.P
set_option linter.unusedVariables false
namespace Go.Proofs.Ytpppnoliogdkiaa.P
open Go Go.RowKit Go.Proofs.Ytpppnoliogdkiaa.D
noncomputable def impl_isDegree.E : Env := { tt := TT, con := [], frz := [], rows := [], live := [], n := 9, pin := 0, nils := [] }
noncomputable def impl_isDegree.fn : D.Fn := { body := Try.f155.body.getD .skip, res := Try.f155.results.toList, ins := [.one (.v (.int .i64))], outs := [.one (.v .bool)] }
def impl_isDegree.enc (y : lsd (flats impl_isDegree.fn.outs) × lsd (ios impl_isDegree.fn.ins)) : Bool := y.1.1
noncomputable def impl_isDegree.f (a0 : Int) : Option Bool := denF impl_isDegree.E impl_isDegree.fn impl_isDegree.enc (a0, ())
set_option maxRecDepth 100000 in
theorem impl_isDegree.f_eq (a0 : Int) : impl_isDegree.f a0 = if a0 ≥ 0 then (some (decide (a0 ≤ 3))) else (some false) := by kernel_rfl
noncomputable def impl_isDegree.con : Con := ⟨impl_isDegree.fn.ins, impl_isDegree.fn.outs, Bool, fun x => impl_isDegree.f x.1, fun r => ((r, ()), (()))⟩
theorem impl_isDegree.valid : Valid Try.prog 155 impl_isDegree.con := fn_valid (f := impl_isDegree.fn) (E := impl_isDegree.E) (enc := impl_isDegree.enc) ⟨ttOk, conNil⟩ (Checked.mixed Try.checked) ⟨Try.func155, by kernel_rfl, by kernel_rfl, by kernel_rfl, by kernel_rfl, by decide, by kernel_rfl, by kernel_rfl⟩ (fun _ => rfl)
end Go.Proofs.Ytpppnoliogdkiaa.P
set_option linter.unusedVariables false
namespace Go.Proofs.Ytpppnoliogdkiaa.P
open Go Go.RowKit Go.Proofs.Ytpppnoliogdkiaa.D
noncomputable def impl_isCochain.E : Env := { tt := TT, con := [(155, impl_isDegree.con), (129, impl_cells.con), (148, impl_areIn.con)], frz := [], rows := [], live := [], n := 27, pin := 0, nils := [] }
noncomputable def impl_isCochain.fn : D.Fn := { body := Try.f156.body.getD .skip, res := Try.f156.results.toList, ins := [.agg [.v (.sl 25 (.sl 2 (.int .i64)))], .agg [.v (.int .i64), .v (.sl 2 (.int .i64))], .agg [.v (.int .i64), .v (.sl 2 (.int .i64))]], outs := [.one (.v .bool)] }
def impl_isCochain.enc (y : lsd (flats impl_isCochain.fn.outs) × lsd (ios impl_isCochain.fn.ins)) : Bool := y.1.1
noncomputable def impl_isCochain.f (l0_0 : List (List Int)) (a1_0 : Int) (l1_1 : List Int) (a2_0 : Int) (l2_1 : List Int) : Option Bool := denF impl_isCochain.E impl_isCochain.fn impl_isCochain.enc (l0_0, a1_0, l1_1, a2_0, l2_1, ())
set_option maxRecDepth 100000 in
theorem impl_isCochain.f_eq (l0_0 : List (List Int)) (a1_0 : Int) (l1_1 : List Int) (a2_0 : Int) (l2_1 : List Int) : impl_isCochain.f l0_0 a1_0 l1_1 a2_0 l2_1 = (impl_isDegree.f a2_0).bind fun t9 => if t9 = true then ((impl_cells.f l0_0 a2_0).bind fun t17 => if (l2_1.length : Int) = t17 then ((impl_areIn.f a1_0 l2_1).bind fun t25 => some (decide (t25 = true))) else (some false)) else (some false) := by kernel_rfl
noncomputable def impl_isCochain.con : Con := ⟨impl_isCochain.fn.ins, impl_isCochain.fn.outs, Bool, fun x => impl_isCochain.f x.1 x.2.1 x.2.2.1 x.2.2.2.1 x.2.2.2.2.1, fun r => ((r, ()), (()))⟩
theorem impl_isCochain.valid : Valid Try.prog 156 impl_isCochain.con := fn_valid (f := impl_isCochain.fn) (E := impl_isCochain.E) (enc := impl_isCochain.enc) ⟨ttOk, (conCons impl_isDegree.valid (conCons impl_cells.valid (conCons impl_areIn.valid conNil)))⟩ (Checked.mixed Try.checked) ⟨Try.func156, by kernel_rfl, by kernel_rfl, by kernel_rfl, by kernel_rfl, by decide, by kernel_rfl, by kernel_rfl⟩ (fun _ => rfl)
end Go.Proofs.Ytpppnoliogdkiaa.P
set_option linter.unusedVariables false
namespace Go.Proofs.Ytpppnoliogdkiaa.P
open Go Go.RowKit Go.Proofs.Ytpppnoliogdkiaa.D
noncomputable def impl_cochainCode.E : Env := { tt := TT, con := [(154, impl_areModules.con), (156, impl_isCochain.con)], frz := [], rows := [11], live := [(4, [3, 4, 14, 15, 16])], n := 26, pin := 0, nils := [] }
noncomputable def impl_cochainCode.fn : D.Fn := { body := Try.f111.body.getD .skip, res := Try.f111.results.toList, ins := [.agg [.v (.sl 25 (.sl 2 (.int .i64)))], .agg [.v (.int .i64), .v (.sl 2 (.int .i64))], .one (.v (.sl 48 (.pr (.int .i64) (.sl 2 (.int .i64)))))], outs := [.one (.v (.int .i64))] }
def impl_cochainCode.enc (y : lsd (flats impl_cochainCode.fn.outs) × lsd (ios impl_cochainCode.fn.ins)) : Int := y.1.1
noncomputable def impl_cochainCode.f (l0_0 : List (List Int)) (a1_0 : Int) (l1_1 : List Int) (l2 : List (Int × (List Int))) : Option Int := denF impl_cochainCode.E impl_cochainCode.fn impl_cochainCode.enc (l0_0, a1_0, l1_1, l2, ())
noncomputable def impl_cochainCode.l0 (x14 : List (Int × (List Int))) (x15 : Int) (x16 : Int) (b0_0 : List (List Int)) (b1_0 : Int) (b1_1 : List Int) : Option Int := denAt impl_cochainCode.E impl_cochainCode.fn impl_cochainCode.enc [1, 1, 0, 1, 0] { fr := [(3, .lf (.box 0 0)), (4, .lf (.box 1 0)), (14, .lf (.sl (.pr (.int .i64) (.sl 2 (.int .i64))) x14)), (15, .lf (.int .i64 x15)), (16, .lf (.int .i64 x16))], ob := [(0, .box 32 false [.sl (.sl 2 (.int .i64)) b0_0]), (1, .box 34 false [.int .i64 b1_0, .sl (.int .i64) b1_1])], nx := 2 }
set_option maxRecDepth 100000 in
theorem impl_cochainCode.f_eq (l0_0 : List (List Int)) (a1_0 : Int) (l1_1 : List Int) (l2 : List (Int × (List Int))) : impl_cochainCode.f l0_0 a1_0 l1_1 l2 = (impl_areModules.f l0_0 ([(a1_0, l1_1)] : List (Int × (List Int)))).bind fun t12 => if t12 = true then (impl_cochainCode.l0 l2 (l2.length : Int) 0 l0_0 a1_0 l1_1) else (some 1) := by kernel_rfl
set_option maxRecDepth 100000 in
theorem impl_cochainCode.l0_eq (x14 : List (Int × (List Int))) (x15 : Int) (x16 : Int) (b0_0 : List (List Int)) (b1_0 : Int) (b1_1 : List Int) : impl_cochainCode.l0 x14 x15 x16 b0_0 b1_0 b1_1 = if x16 < x15 then (if 0 ≤ x16 then (if x16 < (x14.length : Int) then ((impl_isCochain.f b0_0 b1_0 b1_1 ((Ty.rd (.pr (.int .i64) (.sl 2 (.int .i64))) x14 x16).1) ((Ty.rd (.pr (.int .i64) (.sl 2 (.int .i64))) x14 x16).2)).bind fun t23 => if t23 = true then (impl_cochainCode.l0 x14 x15 (wrapI (x16 + 1)) b0_0 b1_0 b1_1) else (some 1)) else none) else none) else (some 0) := (loop_unfold _ _ _ _).trans (by kernel_rfl)
noncomputable def impl_cochainCode.con : Con := ⟨impl_cochainCode.fn.ins, impl_cochainCode.fn.outs, Int, fun x => impl_cochainCode.f x.1 x.2.1 x.2.2.1 x.2.2.2.1, fun r => ((r, ()), (()))⟩
theorem impl_cochainCode.valid : Valid Try.prog 111 impl_cochainCode.con := fn_valid (f := impl_cochainCode.fn) (E := impl_cochainCode.E) (enc := impl_cochainCode.enc) ⟨ttOk, (conCons impl_areModules.valid (conCons impl_isCochain.valid conNil))⟩ (Checked.mixed Try.checked) ⟨Try.func111, by kernel_rfl, by kernel_rfl, by kernel_rfl, by kernel_rfl, by decide, by kernel_rfl, by kernel_rfl⟩ (fun _ => rfl)
end Go.Proofs.Ytpppnoliogdkiaa.P
set_option linter.unusedVariables false
namespace Go.Proofs.Ytpppnoliogdkiaa.P
open Go Go.RowKit Go.Proofs.Ytpppnoliogdkiaa.D
noncomputable def impl_zero.E : Env := { tt := TT, con := [(129, impl_cells.con)], frz := [], rows := [], live := [], n := 11, pin := 0, nils := [] }
noncomputable def impl_zero.fn : D.Fn := { body := Try.f110.body.getD .skip, res := Try.f110.results.toList, ins := [.agg [.v (.sl 25 (.sl 2 (.int .i64)))], .one (.v (.int .i64))], outs := [.agg [.v (.int .i64), .own 2 true (.int .i64)]] }
def impl_zero.enc (y : lsd (flats impl_zero.fn.outs) × lsd (ios impl_zero.fn.ins)) : Int × (List Int) := (y.1.1, y.1.2.1)
noncomputable def impl_zero.f (l0_0 : List (List Int)) (a1 : Int) : Option (Int × (List Int)) := denF impl_zero.E impl_zero.fn impl_zero.enc (l0_0, a1, ())
set_option maxRecDepth 100000 in
theorem impl_zero.f_eq (l0_0 : List (List Int)) (a1 : Int) : impl_zero.f l0_0 a1 = (impl_cells.f l0_0 a1).bind fun t8 => if t8 = t8 then (if 0 ≤ t8 then (if (t8 : Int).toNat ≤ 17592186044416 then (some (a1, List.replicate (t8 : Int).toNat (0 : Int))) else none) else none) else none := by kernel_rfl
noncomputable def impl_zero.con : Con := ⟨impl_zero.fn.ins, impl_zero.fn.outs, Int × (List Int), fun x => impl_zero.f x.1 x.2.1, fun r => ((r.1, r.2, ()), (()))⟩
theorem impl_zero.valid : Valid Try.prog 110 impl_zero.con := fn_valid (f := impl_zero.fn) (E := impl_zero.E) (enc := impl_zero.enc) ⟨ttOk, (conCons impl_cells.valid conNil)⟩ (Checked.mixed Try.checked) ⟨Try.func110, by kernel_rfl, by kernel_rfl, by kernel_rfl, by kernel_rfl, by decide, by kernel_rfl, by kernel_rfl⟩ (fun _ => rfl)
end Go.Proofs.Ytpppnoliogdkiaa.P
set_option linter.unusedVariables false
namespace Go.Proofs.Ytpppnoliogdkiaa.P
open Go Go.RowKit Go.Proofs.Ytpppnoliogdkiaa.D
noncomputable def impl_listOf.E : Env := { tt := TT, con := [(134, impl_order.con)], frz := [], rows := [], live := [(3, [2, 7, 8, 9])], n := 32, pin := 0, nils := [] }
noncomputable def impl_listOf.fn : D.Fn := { body := Try.f185.body.getD .skip, res := Try.f185.results.toList, ins := [.agg [.v (.sl 25 (.sl 2 (.int .i64)))], .one (.v (.int .i64)), .one (.v (.int .i64))], outs := [.one (.own 2 true (.int .i64))] }
def impl_listOf.enc (y : lsd (flats impl_listOf.fn.outs) × lsd (ios impl_listOf.fn.ins)) : (List Int) := y.1.1
noncomputable def impl_listOf.f (l0_0 : List (List Int)) (a1 : Int) (a2 : Int) : Option (List Int) := denF impl_listOf.E impl_listOf.fn impl_listOf.enc (l0_0, a1, a2, ())
noncomputable def impl_listOf.l0 (x2 : Int) (x8 : Int) (x9 : Int) (r0 : List Int) : Option (List Int) := denAt impl_listOf.E impl_listOf.fn impl_listOf.enc [1, 1, 0, 1, 0] { fr := [(2, .lf (.int .i64 x2)), (7, .lf (.own 0)), (8, .lf (.int .i64 x8)), (9, .lf (.int .i64 x9))], ob := [(0, .row 2 true (.int .i64) r0)], nx := 1 }
set_option maxRecDepth 100000 in
theorem impl_listOf.f_eq (l0_0 : List (List Int)) (a1 : Int) (a2 : Int) : impl_listOf.f l0_0 a1 a2 = if a1 = a1 then (if 0 ≤ a1 then (if (a1 : Int).toNat ≤ 17592186044416 then ((impl_order.f l0_0).bind fun t13 => impl_listOf.l0 a2 (wrapI (t13 - 1)) (wrapI (a1 - 1)) (List.replicate (a1 : Int).toNat (0 : Int))) else none) else none) else none := by kernel_rfl
set_option maxRecDepth 100000 in
theorem impl_listOf.l0_eq (x2 : Int) (x8 : Int) (x9 : Int) (r0 : List Int) : impl_listOf.l0 x2 x8 x9 r0 = if x9 ≥ 0 then (if x8 = 0 then none else (if 0 ≤ x9 then (if x9 < (r0.length : Int) then (if 0 ≤ x9 then (if x9 < (r0.length : Int) then (if x8 = 0 then none else (impl_listOf.l0 (wrapI ((x2 : Int).tdiv x8)) x8 (wrapI (x9 - 1)) (r0.set (x9 : Int).toNat (wrapI (1 + ((x2 : Int).tmod x8)))))) else none) else none) else none) else none)) else (some r0) := (loop_unfold _ _ _ _).trans (by kernel_rfl)
noncomputable def impl_listOf.con : Con := ⟨impl_listOf.fn.ins, impl_listOf.fn.outs, (List Int), fun x => impl_listOf.f x.1 x.2.1 x.2.2.1, fun r => ((r, ()), (()))⟩
theorem impl_listOf.valid : Valid Try.prog 185 impl_listOf.con := fn_valid (f := impl_listOf.fn) (E := impl_listOf.E) (enc := impl_listOf.enc) ⟨ttOk, (conCons impl_order.valid conNil)⟩ (Checked.mixed Try.checked) ⟨Try.func185, by kernel_rfl, by kernel_rfl, by kernel_rfl, by kernel_rfl, by decide, by kernel_rfl, by kernel_rfl⟩ (fun _ => rfl)
end Go.Proofs.Ytpppnoliogdkiaa.P
set_option linter.unusedVariables false
namespace Go.Proofs.Ytpppnoliogdkiaa.P
open Go Go.RowKit Go.Proofs.Ytpppnoliogdkiaa.D
noncomputable def impl_told.E : Env := { tt := TT, con := [(110, impl_zero.con), (185, impl_listOf.con)], frz := [], rows := [], live := [(3, [1, 2, 3, 4, 8, 9, 16, 17])], n := 38, pin := 0, nils := [] }
noncomputable def impl_told.fn : D.Fn := { body := Try.f157.body.getD .skip, res := Try.f157.results.toList, ins := [.agg [.v (.sl 25 (.sl 2 (.int .i64)))], .one (.v (.int .i64)), .one (.v (.int .i64)), .one (.fn [(.sl 2 (.int .i64))] (.int .i64))], outs := [.agg [.v (.int .i64), .own 2 true (.int .i64)]] }
def impl_told.enc (y : lsd (flats impl_told.fn.outs) × lsd (ios impl_told.fn.ins)) : Int × (List Int) := (y.1.1, y.1.2.1)
noncomputable def impl_told.f (l0_0 : List (List Int)) (a1 : Int) (a2 : Int) (f3 : (List Int) → Option Int) : Option (Int × (List Int)) := denF impl_told.E impl_told.fn impl_told.enc (l0_0, a1, a2, fun x => f3 x.1, ())
noncomputable def impl_told.l0 (x1 : Int) (x2 : Int) (fx3 : (List Int) → Option Int) (x16 : Int) (x17 : Int) (b0_0 : List (List Int)) (b1_0 : Int) (b2_0 : Int) (r3 : List Int) : Option (Int × (List Int)) := denAt impl_told.E impl_told.fn impl_told.enc [1, 1, 0, 1, 0] { fr := [(1, .lf (.int .i64 x1)), (2, .lf (.int .i64 x2)), (3, .lf (.fn [(.sl 2 (.int .i64))] (.int .i64) (fun x => fx3 x.1))), (4, .lf (.box 0 0)), (8, .lf (.box 1 0)), (9, .lf (.box 2 0)), (16, .lf (.int .i64 x16)), (17, .lf (.int .i64 x17))], ob := [(0, .box 32 false [.sl (.sl 2 (.int .i64)) b0_0]), (1, .box 48 false [.int .i64 b1_0, .nil]), (2, .box 48 false [.int .i64 b2_0, .own 3]), (3, .row 2 true (.int .i64) r3)], nx := 4 }
set_option maxRecDepth 100000 in
theorem impl_told.f_eq (l0_0 : List (List Int)) (a1 : Int) (a2 : Int) (f3 : (List Int) → Option Int) : impl_told.f l0_0 a1 a2 f3 = (impl_zero.f l0_0 a2).bind fun t13 => impl_told.l0 a1 a2 f3 (t13.2.length : Int) 0 l0_0 0 t13.1 t13.2 := by kernel_rfl
set_option maxRecDepth 100000 in
theorem impl_told.l0_eq (x1 : Int) (x2 : Int) (fx3 : (List Int) → Option Int) (x16 : Int) (x17 : Int) (b0_0 : List (List Int)) (b1_0 : Int) (b2_0 : Int) (r3 : List Int) : impl_told.l0 x1 x2 fx3 x16 x17 b0_0 b1_0 b2_0 r3 = if x17 < x16 then ((impl_listOf.f b0_0 x2 x17).bind fun t27 => (fx3 t27).bind fun t28 => if x1 = 0 then none else (if x1 = 0 then none else (if 0 ≤ x17 then (if x17 < (r3.length : Int) then (if 0 ≤ x17 then (if x17 < (r3.length : Int) then (impl_told.l0 x1 x2 fx3 x16 (wrapI (x17 + 1)) b0_0 b1_0 b2_0 (r3.set (x17 : Int).toNat ((wrapI (((t28 : Int).tmod x1) + x1) : Int).tmod x1))) else none) else none) else none) else none))) else (some (b2_0, r3)) := (loop_unfold _ _ _ _).trans (by kernel_rfl)
noncomputable def impl_told.con : Con := ⟨impl_told.fn.ins, impl_told.fn.outs, Int × (List Int), fun x => impl_told.f x.1 x.2.1 x.2.2.1 (fun z0 => x.2.2.2.1 (z0, ())), fun r => ((r.1, r.2, ()), (()))⟩
theorem impl_told.valid : Valid Try.prog 157 impl_told.con := fn_valid (f := impl_told.fn) (E := impl_told.E) (enc := impl_told.enc) ⟨ttOk, (conCons impl_zero.valid (conCons impl_listOf.valid conNil))⟩ (Checked.mixed Try.checked) ⟨Try.func157, by kernel_rfl, by kernel_rfl, by kernel_rfl, by kernel_rfl, by decide, by kernel_rfl, by kernel_rfl⟩ (fun _ => rfl)
end Go.Proofs.Ytpppnoliogdkiaa.P
set_option linter.unusedVariables false
namespace Go.Proofs.Ytpppnoliogdkiaa.P
open Go Go.RowKit Go.Proofs.Ytpppnoliogdkiaa.D
noncomputable def impl_cell.E : Env := { tt := TT, con := [(134, impl_order.con)], frz := [], rows := [], live := [(3, [2, 5, 8, 9, 10])], n := 26, pin := 0, nils := [] }
noncomputable def impl_cell.fn : D.Fn := { body := Try.f196.body.getD .skip, res := Try.f196.results.toList, ins := [.agg [.v (.sl 25 (.sl 2 (.int .i64)))], .one (.v (.sl 2 (.int .i64)))], outs := [.one (.v (.int .i64))] }
def impl_cell.enc (y : lsd (flats impl_cell.fn.outs) × lsd (ios impl_cell.fn.ins)) : Int := y.1.1
noncomputable def impl_cell.f (l0_0 : List (List Int)) (l1 : List Int) : Option Int := denF impl_cell.E impl_cell.fn impl_cell.enc (l0_0, l1, ())
noncomputable def impl_cell.l0 (x5 : Int) (x8 : List Int) (x9 : Int) (x10 : Int) (b0_0 : List (List Int)) : Option Int := denAt impl_cell.E impl_cell.fn impl_cell.enc [1, 1, 0, 1, 0] { fr := [(2, .lf (.box 0 0)), (5, .lf (.int .i64 x5)), (8, .lf (.sl (.int .i64) x8)), (9, .lf (.int .i64 x9)), (10, .lf (.int .i64 x10))], ob := [(0, .box 32 false [.sl (.sl 2 (.int .i64)) b0_0])], nx := 1 }
set_option maxRecDepth 100000 in
theorem impl_cell.f_eq (l0_0 : List (List Int)) (l1 : List Int) : impl_cell.f l0_0 l1 = impl_cell.l0 0 l1 (l1.length : Int) 0 l0_0 := by kernel_rfl
set_option maxRecDepth 100000 in
theorem impl_cell.l0_eq (x5 : Int) (x8 : List Int) (x9 : Int) (x10 : Int) (b0_0 : List (List Int)) : impl_cell.l0 x5 x8 x9 x10 b0_0 = if x10 < x9 then (if 0 ≤ x10 then (if x10 < (x8.length : Int) then (if (rd x8 x10) = 0 then (some (-1)) else ((impl_order.f b0_0).bind fun t18 => impl_cell.l0 (wrapI ((wrapI ((wrapI (x5 * (wrapI (t18 - 1)))) + (rd x8 x10))) - 1)) x8 x9 (wrapI (x10 + 1)) b0_0)) else none) else none) else (some x5) := (loop_unfold _ _ _ _).trans (by kernel_rfl)
noncomputable def impl_cell.con : Con := ⟨impl_cell.fn.ins, impl_cell.fn.outs, Int, fun x => impl_cell.f x.1 x.2.1, fun r => ((r, ()), (()))⟩
theorem impl_cell.valid : Valid Try.prog 196 impl_cell.con := fn_valid (f := impl_cell.fn) (E := impl_cell.E) (enc := impl_cell.enc) ⟨ttOk, (conCons impl_order.valid conNil)⟩ (Checked.mixed Try.checked) ⟨Try.func196, by kernel_rfl, by kernel_rfl, by kernel_rfl, by kernel_rfl, by decide, by kernel_rfl, by kernel_rfl⟩ (fun _ => rfl)
end Go.Proofs.Ytpppnoliogdkiaa.P
set_option linter.unusedVariables false
namespace Go.Proofs.Ytpppnoliogdkiaa.P
open Go Go.RowKit Go.Proofs.Ytpppnoliogdkiaa.D
noncomputable def impl_Cochain_at.E : Env := { tt := TT, con := [(196, impl_cell.con)], frz := [], rows := [], live := [], n := 18, pin := 0, nils := [] }
noncomputable def impl_Cochain_at.fn : D.Fn := { body := Try.f186.body.getD .skip, res := Try.f186.results.toList, ins := [.agg [.v (.int .i64), .v (.sl 2 (.int .i64))], .agg [.v (.sl 25 (.sl 2 (.int .i64)))], .one (.v (.sl 2 (.int .i64)))], outs := [.one (.v (.int .i64))] }
def impl_Cochain_at.enc (y : lsd (flats impl_Cochain_at.fn.outs) × lsd (ios impl_Cochain_at.fn.ins)) : Int := y.1.1
noncomputable def impl_Cochain_at.f (a0_0 : Int) (l0_1 : List Int) (l1_0 : List (List Int)) (l2 : List Int) : Option Int := denF impl_Cochain_at.E impl_Cochain_at.fn impl_Cochain_at.enc (a0_0, l0_1, l1_0, l2, ())
set_option maxRecDepth 100000 in
theorem impl_Cochain_at.f_eq (a0_0 : Int) (l0_1 : List Int) (l1_0 : List (List Int)) (l2 : List Int) : impl_Cochain_at.f a0_0 l0_1 l1_0 l2 = (impl_cell.f l1_0 l2).bind fun t10 => if t10 ≥ 0 then (if 0 ≤ t10 then (if t10 < (l0_1.length : Int) then (some (rd l0_1 t10)) else none) else none) else (some 0) := by kernel_rfl
noncomputable def impl_Cochain_at.con : Con := ⟨impl_Cochain_at.fn.ins, impl_Cochain_at.fn.outs, Int, fun x => impl_Cochain_at.f x.1 x.2.1 x.2.2.1 x.2.2.2.1, fun r => ((r, ()), (()))⟩
theorem impl_Cochain_at.valid : Valid Try.prog 186 impl_Cochain_at.con := fn_valid (f := impl_Cochain_at.fn) (E := impl_Cochain_at.E) (enc := impl_Cochain_at.enc) ⟨ttOk, (conCons impl_cell.valid conNil)⟩ (Checked.mixed Try.checked) ⟨Try.func186, by kernel_rfl, by kernel_rfl, by kernel_rfl, by kernel_rfl, by decide, by kernel_rfl, by kernel_rfl⟩ (fun _ => rfl)
end Go.Proofs.Ytpppnoliogdkiaa.P
set_option linter.unusedVariables false
namespace Go.Proofs.Ytpppnoliogdkiaa.P
open Go Go.RowKit Go.Proofs.Ytpppnoliogdkiaa.D
noncomputable def impl_boundaryAt.E : Env := { tt := TT, con := [(186, impl_Cochain_at.con), (153, impl_Group_times.con)], frz := [], rows := [], live := [(5, [3, 4, 6, 9, 10, 11, 30, 31])], n := 79, pin := 0, nils := [] }
noncomputable def impl_boundaryAt.fn : D.Fn := { body := Try.f159.body.getD .skip, res := Try.f159.results.toList, ins := [.agg [.v (.sl 25 (.sl 2 (.int .i64)))], .agg [.v (.int .i64), .v (.sl 2 (.int .i64))], .agg [.v (.int .i64), .v (.sl 2 (.int .i64))], .one (.v (.sl 2 (.int .i64)))], outs := [.one (.v (.int .i64))] }
def impl_boundaryAt.enc (y : lsd (flats impl_boundaryAt.fn.outs) × lsd (ios impl_boundaryAt.fn.ins)) : Int := y.1.1
noncomputable def impl_boundaryAt.f (l0_0 : List (List Int)) (a1_0 : Int) (l1_1 : List Int) (a2_0 : Int) (l2_1 : List Int) (l3 : List Int) : Option Int := denF impl_boundaryAt.E impl_boundaryAt.fn impl_boundaryAt.enc (l0_0, a1_0, l1_1, a2_0, l2_1, l3, ())
noncomputable def impl_boundaryAt.l0 (x3 : List Int) (x9 : Int) (x10 : Int) (x11 : Int) (x30 : Int) (x31 : Int) (b0_0 : List (List Int)) (b1_0 : Int) (b1_1 : List Int) : Option Int := denAt impl_boundaryAt.E impl_boundaryAt.fn impl_boundaryAt.enc [1, 1, 1, 1, 0, 1, 0] { fr := [(3, .lf (.sl (.int .i64) x3)), (4, .lf (.box 0 0)), (6, .lf (.box 1 0)), (9, .lf (.int .i64 x9)), (10, .lf (.int .i64 x10)), (11, .lf (.int .i64 x11)), (30, .lf (.int .i64 x30)), (31, .lf (.int .i64 x31))], ob := [(0, .box 32 false [.sl (.sl 2 (.int .i64)) b0_0]), (1, .box 48 false [.int .i64 b1_0, .sl (.int .i64) b1_1])], nx := 2 }
set_option maxRecDepth 100000 in
theorem impl_boundaryAt.f_eq (l0_0 : List (List Int)) (a1_0 : Int) (l1_1 : List Int) (a2_0 : Int) (l2_1 : List Int) (l3 : List Int) : impl_boundaryAt.f l0_0 a1_0 l1_1 a2_0 l2_1 l3 = if 0 < (l3.length : Int) then (if 0 ≤ rd l3 0 then (if rd l3 0 < (l1_1.length : Int) then (if 1 ≤ (l3.length : Int) then ((impl_Cochain_at.f a2_0 l2_1 l0_0 (l3.drop (1 : Int).toNat)).bind fun t28 => impl_boundaryAt.l0 l3 (wrapI ((l3.length : Int) - 1)) (wrapI ((rd l1_1 (rd l3 0)) * t28)) (-1) (wrapI ((l3.length : Int) - 1)) 0 l0_0 a2_0 l2_1) else none) else none) else none) else none := by kernel_rfl
set_option maxRecDepth 100000 in
theorem impl_boundaryAt.l0_eq (x3 : List Int) (x9 : Int) (x10 : Int) (x11 : Int) (x30 : Int) (x31 : Int) (b0_0 : List (List Int)) (b1_0 : Int) (b1_1 : List Int) : impl_boundaryAt.l0 x3 x9 x10 x11 x30 x31 b0_0 b1_0 b1_1 = if x31 < x30 then (if 0 ≤ x31 then (if x31 ≤ (x3.length : Int) then (if ([] : List Int).length + (x3.take (x31 : Int).toNat).length ≤ 17592186044416 then (if 0 ≤ x31 then (if x31 < (x3.length : Int) then (if 0 ≤ wrapI (x31 + 1) then (if wrapI (x31 + 1) < (x3.length : Int) then ((impl_Group_times.f b0_0 ([rd x3 x31, rd x3 (wrapI (x31 + 1))] : List Int)).bind fun t50 => if (([] : List Int) ++ (x3.take (x31 : Int).toNat)).length + ([t50] : List Int).length ≤ 17592186044416 then (if 0 ≤ wrapI (x31 + 2) then (if wrapI (x31 + 2) ≤ (x3.length : Int) then (if ((([] : List Int) ++ (x3.take (x31 : Int).toNat)) ++ ([t50] : List Int)).length + (x3.drop (wrapI (x31 + 2) : Int).toNat).length ≤ 17592186044416 then ((impl_Cochain_at.f b1_0 b1_1 b0_0 (((([] : List Int) ++ (x3.take (x31 : Int).toNat)) ++ ([t50] : List Int)) ++ (x3.drop (wrapI (x31 + 2) : Int).toNat))).bind fun t63 => impl_boundaryAt.l0 x3 x9 (wrapI (x10 + (wrapI (x11 * t63)))) (wrapI (0 - x11)) x30 (wrapI (x31 + 1)) b0_0 b1_0 b1_1) else none) else none) else none) else none) else none) else none) else none) else none) else none) else none) else none) else (if 0 ≤ x9 then (if x9 ≤ (x3.length : Int) then ((impl_Cochain_at.f b1_0 b1_1 b0_0 (x3.take (x9 : Int).toNat)).bind fun t76 => some (wrapI (x10 + (wrapI (x11 * t76))))) else none) else none) := (loop_unfold _ _ _ _).trans (by kernel_rfl)
noncomputable def impl_boundaryAt.con : Con := ⟨impl_boundaryAt.fn.ins, impl_boundaryAt.fn.outs, Int, fun x => impl_boundaryAt.f x.1 x.2.1 x.2.2.1 x.2.2.2.1 x.2.2.2.2.1 x.2.2.2.2.2.1, fun r => ((r, ()), (()))⟩
theorem impl_boundaryAt.valid : Valid Try.prog 159 impl_boundaryAt.con := fn_valid (f := impl_boundaryAt.fn) (E := impl_boundaryAt.E) (enc := impl_boundaryAt.enc) ⟨ttOk, (conCons impl_Cochain_at.valid (conCons impl_Group_times.valid conNil))⟩ (Checked.mixed Try.checked) ⟨Try.func159, by kernel_rfl, by kernel_rfl, by kernel_rfl, by kernel_rfl, by decide, by kernel_rfl, by kernel_rfl⟩ (fun _ => rfl)
end Go.Proofs.Ytpppnoliogdkiaa.P
set_option linter.unusedVariables false
namespace Go.Proofs.Ytpppnoliogdkiaa.P
open Go Go.RowKit Go.Proofs.Ytpppnoliogdkiaa.D
noncomputable def impl_boundary_1.E : Env := { tt := TT, con := [(159, impl_boundaryAt.con)], frz := [], rows := [], live := [], n := 11, pin := 0, nils := [] }
noncomputable def impl_boundary_1.fn : D.Fn := { body := Try.f158.body.getD .skip, res := Try.f158.results.toList, ins := [.one (.v (.sl 2 (.int .i64))), .ptr true 32 [.v (.sl 25 (.sl 2 (.int .i64)))], .ptr true 34 [.v (.int .i64), .v (.sl 2 (.int .i64))], .ptr true 48 [.v (.int .i64), .v (.sl 2 (.int .i64))]], outs := [.one (.v (.int .i64))] }
def impl_boundary_1.enc (y : lsd (flats impl_boundary_1.fn.outs) × lsd (ios impl_boundary_1.fn.ins)) : Int := y.1.1
noncomputable def impl_boundary_1.f (l0 : List Int) (l1 : List (List Int)) (a2_0 : Int) (l2_1 : List Int) (a3_0 : Int) (l3_1 : List Int) : Option Int := denF impl_boundary_1.E impl_boundary_1.fn impl_boundary_1.enc (l0, l1, a2_0, l2_1, a3_0, l3_1, ())
set_option maxRecDepth 100000 in
theorem impl_boundary_1.f_eq (l0 : List Int) (l1 : List (List Int)) (a2_0 : Int) (l2_1 : List Int) (a3_0 : Int) (l3_1 : List Int) : impl_boundary_1.f l0 l1 a2_0 l2_1 a3_0 l3_1 = (impl_boundaryAt.f l1 a2_0 l2_1 a3_0 l3_1 l0).bind fun t10 => some t10 := by kernel_rfl
noncomputable def impl_boundary_1.con : Con := ⟨impl_boundary_1.fn.ins, impl_boundary_1.fn.outs, Int, fun x => impl_boundary_1.f x.1 x.2.1 x.2.2.1 x.2.2.2.1 x.2.2.2.2.1 x.2.2.2.2.2.1, fun r => ((r, ()), (()))⟩
theorem impl_boundary_1.valid : Valid Try.prog 158 impl_boundary_1.con := fn_valid (f := impl_boundary_1.fn) (E := impl_boundary_1.E) (enc := impl_boundary_1.enc) ⟨ttOk, (conCons impl_boundaryAt.valid conNil)⟩ (Checked.mixed Try.checked) ⟨Try.func158, by kernel_rfl, by kernel_rfl, by kernel_rfl, by kernel_rfl, by decide, by kernel_rfl, by kernel_rfl⟩ (fun _ => rfl)
end Go.Proofs.Ytpppnoliogdkiaa.P
set_option linter.unusedVariables false
namespace Go.Proofs.Ytpppnoliogdkiaa.P
open Go Go.RowKit Go.Proofs.Ytpppnoliogdkiaa.D
noncomputable def impl_boundary.E : Env := { tt := TT, con := [(157, impl_told.con), (158, impl_boundary_1.con)], frz := [], rows := [], live := [], n := 15, pin := 0, nils := [] }
noncomputable def impl_boundary.fn : D.Fn := { body := Try.f112.body.getD .skip, res := Try.f112.results.toList, ins := [.agg [.v (.sl 25 (.sl 2 (.int .i64)))], .agg [.v (.int .i64), .v (.sl 2 (.int .i64))], .agg [.v (.int .i64), .v (.sl 2 (.int .i64))]], outs := [.agg [.v (.int .i64), .own 2 true (.int .i64)]] }
def impl_boundary.enc (y : lsd (flats impl_boundary.fn.outs) × lsd (ios impl_boundary.fn.ins)) : Int × (List Int) := (y.1.1, y.1.2.1)
noncomputable def impl_boundary.f (l0_0 : List (List Int)) (a1_0 : Int) (l1_1 : List Int) (a2_0 : Int) (l2_1 : List Int) : Option (Int × (List Int)) := denF impl_boundary.E impl_boundary.fn impl_boundary.enc (l0_0, a1_0, l1_1, a2_0, l2_1, ())
set_option maxRecDepth 100000 in
theorem impl_boundary.f_eq (l0_0 : List (List Int)) (a1_0 : Int) (l1_1 : List Int) (a2_0 : Int) (l2_1 : List Int) : impl_boundary.f l0_0 a1_0 l1_1 a2_0 l2_1 = (impl_told.f l0_0 a1_0 (wrapI (a2_0 + 1)) (fun z0 => (impl_boundary_1.f z0 l0_0 a1_0 l1_1 a2_0 l2_1).map fun z => z)).bind fun t14 => some (t14.1, t14.2) := by kernel_rfl
noncomputable def impl_boundary.con : Con := ⟨impl_boundary.fn.ins, impl_boundary.fn.outs, Int × (List Int), fun x => impl_boundary.f x.1 x.2.1 x.2.2.1 x.2.2.2.1 x.2.2.2.2.1, fun r => ((r.1, r.2, ()), (()))⟩
theorem impl_boundary.valid : Valid Try.prog 112 impl_boundary.con := fn_valid (f := impl_boundary.fn) (E := impl_boundary.E) (enc := impl_boundary.enc) ⟨ttOk, (conCons impl_told.valid (conCons impl_boundary_1.valid conNil))⟩ (Checked.mixed Try.checked) ⟨Try.func112, by kernel_rfl, by kernel_rfl, by kernel_rfl, by kernel_rfl, by decide, by kernel_rfl, by kernel_rfl⟩ (fun _ => rfl)
end Go.Proofs.Ytpppnoliogdkiaa.P
set_option linter.unusedVariables false
namespace Go.Proofs.Ytpppnoliogdkiaa.P
open Go Go.RowKit Go.Proofs.Ytpppnoliogdkiaa.D
noncomputable def impl_isCocycle.E : Env := { tt := TT, con := [(112, impl_boundary.con)], frz := [], rows := [], live := [(2, [13, 14, 15])], n := 22, pin := 0, nils := [] }
noncomputable def impl_isCocycle.fn : D.Fn := { body := Try.f115.body.getD .skip, res := Try.f115.results.toList, ins := [.agg [.v (.sl 25 (.sl 2 (.int .i64)))], .agg [.v (.int .i64), .v (.sl 2 (.int .i64))], .agg [.v (.int .i64), .v (.sl 2 (.int .i64))]], outs := [.one (.v .bool)] }
def impl_isCocycle.enc (y : lsd (flats impl_isCocycle.fn.outs) × lsd (ios impl_isCocycle.fn.ins)) : Bool := y.1.1
noncomputable def impl_isCocycle.f (l0_0 : List (List Int)) (a1_0 : Int) (l1_1 : List Int) (a2_0 : Int) (l2_1 : List Int) : Option Bool := denF impl_isCocycle.E impl_isCocycle.fn impl_isCocycle.enc (l0_0, a1_0, l1_1, a2_0, l2_1, ())
noncomputable def impl_isCocycle.l0 (x14 : Int) (x15 : Int) (r0 : List Int) : Option Bool := denAt impl_isCocycle.E impl_isCocycle.fn impl_isCocycle.enc [1, 0, 1, 0] { fr := [(13, .lf (.own 0)), (14, .lf (.int .i64 x14)), (15, .lf (.int .i64 x15))], ob := [(0, .row 2 true (.int .i64) r0)], nx := 1 }
set_option maxRecDepth 100000 in
theorem impl_isCocycle.f_eq (l0_0 : List (List Int)) (a1_0 : Int) (l1_1 : List Int) (a2_0 : Int) (l2_1 : List Int) : impl_isCocycle.f l0_0 a1_0 l1_1 a2_0 l2_1 = (impl_boundary.f l0_0 a1_0 l1_1 a2_0 l2_1).bind fun t12 => impl_isCocycle.l0 (t12.2.length : Int) 0 t12.2 := by kernel_rfl
set_option maxRecDepth 100000 in
theorem impl_isCocycle.l0_eq (x14 : Int) (x15 : Int) (r0 : List Int) : impl_isCocycle.l0 x14 x15 r0 = if x15 < x14 then (if 0 ≤ x15 then (if x15 < (r0.length : Int) then (if 0 ≤ x15 then (if x15 < (r0.length : Int) then (if (rd r0 x15) = 0 then (impl_isCocycle.l0 x14 (wrapI (x15 + 1)) r0) else (some false)) else none) else none) else none) else none) else (some true) := (loop_unfold _ _ _ _).trans (by kernel_rfl)
noncomputable def impl_isCocycle.con : Con := ⟨impl_isCocycle.fn.ins, impl_isCocycle.fn.outs, Bool, fun x => impl_isCocycle.f x.1 x.2.1 x.2.2.1 x.2.2.2.1 x.2.2.2.2.1, fun r => ((r, ()), (()))⟩
theorem impl_isCocycle.valid : Valid Try.prog 115 impl_isCocycle.con := fn_valid (f := impl_isCocycle.fn) (E := impl_isCocycle.E) (enc := impl_isCocycle.enc) ⟨ttOk, (conCons impl_boundary.valid conNil)⟩ (Checked.mixed Try.checked) ⟨Try.func115, by kernel_rfl, by kernel_rfl, by kernel_rfl, by kernel_rfl, by decide, by kernel_rfl, by kernel_rfl⟩ (fun _ => rfl)
end Go.Proofs.Ytpppnoliogdkiaa.P
set_option linter.unusedVariables false
namespace Go.Proofs.Ytpppnoliogdkiaa.P
open Go Go.RowKit Go.Proofs.Ytpppnoliogdkiaa.D
noncomputable def impl_factorCode.E : Env := { tt := TT, con := [(111, impl_cochainCode.con), (134, impl_order.con), (115, impl_isCocycle.con)], frz := [], rows := [13], live := [], n := 36, pin := 0, nils := [] }
noncomputable def impl_factorCode.fn : D.Fn := { body := Try.f80.body.getD .skip, res := Try.f80.results.toList, ins := [.agg [.v (.sl 25 (.sl 2 (.int .i64)))], .agg [.v (.int .i64), .v (.sl 2 (.int .i64))], .agg [.v (.int .i64), .v (.sl 2 (.int .i64))], .one (.v (.int .i64))], outs := [.one (.v (.int .i64))] }
def impl_factorCode.enc (y : lsd (flats impl_factorCode.fn.outs) × lsd (ios impl_factorCode.fn.ins)) : Int := y.1.1
noncomputable def impl_factorCode.f (l0_0 : List (List Int)) (a1_0 : Int) (l1_1 : List Int) (a2_0 : Int) (l2_1 : List Int) (a3 : Int) : Option Int := denF impl_factorCode.E impl_factorCode.fn impl_factorCode.enc (l0_0, a1_0, l1_1, a2_0, l2_1, a3, ())
set_option maxRecDepth 100000 in
theorem impl_factorCode.f_eq (l0_0 : List (List Int)) (a1_0 : Int) (l1_1 : List Int) (a2_0 : Int) (l2_1 : List Int) (a3 : Int) : impl_factorCode.f l0_0 a1_0 l1_1 a2_0 l2_1 a3 = (impl_cochainCode.f l0_0 a1_0 l1_1 ([(a2_0, l2_1)] : List (Int × (List Int)))).bind fun t14 => if t14 = 0 then (if a2_0 = 2 then ((impl_order.f l0_0).bind fun t24 => if (wrapI (t24 * a1_0)) > a3 then (some 3) else ((impl_isCocycle.f l0_0 a1_0 l1_1 a2_0 l2_1).bind fun t34 => if t34 = true then (some 0) else (some 5))) else (some 2)) else (some t14) := by kernel_rfl
noncomputable def impl_factorCode.con : Con := ⟨impl_factorCode.fn.ins, impl_factorCode.fn.outs, Int, fun x => impl_factorCode.f x.1 x.2.1 x.2.2.1 x.2.2.2.1 x.2.2.2.2.1 x.2.2.2.2.2.1, fun r => ((r, ()), (()))⟩
theorem impl_factorCode.valid : Valid Try.prog 80 impl_factorCode.con := fn_valid (f := impl_factorCode.fn) (E := impl_factorCode.E) (enc := impl_factorCode.enc) ⟨ttOk, (conCons impl_cochainCode.valid (conCons impl_order.valid (conCons impl_isCocycle.valid conNil)))⟩ (Checked.mixed Try.checked) ⟨Try.func80, by kernel_rfl, by kernel_rfl, by kernel_rfl, by kernel_rfl, by decide, by kernel_rfl, by kernel_rfl⟩ (fun _ => rfl)
end Go.Proofs.Ytpppnoliogdkiaa.P
set_option linter.unusedVariables false
namespace Go.Proofs.Ytpppnoliogdkiaa.P
open Go Go.RowKit Go.Proofs.Ytpppnoliogdkiaa.D
noncomputable def impl_added.E : Env := { tt := TT, con := [], frz := [], rows := [], live := [(3, [0, 3, 6, 8, 9, 16, 17, 18])], n := 45, pin := 0, nils := [8, 9, 14] }
noncomputable def impl_added.fn : D.Fn := { body := Try.f93.body.getD .skip, res := Try.f93.results.toList, ins := [.one (.v (.int .i64)), .agg [.v (.int .i64), .v (.sl 2 (.int .i64))], .agg [.v (.int .i64), .v (.sl 2 (.int .i64))], .one (.v (.int .i64))], outs := [.agg [.v (.int .i64), .own 2 true (.int .i64)]] }
def impl_added.enc (y : lsd (flats impl_added.fn.outs) × lsd (ios impl_added.fn.ins)) : Int × (List Int) := (y.1.1, y.1.2.1)
noncomputable def impl_added.f (a0 : Int) (a1_0 : Int) (l1_1 : List Int) (a2_0 : Int) (l2_1 : List Int) (a3 : Int) : Option (Int × (List Int)) := denF impl_added.E impl_added.fn impl_added.enc (a0, a1_0, l1_1, a2_0, l2_1, a3, ())
noncomputable def impl_added.l0 (x0 : Int) (x3 : Int) (x16 : List Int) (x17 : Int) (x18 : Int) (b0_0 : Int) (b0_1 : List Int) (b1_0 : Int) (b2_0 : Int) (r3 : List Int) (r4 : List Int) : Option (Int × (List Int)) := denAt impl_added.E impl_added.fn impl_added.enc [1, 1, 0, 1, 0] { fr := [(0, .lf (.int .i64 x0)), (3, .lf (.int .i64 x3)), (6, .lf (.box 0 0)), (8, .lf (.box 1 0)), (9, .lf (.box 2 0)), (16, .lf (.sl (.int .i64) x16)), (17, .lf (.int .i64 x17)), (18, .lf (.int .i64 x18))], ob := [(0, .box 48 false [.int .i64 b0_0, .sl (.int .i64) b0_1]), (1, .box 48 false [.int .i64 b1_0, .own 3]), (2, .box 48 false [.int .i64 b2_0, .own 4]), (3, .row 2 true (.int .i64) r3), (4, .row 2 true (.int .i64) r4)], nx := 5 }
set_option maxRecDepth 100000 in
theorem impl_added.f_eq (a0 : Int) (a1_0 : Int) (l1_1 : List Int) (a2_0 : Int) (l2_1 : List Int) (a3 : Int) : impl_added.f a0 a1_0 l1_1 a2_0 l2_1 a3 = impl_added.l0 a0 a3 l1_1 (l1_1.length : Int) 0 a2_0 l2_1 0 a1_0 ([] : List Int) ([] : List Int) := by kernel_rfl
set_option maxRecDepth 100000 in
theorem impl_added.l0_eq (x0 : Int) (x3 : Int) (x16 : List Int) (x17 : Int) (x18 : Int) (b0_0 : Int) (b0_1 : List Int) (b1_0 : Int) (b2_0 : Int) (r3 : List Int) (r4 : List Int) : impl_added.l0 x0 x3 x16 x17 x18 b0_0 b0_1 b1_0 b2_0 r3 r4 = if x18 < x17 then (if 0 ≤ x18 then (if x18 < (x16.length : Int) then (if 0 ≤ x18 then (if x18 < (b0_1.length : Int) then (if x0 = 0 then none else (if x0 = 0 then none else (if r4.length + ([(wrapI (((wrapI ((rd x16 x18) + (wrapI (x3 * (rd b0_1 x18)))) : Int).tmod x0) + x0) : Int).tmod x0] : List Int).length ≤ 17592186044416 then (impl_added.l0 x0 x3 x16 x17 (wrapI (x18 + 1)) b0_0 b0_1 b1_0 b2_0 r3 (r4 ++ ([(wrapI (((wrapI ((rd x16 x18) + (wrapI (x3 * (rd b0_1 x18)))) : Int).tmod x0) + x0) : Int).tmod x0] : List Int))) else none))) else none) else none) else none) else none) else (some (b2_0, r4)) := (loop_unfold _ _ _ _).trans (by kernel_rfl)
noncomputable def impl_added.con : Con := ⟨impl_added.fn.ins, impl_added.fn.outs, Int × (List Int), fun x => impl_added.f x.1 x.2.1 x.2.2.1 x.2.2.2.1 x.2.2.2.2.1 x.2.2.2.2.2.1, fun r => ((r.1, r.2, ()), (()))⟩
theorem impl_added.valid : Valid Try.prog 93 impl_added.con := fn_valid (f := impl_added.fn) (E := impl_added.E) (enc := impl_added.enc) ⟨ttOk, conNil⟩ (Checked.mixed Try.checked) ⟨Try.func93, by kernel_rfl, by kernel_rfl, by kernel_rfl, by kernel_rfl, by decide, by kernel_rfl, by kernel_rfl⟩ (fun _ => rfl)
end Go.Proofs.Ytpppnoliogdkiaa.P
set_option linter.unusedVariables false
namespace Go.Proofs.Ytpppnoliogdkiaa.P
open Go Go.RowKit Go.Proofs.Ytpppnoliogdkiaa.D
noncomputable def slices_Grow_int64.E : Env := { tt := TT, con := [], frz := [], rows := [], live := [], n := 27, pin := 0, nils := [] }
noncomputable def slices_Grow_int64.fn : D.Fn := { body := Try.f137.body.getD .skip, res := Try.f137.results.toList, ins := [.non, .one (.v (.int .i64))], outs := [.one (.own 2 true (.int .i64))] }
def slices_Grow_int64.enc (y : lsd (flats slices_Grow_int64.fn.outs) × lsd (ios slices_Grow_int64.fn.ins)) : (List Int) := y.1.1
noncomputable def slices_Grow_int64.f (a1 : Int) : Option (List Int) := denF slices_Grow_int64.E slices_Grow_int64.fn slices_Grow_int64.enc (a1, ())
set_option maxRecDepth 100000 in
theorem slices_Grow_int64.f_eq (a1 : Int) : slices_Grow_int64.f a1 = if a1 < 0 then none else (if (wrapI (a1 - (wrapI (0 - 0)))) > 0 then (if 0 < wrapI (a1 - (wrapI (0 - 0))) then (if (wrapI (a1 - (wrapI (0 - 0))) : Int).toNat ≤ 17592186044416 then (if 0 < ((List.replicate (wrapI (a1 - (wrapI (0 - 0))) : Int).toNat (0 : Int)).length : Int) then (if 0 ≤ ((List.replicate (wrapI (a1 - (wrapI (0 - 0))) : Int).toNat (0 : Int)).length : Int) then (some ((List.replicate (wrapI (a1 - (wrapI (0 - 0))) : Int).toNat (0 : Int)).take (0 : Int).toNat)) else none) else none) else none) else none) else (some ([] : List Int))) := by kernel_rfl
noncomputable def slices_Grow_int64.con : Con := ⟨slices_Grow_int64.fn.ins, slices_Grow_int64.fn.outs, (List Int), fun x => slices_Grow_int64.f x.1, fun r => ((r, ()), (()))⟩
theorem slices_Grow_int64.valid : Valid Try.prog 137 slices_Grow_int64.con := fn_valid (f := slices_Grow_int64.fn) (E := slices_Grow_int64.E) (enc := slices_Grow_int64.enc) ⟨ttOk, conNil⟩ (Checked.mixed Try.checked) ⟨Try.func137, by kernel_rfl, by kernel_rfl, by kernel_rfl, by kernel_rfl, by decide, by kernel_rfl, by kernel_rfl⟩ (fun _ => rfl)
end Go.Proofs.Ytpppnoliogdkiaa.P
set_option linter.unusedVariables false
namespace Go.Proofs.Ytpppnoliogdkiaa.P
open Go Go.RowKit Go.Proofs.Ytpppnoliogdkiaa.D
noncomputable def slices_Concat_int64.E : Env := { tt := TT, con := [(137, slices_Grow_int64.con)], frz := [], rows := [], live := [(3, [0, 3, 9, 10, 11]), (11, [6, 25, 26, 27])], n := 36, pin := 0, nils := [] }
noncomputable def slices_Concat_int64.fn : D.Fn := { body := Try.f83.body.getD .skip, res := Try.f83.results.toList, ins := [.one (.v (.sl 25 (.sl 2 (.int .i64))))], outs := [.one (.own 2 true (.int .i64))] }
def slices_Concat_int64.enc (y : lsd (flats slices_Concat_int64.fn.outs) × lsd (ios slices_Concat_int64.fn.ins)) : (List Int) := y.1.1
noncomputable def slices_Concat_int64.f (l0 : List (List Int)) : Option (List Int) := denF slices_Concat_int64.E slices_Concat_int64.fn slices_Concat_int64.enc (l0, ())
noncomputable def slices_Concat_int64.l0 (x0 : List (List Int)) (x3 : Int) (x9 : List (List Int)) (x10 : Int) (x11 : Int) : Option (List Int) := denAt slices_Concat_int64.E slices_Concat_int64.fn slices_Concat_int64.enc [1, 1, 0, 1, 0] { fr := [(0, .lf (.sl (.sl 2 (.int .i64)) x0)), (3, .lf (.int .i64 x3)), (9, .lf (.sl (.sl 2 (.int .i64)) x9)), (10, .lf (.int .i64 x10)), (11, .lf (.int .i64 x11))], ob := [], nx := 0 }
noncomputable def slices_Concat_int64.l1 (x25 : List (List Int)) (x26 : Int) (x27 : Int) (r0 : List Int) : Option (List Int) := denAt slices_Concat_int64.E slices_Concat_int64.fn slices_Concat_int64.enc [1, 1, 1, 1, 0, 1, 0] { fr := [(6, .lf (.own 0)), (25, .lf (.sl (.sl 2 (.int .i64)) x25)), (26, .lf (.int .i64 x26)), (27, .lf (.int .i64 x27))], ob := [(0, .row 2 true (.int .i64) r0)], nx := 1 }
set_option maxRecDepth 100000 in
theorem slices_Concat_int64.f_eq (l0 : List (List Int)) : slices_Concat_int64.f l0 = slices_Concat_int64.l0 l0 0 l0 (l0.length : Int) 0 := by kernel_rfl
set_option maxRecDepth 100000 in
theorem slices_Concat_int64.l0_eq (x0 : List (List Int)) (x3 : Int) (x9 : List (List Int)) (x10 : Int) (x11 : Int) : slices_Concat_int64.l0 x0 x3 x9 x10 x11 = if x11 < x10 then (if 0 ≤ x11 then (if x11 < (x9.length : Int) then (if (wrapI (x3 + ((row x9 x11).length : Int))) < 0 then none else (slices_Concat_int64.l0 x0 (wrapI (x3 + ((row x9 x11).length : Int))) x9 x10 (wrapI (x11 + 1)))) else none) else none) else ((slices_Grow_int64.f x3).bind fun t24 => slices_Concat_int64.l1 x0 (x0.length : Int) 0 t24) := (loop_unfold _ _ _ _).trans (by kernel_rfl)
set_option maxRecDepth 100000 in
theorem slices_Concat_int64.l1_eq (x25 : List (List Int)) (x26 : Int) (x27 : Int) (r0 : List Int) : slices_Concat_int64.l1 x25 x26 x27 r0 = if x27 < x26 then (if 0 ≤ x27 then (if x27 < (x25.length : Int) then (if r0.length + (row x25 x27).length ≤ 17592186044416 then (slices_Concat_int64.l1 x25 x26 (wrapI (x27 + 1)) (r0 ++ (row x25 x27))) else none) else none) else none) else (some r0) := (loop_unfold _ _ _ _).trans (by kernel_rfl)
noncomputable def slices_Concat_int64.con : Con := ⟨slices_Concat_int64.fn.ins, slices_Concat_int64.fn.outs, (List Int), fun x => slices_Concat_int64.f x.1, fun r => ((r, ()), (()))⟩
theorem slices_Concat_int64.valid : Valid Try.prog 83 slices_Concat_int64.con := fn_valid (f := slices_Concat_int64.fn) (E := slices_Concat_int64.E) (enc := slices_Concat_int64.enc) ⟨ttOk, (conCons slices_Grow_int64.valid conNil)⟩ (Checked.mixed Try.checked) ⟨Try.func83, by kernel_rfl, by kernel_rfl, by kernel_rfl, by kernel_rfl, by decide, by kernel_rfl, by kernel_rfl⟩ (fun _ => rfl)
end Go.Proofs.Ytpppnoliogdkiaa.P
set_option linter.unusedVariables false
namespace Go.Proofs.Ytpppnoliogdkiaa.P
open Go Go.RowKit Go.Proofs.Ytpppnoliogdkiaa.D
noncomputable def slices_IndexFunc_int64.E : Env := { tt := TT, con := [], frz := [], rows := [], live := [(2, [0, 1, 7, 8])], n := 19, pin := 0, nils := [] }
noncomputable def slices_IndexFunc_int64.fn : D.Fn := { body := Try.f177.body.getD .skip, res := Try.f177.results.toList, ins := [.one (.v (.sl 2 (.int .i64))), .one (.fn [(.int .i64)] .bool)], outs := [.one (.v (.int .i64))] }
def slices_IndexFunc_int64.enc (y : lsd (flats slices_IndexFunc_int64.fn.outs) × lsd (ios slices_IndexFunc_int64.fn.ins)) : Int := y.1.1
noncomputable def slices_IndexFunc_int64.f (l0 : List Int) (f1 : Int → Option Bool) : Option Int := denF slices_IndexFunc_int64.E slices_IndexFunc_int64.fn slices_IndexFunc_int64.enc (l0, fun x => f1 x.1, ())
noncomputable def slices_IndexFunc_int64.l0 (x0 : List Int) (fx1 : Int → Option Bool) (x7 : Int) (x8 : Int) : Option Int := denAt slices_IndexFunc_int64.E slices_IndexFunc_int64.fn slices_IndexFunc_int64.enc [1, 0, 1, 0] { fr := [(0, .lf (.sl (.int .i64) x0)), (1, .lf (.fn [(.int .i64)] .bool (fun x => fx1 x.1))), (7, .lf (.int .i64 x7)), (8, .lf (.int .i64 x8))], ob := [], nx := 0 }
set_option maxRecDepth 100000 in
theorem slices_IndexFunc_int64.f_eq (l0 : List Int) (f1 : Int → Option Bool) : slices_IndexFunc_int64.f l0 f1 = slices_IndexFunc_int64.l0 l0 f1 (l0.length : Int) 0 := by kernel_rfl
set_option maxRecDepth 100000 in
theorem slices_IndexFunc_int64.l0_eq (x0 : List Int) (fx1 : Int → Option Bool) (x7 : Int) (x8 : Int) : slices_IndexFunc_int64.l0 x0 fx1 x7 x8 = if x8 < x7 then (if 0 ≤ x8 then (if x8 < (x0.length : Int) then ((fx1 (rd x0 x8)).bind fun t16 => if t16 = true then (some x8) else (slices_IndexFunc_int64.l0 x0 fx1 x7 (wrapI (x8 + 1)))) else none) else none) else (some (-1)) := (loop_unfold _ _ _ _).trans (by kernel_rfl)
noncomputable def slices_IndexFunc_int64.con : Con := ⟨slices_IndexFunc_int64.fn.ins, slices_IndexFunc_int64.fn.outs, Int, fun x => slices_IndexFunc_int64.f x.1 (fun z0 => x.2.1 (z0, ())), fun r => ((r, ()), (()))⟩
theorem slices_IndexFunc_int64.valid : Valid Try.prog 177 slices_IndexFunc_int64.con := fn_valid (f := slices_IndexFunc_int64.fn) (E := slices_IndexFunc_int64.E) (enc := slices_IndexFunc_int64.enc) ⟨ttOk, conNil⟩ (Checked.mixed Try.checked) ⟨Try.func177, by kernel_rfl, by kernel_rfl, by kernel_rfl, by kernel_rfl, by decide, by kernel_rfl, by kernel_rfl⟩ (fun _ => rfl)
end Go.Proofs.Ytpppnoliogdkiaa.P
set_option linter.unusedVariables false
namespace Go.Proofs.Ytpppnoliogdkiaa.P
open Go Go.RowKit Go.Proofs.Ytpppnoliogdkiaa.D
noncomputable def slices_ContainsFunc_int64.E : Env := { tt := TT, con := [(177, slices_IndexFunc_int64.con)], frz := [], rows := [], live := [], n := 9, pin := 0, nils := [] }
noncomputable def slices_ContainsFunc_int64.fn : D.Fn := { body := Try.f138.body.getD .skip, res := Try.f138.results.toList, ins := [.one (.v (.sl 2 (.int .i64))), .one (.fn [(.int .i64)] .bool)], outs := [.one (.v .bool)] }
def slices_ContainsFunc_int64.enc (y : lsd (flats slices_ContainsFunc_int64.fn.outs) × lsd (ios slices_ContainsFunc_int64.fn.ins)) : Bool := y.1.1
noncomputable def slices_ContainsFunc_int64.f (l0 : List Int) (f1 : Int → Option Bool) : Option Bool := denF slices_ContainsFunc_int64.E slices_ContainsFunc_int64.fn slices_ContainsFunc_int64.enc (l0, fun x => f1 x.1, ())
set_option maxRecDepth 100000 in
theorem slices_ContainsFunc_int64.f_eq (l0 : List Int) (f1 : Int → Option Bool) : slices_ContainsFunc_int64.f l0 f1 = (slices_IndexFunc_int64.f l0 (fun z0 => (f1 z0).map fun z => z)).bind fun t7 => some (decide (t7 ≥ 0)) := by kernel_rfl
noncomputable def slices_ContainsFunc_int64.con : Con := ⟨slices_ContainsFunc_int64.fn.ins, slices_ContainsFunc_int64.fn.outs, Bool, fun x => slices_ContainsFunc_int64.f x.1 (fun z0 => x.2.1 (z0, ())), fun r => ((r, ()), (()))⟩
theorem slices_ContainsFunc_int64.valid : Valid Try.prog 138 slices_ContainsFunc_int64.con := fn_valid (f := slices_ContainsFunc_int64.fn) (E := slices_ContainsFunc_int64.E) (enc := slices_ContainsFunc_int64.enc) ⟨ttOk, (conCons slices_IndexFunc_int64.valid conNil)⟩ (Checked.mixed Try.checked) ⟨Try.func138, by kernel_rfl, by kernel_rfl, by kernel_rfl, by kernel_rfl, by decide, by kernel_rfl, by kernel_rfl⟩ (fun _ => rfl)
end Go.Proofs.Ytpppnoliogdkiaa.P
set_option linter.unusedVariables false
namespace Go.Proofs.Ytpppnoliogdkiaa.P
open Go Go.RowKit Go.Proofs.Ytpppnoliogdkiaa.D
noncomputable def impl_isZero_1.E : Env := { tt := TT, con := [], frz := [], rows := [], live := [], n := 5, pin := 0, nils := [] }
noncomputable def impl_isZero_1.fn : D.Fn := { body := Try.f139.body.getD .skip, res := Try.f139.results.toList, ins := [.one (.v (.int .i64))], outs := [.one (.v .bool)] }
def impl_isZero_1.enc (y : lsd (flats impl_isZero_1.fn.outs) × lsd (ios impl_isZero_1.fn.ins)) : Bool := y.1.1
noncomputable def impl_isZero_1.f (a0 : Int) : Option Bool := denF impl_isZero_1.E impl_isZero_1.fn impl_isZero_1.enc (a0, ())
set_option maxRecDepth 100000 in
theorem impl_isZero_1.f_eq (a0 : Int) : impl_isZero_1.f a0 = some (!decide (a0 = 0)) := by kernel_rfl
noncomputable def impl_isZero_1.con : Con := ⟨impl_isZero_1.fn.ins, impl_isZero_1.fn.outs, Bool, fun x => impl_isZero_1.f x.1, fun r => ((r, ()), (()))⟩
theorem impl_isZero_1.valid : Valid Try.prog 139 impl_isZero_1.con := fn_valid (f := impl_isZero_1.fn) (E := impl_isZero_1.E) (enc := impl_isZero_1.enc) ⟨ttOk, conNil⟩ (Checked.mixed Try.checked) ⟨Try.func139, by kernel_rfl, by kernel_rfl, by kernel_rfl, by kernel_rfl, by decide, by kernel_rfl, by kernel_rfl⟩ (fun _ => rfl)
end Go.Proofs.Ytpppnoliogdkiaa.P
set_option linter.unusedVariables false
namespace Go.Proofs.Ytpppnoliogdkiaa.P
open Go Go.RowKit Go.Proofs.Ytpppnoliogdkiaa.D
noncomputable def impl_isZero.E : Env := { tt := TT, con := [(138, slices_ContainsFunc_int64.con), (139, impl_isZero_1.con)], frz := [], rows := [], live := [], n := 6, pin := 0, nils := [] }
noncomputable def impl_isZero.fn : D.Fn := { body := Try.f91.body.getD .skip, res := Try.f91.results.toList, ins := [.one (.v (.sl 2 (.int .i64)))], outs := [.one (.v .bool)] }
def impl_isZero.enc (y : lsd (flats impl_isZero.fn.outs) × lsd (ios impl_isZero.fn.ins)) : Bool := y.1.1
noncomputable def impl_isZero.f (l0 : List Int) : Option Bool := denF impl_isZero.E impl_isZero.fn impl_isZero.enc (l0, ())
set_option maxRecDepth 100000 in
theorem impl_isZero.f_eq (l0 : List Int) : impl_isZero.f l0 = (slices_ContainsFunc_int64.f l0 (fun z0 => (impl_isZero_1.f z0).map fun z => z)).bind fun t4 => some (!decide (t4 = true)) := by kernel_rfl
noncomputable def impl_isZero.con : Con := ⟨impl_isZero.fn.ins, impl_isZero.fn.outs, Bool, fun x => impl_isZero.f x.1, fun r => ((r, ()), (()))⟩
theorem impl_isZero.valid : Valid Try.prog 91 impl_isZero.con := fn_valid (f := impl_isZero.fn) (E := impl_isZero.E) (enc := impl_isZero.enc) ⟨ttOk, (conCons slices_ContainsFunc_int64.valid (conCons impl_isZero_1.valid conNil))⟩ (Checked.mixed Try.checked) ⟨Try.func91, by kernel_rfl, by kernel_rfl, by kernel_rfl, by kernel_rfl, by decide, by kernel_rfl, by kernel_rfl⟩ (fun _ => rfl)
end Go.Proofs.Ytpppnoliogdkiaa.P
set_option linter.unusedVariables false
namespace Go.Proofs.Ytpppnoliogdkiaa.P
open Go Go.RowKit Go.Proofs.Ytpppnoliogdkiaa.D
noncomputable def impl_span_combined.E : Env := { tt := TT, con := [], frz := [], rows := [], live := [(3, [0, 1, 3, 4, 11, 17, 18, 19])], n := 54, pin := 0, nils := [] }
noncomputable def impl_span_combined.fn : D.Fn := { body := Try.f179.body.getD .skip, res := Try.f179.results.toList, ins := [.ptr true 133 [.v (.int .i64), .v (.sl 25 (.sl 1000002 (.int .i64)))], .one (.v (.int .i64)), .one (.v (.sl 2 (.int .i64))), .one (.v (.int .i64)), .one (.v (.sl 2 (.int .i64)))], outs := [.one (.own 2 true (.int .i64))] }
def impl_span_combined.enc (y : lsd (flats impl_span_combined.fn.outs) × lsd (ios impl_span_combined.fn.ins)) : (List Int) := y.1.1
noncomputable def impl_span_combined.f (a0_0 : Int) (l0_1 : List (List Int)) (a1 : Int) (l2 : List Int) (a3 : Int) (l4 : List Int) : Option (List Int) := denF impl_span_combined.E impl_span_combined.fn impl_span_combined.enc (a0_0, l0_1, a1, l2, a3, l4, ())
noncomputable def impl_span_combined.l0 (x1 : Int) (x3 : Int) (x4 : List Int) (x17 : List Int) (x18 : Int) (x19 : Int) (b0_0 : Int) (b0_1 : List (List Int)) (r1 : List Int) : Option (List Int) := denAt impl_span_combined.E impl_span_combined.fn impl_span_combined.enc [1, 1, 0, 1, 0] { fr := [(0, .lf (.box 0 0)), (1, .lf (.int .i64 x1)), (3, .lf (.int .i64 x3)), (4, .lf (.sl (.int .i64) x4)), (11, .lf (.own 1)), (17, .lf (.sl (.int .i64) x17)), (18, .lf (.int .i64 x18)), (19, .lf (.int .i64 x19))], ob := [(0, .box 133 true [.int .i64 b0_0, .sl (.sl 1000002 (.int .i64)) b0_1]), (1, .row 2 true (.int .i64) r1)], nx := 2 }
set_option maxRecDepth 100000 in
theorem impl_span_combined.f_eq (a0_0 : Int) (l0_1 : List (List Int)) (a1 : Int) (l2 : List Int) (a3 : Int) (l4 : List Int) : impl_span_combined.f a0_0 l0_1 a1 l2 a3 l4 = if (l2.length : Int) = (l2.length : Int) then (if 0 ≤ (l2.length : Int) then (if ((l2.length : Int) : Int).toNat ≤ 17592186044416 then (impl_span_combined.l0 a1 a3 l4 l2 (l2.length : Int) 0 a0_0 l0_1 (List.replicate ((l2.length : Int) : Int).toNat (0 : Int))) else none) else none) else none := by kernel_rfl
set_option maxRecDepth 100000 in
theorem impl_span_combined.l0_eq (x1 : Int) (x3 : Int) (x4 : List Int) (x17 : List Int) (x18 : Int) (x19 : Int) (b0_0 : Int) (b0_1 : List (List Int)) (r1 : List Int) : impl_span_combined.l0 x1 x3 x4 x17 x18 x19 b0_0 b0_1 r1 = if x19 < x18 then (if 0 ≤ x19 then (if x19 < (x17.length : Int) then (if 0 ≤ x19 then (if x19 < (x4.length : Int) then (if b0_0 = 0 then none else (if b0_0 = 0 then none else (if 0 ≤ x19 then (if x19 < (r1.length : Int) then (if 0 ≤ x19 then (if x19 < (r1.length : Int) then (impl_span_combined.l0 x1 x3 x4 x17 x18 (wrapI (x19 + 1)) b0_0 b0_1 (r1.set (x19 : Int).toNat ((wrapI (((wrapI ((wrapI (x1 * (rd x17 x19))) + (wrapI (x3 * (rd x4 x19)))) : Int).tmod b0_0) + b0_0) : Int).tmod b0_0))) else none) else none) else none) else none))) else none) else none) else none) else none) else (some r1) := (loop_unfold _ _ _ _).trans (by kernel_rfl)
noncomputable def impl_span_combined.con : Con := ⟨impl_span_combined.fn.ins, impl_span_combined.fn.outs, (List Int), fun x => impl_span_combined.f x.1 x.2.1 x.2.2.1 x.2.2.2.1 x.2.2.2.2.1 x.2.2.2.2.2.1, fun r => ((r, ()), (()))⟩
theorem impl_span_combined.valid : Valid Try.prog 179 impl_span_combined.con := fn_valid (f := impl_span_combined.fn) (E := impl_span_combined.E) (enc := impl_span_combined.enc) ⟨ttOk, conNil⟩ (Checked.mixed Try.checked) ⟨Try.func179, by kernel_rfl, by kernel_rfl, by kernel_rfl, by kernel_rfl, by decide, by kernel_rfl, by kernel_rfl⟩ (fun _ => rfl)
end Go.Proofs.Ytpppnoliogdkiaa.P
set_option linter.unusedVariables false
namespace Go.Proofs.Ytpppnoliogdkiaa.P
open Go Go.RowKit Go.Proofs.Ytpppnoliogdkiaa.D
noncomputable def impl_span_rest.E : Env := { tt := TT, con := [(179, impl_span_combined.con)], frz := [], rows := [], live := [(3, [0, 1, 6, 18, 19, 20])], n := 51, pin := 1, nils := [] }
noncomputable def impl_span_rest.fn : D.Fn := { body := Try.f140.body.getD .skip, res := Try.f140.results.toList, ins := [.ptr false 133 [.v (.int .i64), .own 25 false (.sl 1000002 (.int .i64))], .eat 2 true (.int .i64)], outs := [.one (.own 2 true (.int .i64)), .one (.own 2 true (.int .i64))] }
def impl_span_rest.enc (y : lsd (flats impl_span_rest.fn.outs) × lsd (ios impl_span_rest.fn.ins)) : (List Int) × (List Int) × Int × (List (List Int)) := (y.1.1, y.1.2.1, y.2.1, y.2.2.1)
noncomputable def impl_span_rest.f (a0_0 : Int) (l0_1 : List (List Int)) (l1 : List Int) : Option ((List Int) × (List Int) × Int × (List (List Int))) := denF impl_span_rest.E impl_span_rest.fn impl_span_rest.enc (a0_0, l0_1, l1, ())
noncomputable def impl_span_rest.l0 (x19 : Int) (x20 : Int) (b0_0 : Int) (r1 : List (List Int)) (r2 : List Int) (r3 : List Int) : Option ((List Int) × (List Int) × Int × (List (List Int))) := denAt impl_span_rest.E impl_span_rest.fn impl_span_rest.enc [1, 1, 0, 1, 0] { fr := [(0, .lf (.box 0 0)), (1, .lf (.own 2)), (6, .lf (.own 3)), (18, .lf (.own 1)), (19, .lf (.int .i64 x19)), (20, .lf (.int .i64 x20))], ob := [(0, .box 133 false [.int .i64 b0_0, .own 1]), (1, .row 25 false (.sl 1000002 (.int .i64)) r1), (2, .row 2 true (.int .i64) r2), (3, .row 2 true (.int .i64) r3)], nx := 4 }
set_option maxRecDepth 100000 in
theorem impl_span_rest.f_eq (a0_0 : Int) (l0_1 : List (List Int)) (l1 : List Int) : impl_span_rest.f a0_0 l0_1 l1 = if (l0_1.length : Int) = (l0_1.length : Int) then (if 0 ≤ (l0_1.length : Int) then (if ((l0_1.length : Int) : Int).toNat ≤ 17592186044416 then (impl_span_rest.l0 (l0_1.length : Int) 0 a0_0 l0_1 l1 (List.replicate ((l0_1.length : Int) : Int).toNat (0 : Int))) else none) else none) else none := by kernel_rfl
set_option maxRecDepth 100000 in
theorem impl_span_rest.l0_eq (x19 : Int) (x20 : Int) (b0_0 : Int) (r1 : List (List Int)) (r2 : List Int) (r3 : List Int) : impl_span_rest.l0 x19 x20 b0_0 r1 r2 r3 = if x20 < x19 then (if 0 ≤ x20 then (if x20 < (r1.length : Int) then (if 0 ≤ x20 then (if x20 < (r1.length : Int) then (if (row r1 x20).length = 0 then (impl_span_rest.l0 x19 (wrapI (x20 + 1)) b0_0 r1 r2 r3) else (if 0 < (row r1 x20).length then (if 0 ≤ x20 then (if x20 < (r2.length : Int) then (if 0 ≤ x20 then (if x20 < (r2.length : Int) then (if 0 ≤ x20 then (if x20 < ((row r1 x20).length : Int) then (if (T r1 x20 x20) = 0 then none else (if 0 ≤ x20 then (if x20 < (r3.length : Int) then (if 0 ≤ x20 then (if x20 < (r3.length : Int) then (if 0 ≤ x20 then (if x20 < ((r3.set (x20 : Int).toNat (wrapI ((rd r2 x20 : Int).tdiv (T r1 x20 x20)))).length : Int) then (if 0 ≤ x20 then (if x20 < ((r3.set (x20 : Int).toNat (wrapI ((rd r2 x20 : Int).tdiv (T r1 x20 x20)))).length : Int) then ((impl_span_combined.f b0_0 r1 1 r2 (wrapI (0 - (rd (r3.set (x20 : Int).toNat (wrapI ((rd r2 x20 : Int).tdiv (T r1 x20 x20)))) x20))) (row r1 x20)).bind fun t47 => impl_span_rest.l0 x19 (wrapI (x20 + 1)) b0_0 r1 t47 (r3.set (x20 : Int).toNat (wrapI ((rd r2 x20 : Int).tdiv (T r1 x20 x20))))) else none) else none) else none) else none) else none) else none) else none) else none)) else none) else none) else none) else none) else none) else none) else none)) else none) else none) else none) else none) else (some (r2, r3, b0_0, r1)) := (loop_unfold _ _ _ _).trans (by kernel_rfl)
noncomputable def impl_span_rest.con : Con := ⟨impl_span_rest.fn.ins, impl_span_rest.fn.outs, (List Int) × (List Int) × Int × (List (List Int)), fun x => impl_span_rest.f x.1 x.2.1 x.2.2.1, fun r => ((r.1, r.2.1, ()), (r.2.2.1, r.2.2.2, ()))⟩
theorem impl_span_rest.valid : Valid Try.prog 140 impl_span_rest.con := fn_valid (f := impl_span_rest.fn) (E := impl_span_rest.E) (enc := impl_span_rest.enc) ⟨ttOk, (conCons impl_span_combined.valid conNil)⟩ (Checked.mixed Try.checked) ⟨Try.func140, by kernel_rfl, by kernel_rfl, by kernel_rfl, by kernel_rfl, by decide, by kernel_rfl, by kernel_rfl⟩ (fun _ => rfl)
end Go.Proofs.Ytpppnoliogdkiaa.P
set_option linter.unusedVariables false
namespace Go.Proofs.Ytpppnoliogdkiaa.P
open Go Go.RowKit Go.Proofs.Ytpppnoliogdkiaa.D
noncomputable def slices_Clone_int64_d.E : Env := { tt := TT, con := [], frz := [], rows := [], live := [], n := 8, pin := 0, nils := [] }
noncomputable def slices_Clone_int64_d.fn : D.Fn := { body := Try.f141.body.getD .skip, res := Try.f141.results.toList, ins := [.one (.v (.sl 2 (.int .i64)))], outs := [.one (.own 2 true (.int .i64))] }
def slices_Clone_int64_d.enc (y : lsd (flats slices_Clone_int64_d.fn.outs) × lsd (ios slices_Clone_int64_d.fn.ins)) : (List Int) := y.1.1
noncomputable def slices_Clone_int64_d.f (l0 : List Int) : Option (List Int) := denF slices_Clone_int64_d.E slices_Clone_int64_d.fn slices_Clone_int64_d.enc (l0, ())
set_option maxRecDepth 100000 in
theorem slices_Clone_int64_d.f_eq (l0 : List Int) : slices_Clone_int64_d.f l0 = if 0 < l0.length then (if ([] : List Int).length + l0.length ≤ 17592186044416 then (some (([] : List Int) ++ l0)) else none) else none := by kernel_rfl
noncomputable def slices_Clone_int64_d.con : Con := ⟨slices_Clone_int64_d.fn.ins, slices_Clone_int64_d.fn.outs, (List Int), fun x => slices_Clone_int64_d.f x.1, fun r => ((r, ()), (()))⟩
theorem slices_Clone_int64_d.valid : Valid Try.prog 141 slices_Clone_int64_d.con := fn_valid (f := slices_Clone_int64_d.fn) (E := slices_Clone_int64_d.E) (enc := slices_Clone_int64_d.enc) ⟨ttOk, conNil⟩ (Checked.mixed Try.checked) ⟨Try.func141, by kernel_rfl, by kernel_rfl, by kernel_rfl, by kernel_rfl, by decide, by kernel_rfl, by kernel_rfl⟩ (fun _ => rfl)
theorem slices_Clone_int64.emp_eq : ∀ b, denE slices_Clone_int64_d.E slices_Clone_int64_d.fn slices_Clone_int64_d.enc (empSt b) = some ([] : List Int) := fun b => by cases b <;> kernel_rfl
noncomputable def slices_Clone_int64.f (l0 : List Int) : Option (List Int) := if l0.length = 0 then some [] else slices_Clone_int64_d.f l0
theorem slices_Clone_int64.f_eq (l0 : List Int) : slices_Clone_int64.f l0 = if l0.length = 0 then some [] else (if 0 < l0.length then (if ([] : List Int).length + l0.length ≤ 17592186044416 then (some (([] : List Int) ++ l0)) else none) else none) := by unfold slices_Clone_int64.f; rw [slices_Clone_int64_d.f_eq]
noncomputable def slices_Clone_int64.con : Con := ⟨slices_Clone_int64_d.fn.ins, slices_Clone_int64_d.fn.outs, (List Int), fun x => slices_Clone_int64.f x.1, fun r => ((r, ()), (()))⟩
theorem slices_Clone_int64.valid : Valid Try.prog 141 slices_Clone_int64.con := emp_valid (E := slices_Clone_int64_d.E) (enc := slices_Clone_int64_d.enc) ⟨ttOk, conNil⟩ (Checked.mixed Try.checked) ⟨Try.func141, by kernel_rfl, by kernel_rfl, by kernel_rfl, by kernel_rfl, by decide, by kernel_rfl, by kernel_rfl⟩ (fun _ => rfl) slices_Clone_int64.emp_eq slices_Clone_int64_d.valid
end Go.Proofs.Ytpppnoliogdkiaa.P
set_option linter.unusedVariables false
namespace Go.Proofs.Ytpppnoliogdkiaa.P
open Go Go.RowKit Go.Proofs.Ytpppnoliogdkiaa.D
noncomputable def impl_span_least.E : Env := { tt := TT, con := [(141, slices_Clone_int64.con), (140, impl_span_rest.con)], frz := [], rows := [], live := [], n := 19, pin := 1, nils := [] }
noncomputable def impl_span_least.fn : D.Fn := { body := Try.f92.body.getD .skip, res := Try.f92.results.toList, ins := [.ptr false 133 [.v (.int .i64), .own 25 false (.sl 1000002 (.int .i64))], .agg [.v (.int .i64), .v (.sl 2 (.int .i64))]], outs := [.agg [.v (.int .i64), .own 2 true (.int .i64)]] }
def impl_span_least.enc (y : lsd (flats impl_span_least.fn.outs) × lsd (ios impl_span_least.fn.ins)) : Int × (List Int) × Int × (List (List Int)) := (y.1.1, y.1.2.1, y.2.1, y.2.2.1)
noncomputable def impl_span_least.f (a0_0 : Int) (l0_1 : List (List Int)) (a1_0 : Int) (l1_1 : List Int) : Option (Int × (List Int) × Int × (List (List Int))) := denF impl_span_least.E impl_span_least.fn impl_span_least.enc (a0_0, l0_1, a1_0, l1_1, ())
set_option maxRecDepth 100000 in
theorem impl_span_least.f_eq (a0_0 : Int) (l0_1 : List (List Int)) (a1_0 : Int) (l1_1 : List Int) : impl_span_least.f a0_0 l0_1 a1_0 l1_1 = (slices_Clone_int64.f l1_1).bind fun t11 => (impl_span_rest.f a0_0 l0_1 t11).bind fun t12 => some (a1_0, t12.1, t12.2.2.1, t12.2.2.2) := by kernel_rfl
noncomputable def impl_span_least.con : Con := ⟨impl_span_least.fn.ins, impl_span_least.fn.outs, Int × (List Int) × Int × (List (List Int)), fun x => impl_span_least.f x.1 x.2.1 x.2.2.1 x.2.2.2.1, fun r => ((r.1, r.2.1, ()), (r.2.2.1, r.2.2.2, ()))⟩
theorem impl_span_least.valid : Valid Try.prog 92 impl_span_least.con := fn_valid (f := impl_span_least.fn) (E := impl_span_least.E) (enc := impl_span_least.enc) ⟨ttOk, (conCons slices_Clone_int64.valid (conCons impl_span_rest.valid conNil))⟩ (Checked.mixed Try.checked) ⟨Try.func92, by kernel_rfl, by kernel_rfl, by kernel_rfl, by kernel_rfl, by decide, by kernel_rfl, by kernel_rfl⟩ (fun _ => rfl)
end Go.Proofs.Ytpppnoliogdkiaa.P
