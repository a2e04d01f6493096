/- What the proof of the law LeastBounded stands on, part 4: words, each Go function's Lean function, and that the Go code comes to its answers; no condition. (Packed by wip/myprint/pack.py out of what the kit's printer wrote, its words among it, partly by our patches of it, and out of texts of this session.) -/
import Derived.Test.YtpppnoliogdkiaaKLeastBounded3
set_option linter.unusedVariables false
namespace Go.Proofs.Ytpppnoliogdkiaa.P
open Go Go.RowKit Go.Proofs.Ytpppnoliogdkiaa.D
noncomputable def spec_l01Is.E : Env := { tt := TT, con := [(125, spec_l01In.con)], frz := [], rows := [], live := [(5, [1, 3, 4]), (10, [1, 3, 4, 5]), (15, [1, 3, 6]), (21, [1, 3, 6, 7, 8]), (25, [1, 3, 6, 7, 8, 9])], n := 137, pin := 0, nils := [7] }
noncomputable def spec_l01Is.fn : D.Fn := { body := Try.f116.body.getD .skip, res := Try.f116.results.toList, ins := [.agg [.v (.sl 25 (.sl 2 (.int .i64)))]], outs := [.one (.v .bool)] }
def spec_l01Is.enc (y : lsd (flats spec_l01Is.fn.outs) × lsd (ios spec_l01Is.fn.ins)) : Bool := y.1.1
noncomputable def spec_l01Is.f (l0_0 : List (List Int)) : Option Bool := denF spec_l01Is.E spec_l01Is.fn spec_l01Is.enc (l0_0, ())
noncomputable def spec_l01Is.l0 (x3 : Int) (x4 : Int) (b0_0 : List (List Int)) : Option Bool := denAt spec_l01Is.E spec_l01Is.fn spec_l01Is.enc [1, 1, 1, 0, 1, 0] { fr := [(1, .lf (.box 0 0)), (3, .lf (.int .i64 x3)), (4, .lf (.int .i64 x4))], ob := [(0, .box 32 false [.sl (.sl 2 (.int .i64)) b0_0])], nx := 1 }
noncomputable def spec_l01Is.l1 (x3 : Int) (x4 : Int) (x5 : Int) (b0_0 : List (List Int)) : Option Bool := denAt spec_l01Is.E spec_l01Is.fn spec_l01Is.enc [1, 1, 1, 0, 1, 0, 0, 1, 0, 0, 1, 1, 0] { fr := [(1, .lf (.box 0 0)), (3, .lf (.int .i64 x3)), (4, .lf (.int .i64 x4)), (5, .lf (.int .i64 x5))], ob := [(0, .box 32 false [.sl (.sl 2 (.int .i64)) b0_0])], nx := 1 }
noncomputable def spec_l01Is.l2 (x3 : Int) (x6 : Int) (b0_0 : List (List Int)) : Option Bool := denAt spec_l01Is.E spec_l01Is.fn spec_l01Is.enc [1, 1, 1, 1, 0, 1, 0] { fr := [(1, .lf (.box 0 0)), (3, .lf (.int .i64 x3)), (6, .lf (.int .i64 x6))], ob := [(0, .box 32 false [.sl (.sl 2 (.int .i64)) b0_0])], nx := 1 }
noncomputable def spec_l01Is.l3 (x3 : Int) (x6 : Int) (x7 : Bool) (x8 : Int) (b0_0 : List (List Int)) : Option Bool := denAt spec_l01Is.E spec_l01Is.fn spec_l01Is.enc [1, 1, 1, 1, 0, 1, 0, 0, 1, 0, 0, 1, 1, 0, 1, 0] { fr := [(1, .lf (.box 0 0)), (3, .lf (.int .i64 x3)), (6, .lf (.int .i64 x6)), (7, .lf (boolLf x7)), (8, .lf (.int .i64 x8))], ob := [(0, .box 32 false [.sl (.sl 2 (.int .i64)) b0_0])], nx := 1 }
noncomputable def spec_l01Is.l4 (x3 : Int) (x6 : Int) (x7 : Bool) (x8 : Int) (x9 : Int) (b0_0 : List (List Int)) : Option Bool := denAt spec_l01Is.E spec_l01Is.fn spec_l01Is.enc [1, 1, 1, 1, 0, 1, 0, 0, 1, 0, 0, 1, 1, 0, 1, 0, 0, 1, 0, 0, 1, 1, 0] { fr := [(1, .lf (.box 0 0)), (3, .lf (.int .i64 x3)), (6, .lf (.int .i64 x6)), (7, .lf (boolLf x7)), (8, .lf (.int .i64 x8)), (9, .lf (.int .i64 x9))], ob := [(0, .box 32 false [.sl (.sl 2 (.int .i64)) b0_0])], nx := 1 }
set_option maxRecDepth 100000 in
theorem spec_l01Is.f_eq (l0_0 : List (List Int)) : spec_l01Is.f l0_0 = (spec_l01In.f (l0_0.length : Int) 1 8).bind fun t14 => if t14 = true then (spec_l01Is.l0 (l0_0.length : Int) 0 l0_0) else (some false) := by kernel_rfl
set_option maxRecDepth 100000 in
theorem spec_l01Is.l0_eq (x3 : Int) (x4 : Int) (b0_0 : List (List Int)) : spec_l01Is.l0 x3 x4 b0_0 = if x4 < x3 then (if 0 ≤ x4 then (if x4 < (b0_0.length : Int) then (if ((row b0_0 x4).length : Int) = x3 then (spec_l01Is.l1 x3 x4 0 b0_0) else (some false)) else none) else none) else (spec_l01Is.l2 x3 0 b0_0) := (loop_unfold _ _ _ _).trans (by kernel_rfl)
set_option maxRecDepth 100000 in
theorem spec_l01Is.l1_eq (x3 : Int) (x4 : Int) (x5 : Int) (b0_0 : List (List Int)) : spec_l01Is.l1 x3 x4 x5 b0_0 = if x5 < x3 then (if 0 ≤ x4 then (if x4 < (b0_0.length : Int) then (if 0 ≤ x5 then (if x5 < ((row b0_0 x4).length : Int) then ((spec_l01In.f (T b0_0 x4 x5) 0 (wrapI (x3 - 1))).bind fun t44 => if t44 = true then (spec_l01Is.l1 x3 x4 (wrapI (x5 + 1)) b0_0) else (some false)) else none) else none) else none) else none) else (spec_l01Is.l0 x3 (wrapI (x4 + 1)) b0_0) := (loop_unfold _ _ _ _).trans (by kernel_rfl)
set_option maxRecDepth 100000 in
theorem spec_l01Is.l2_eq (x3 : Int) (x6 : Int) (b0_0 : List (List Int)) : spec_l01Is.l2 x3 x6 b0_0 = if x6 < x3 then (if 0 < (b0_0.length : Int) then (if 0 ≤ x6 then (if x6 < ((row b0_0 0).length : Int) then (if (T b0_0 0 x6) = x6 then (if 0 ≤ x6 then (if x6 < (b0_0.length : Int) then (if 0 < ((row b0_0 x6).length : Int) then (if (T b0_0 x6 0) = x6 then (spec_l01Is.l3 x3 x6 false 0 b0_0) else (some false)) else none) else none) else none) else (some false)) else none) else none) else none) else (some true) := (loop_unfold _ _ _ _).trans (by kernel_rfl)
set_option maxRecDepth 100000 in
theorem spec_l01Is.l3_eq (x3 : Int) (x6 : Int) (x7 : Bool) (x8 : Int) (b0_0 : List (List Int)) : spec_l01Is.l3 x3 x6 x7 x8 b0_0 = if x8 < x3 then (if x7 = true then (spec_l01Is.l4 x3 x6 true x8 0 b0_0) else (if 0 ≤ x6 then (if x6 < (b0_0.length : Int) then (if 0 ≤ x8 then (if x8 < ((row b0_0 x6).length : Int) then (if (T b0_0 x6 x8) = 0 then (if 0 ≤ x8 then (if x8 < (b0_0.length : Int) then (if 0 ≤ x6 then (if x6 < ((row b0_0 x8).length : Int) then (spec_l01Is.l4 x3 x6 (decide ((T b0_0 x8 x6) = 0)) x8 0 b0_0) else none) else none) else none) else none) else (spec_l01Is.l4 x3 x6 false x8 0 b0_0)) else none) else none) else none) else none)) else (if x7 = true then (spec_l01Is.l2 x3 (wrapI (x6 + 1)) b0_0) else (some false)) := (loop_unfold _ _ _ _).trans (by kernel_rfl)
set_option maxRecDepth 100000 in
theorem spec_l01Is.l4_eq (x3 : Int) (x6 : Int) (x7 : Bool) (x8 : Int) (x9 : Int) (b0_0 : List (List Int)) : spec_l01Is.l4 x3 x6 x7 x8 x9 b0_0 = if x9 < x3 then (if 0 ≤ x6 then (if x6 < (b0_0.length : Int) then (if 0 ≤ x8 then (if x8 < ((row b0_0 x6).length : Int) then (if 0 ≤ T b0_0 x6 x8 then (if T b0_0 x6 x8 < (b0_0.length : Int) then (if 0 ≤ x9 then (if x9 < ((row b0_0 (T b0_0 x6 x8)).length : Int) then (if 0 ≤ x6 then (if x6 < (b0_0.length : Int) then (if 0 ≤ x8 then (if x8 < (b0_0.length : Int) then (if 0 ≤ x9 then (if x9 < ((row b0_0 x8).length : Int) then (if 0 ≤ T b0_0 x8 x9 then (if T b0_0 x8 x9 < ((row b0_0 x6).length : Int) then (if (T b0_0 (T b0_0 x6 x8) x9) = (T b0_0 x6 (T b0_0 x8 x9)) then (spec_l01Is.l4 x3 x6 x7 x8 (wrapI (x9 + 1)) b0_0) else (some false)) else none) else none) else none) else none) else none) else none) else none) else none) else none) else none) else none) else none) else none) else none) else none) else none) else (spec_l01Is.l3 x3 x6 x7 (wrapI (x8 + 1)) b0_0) := (loop_unfold _ _ _ _).trans (by kernel_rfl)
noncomputable def spec_l01Is.con : Con := ⟨spec_l01Is.fn.ins, spec_l01Is.fn.outs, Bool, fun x => spec_l01Is.f x.1, fun r => ((r, ()), (()))⟩
theorem spec_l01Is.valid : Valid Try.prog 116 spec_l01Is.con := fn_valid (f := spec_l01Is.fn) (E := spec_l01Is.E) (enc := spec_l01Is.enc) ⟨ttOk, (conCons spec_l01In.valid conNil)⟩ (Checked.mixed Try.checked) ⟨Try.func116, by kernel_rfl, by kernel_rfl, by kernel_rfl, by kernel_rfl, by decide, by kernel_rfl, by kernel_rfl⟩ (fun _ => rfl)
end Go.Proofs.Ytpppnoliogdkiaa.P
set_option linter.unusedVariables false
namespace Go.Proofs.Ytpppnoliogdkiaa.P
open Go Go.RowKit Go.Proofs.Ytpppnoliogdkiaa.D
noncomputable def spec_l01Gcd.E : Env := { tt := TT, con := [], frz := [], rows := [], live := [(1, [0, 1])], n := 17, pin := 0, nils := [] }
noncomputable def spec_l01Gcd.fn : D.Fn := { body := Try.f163.body.getD .skip, res := Try.f163.results.toList, ins := [.one (.v (.int .i64)), .one (.v (.int .i64))], outs := [.one (.v (.int .i64))] }
def spec_l01Gcd.enc (y : lsd (flats spec_l01Gcd.fn.outs) × lsd (ios spec_l01Gcd.fn.ins)) : Int := y.1.1
noncomputable def spec_l01Gcd.f (a0 : Int) (a1 : Int) : Option Int := denF spec_l01Gcd.E spec_l01Gcd.fn spec_l01Gcd.enc (a0, a1, ())
noncomputable def spec_l01Gcd.l0 (x0 : Int) (x1 : Int) : Option Int := denAt spec_l01Gcd.E spec_l01Gcd.fn spec_l01Gcd.enc [1, 0, 0] { fr := [(0, .lf (.int .i64 x0)), (1, .lf (.int .i64 x1))], ob := [], nx := 0 }
set_option maxRecDepth 100000 in
theorem spec_l01Gcd.f_eq (a0 : Int) (a1 : Int) : spec_l01Gcd.f a0 a1 = spec_l01Gcd.l0 a0 a1 := by kernel_rfl
set_option maxRecDepth 100000 in
theorem spec_l01Gcd.l0_eq (x0 : Int) (x1 : Int) : spec_l01Gcd.l0 x0 x1 = if x1 = 0 then (some (if (wrapI (0 - x0)) > x0 then (wrapI (0 - x0)) else x0)) else (if x1 = 0 then none else (spec_l01Gcd.l0 x1 ((x0 : Int).tmod x1))) := (loop_unfold _ _ _ _).trans (by kernel_rfl)
noncomputable def spec_l01Gcd.con : Con := ⟨spec_l01Gcd.fn.ins, spec_l01Gcd.fn.outs, Int, fun x => spec_l01Gcd.f x.1 x.2.1, fun r => ((r, ()), (()))⟩
theorem spec_l01Gcd.valid : Valid Try.prog 163 spec_l01Gcd.con := fn_valid (f := spec_l01Gcd.fn) (E := spec_l01Gcd.E) (enc := spec_l01Gcd.enc) ⟨ttOk, conNil⟩ (Checked.mixed Try.checked) ⟨Try.func163, by kernel_rfl, by kernel_rfl, by kernel_rfl, by kernel_rfl, by decide, by kernel_rfl, by kernel_rfl⟩ (fun _ => rfl)
end Go.Proofs.Ytpppnoliogdkiaa.P
set_option linter.unusedVariables false
namespace Go.Proofs.Ytpppnoliogdkiaa.P
open Go Go.RowKit Go.Proofs.Ytpppnoliogdkiaa.D
noncomputable def spec_l02Is.E : Env := { tt := TT, con := [(125, spec_l01In.con), (163, spec_l01Gcd.con)], frz := [], rows := [], live := [(4, [2, 3, 5]), (9, [2, 3, 6]), (12, [2, 3, 6, 7])], n := 90, pin := 0, nils := [] }
noncomputable def spec_l02Is.fn : D.Fn := { body := Try.f117.body.getD .skip, res := Try.f117.results.toList, ins := [.agg [.v (.sl 25 (.sl 2 (.int .i64)))], .agg [.v (.int .i64), .v (.sl 2 (.int .i64))]], outs := [.one (.v .bool)] }
def spec_l02Is.enc (y : lsd (flats spec_l02Is.fn.outs) × lsd (ios spec_l02Is.fn.ins)) : Bool := y.1.1
noncomputable def spec_l02Is.f (l0_0 : List (List Int)) (a1_0 : Int) (l1_1 : List Int) : Option Bool := denF spec_l02Is.E spec_l02Is.fn spec_l02Is.enc (l0_0, a1_0, l1_1, ())
noncomputable def spec_l02Is.l0 (x5 : Int) (b0_0 : List (List Int)) (b1_0 : Int) (b1_1 : List Int) : Option Bool := denAt spec_l02Is.E spec_l02Is.fn spec_l02Is.enc [1, 1, 0, 1, 0] { fr := [(2, .lf (.box 0 0)), (3, .lf (.box 1 0)), (5, .lf (.int .i64 x5))], ob := [(0, .box 32 false [.sl (.sl 2 (.int .i64)) b0_0]), (1, .box 34 false [.int .i64 b1_0, .sl (.int .i64) b1_1])], nx := 2 }
noncomputable def spec_l02Is.l1 (x6 : Int) (b0_0 : List (List Int)) (b1_0 : Int) (b1_1 : List Int) : Option Bool := denAt spec_l02Is.E spec_l02Is.fn spec_l02Is.enc [1, 1, 1, 0, 1, 0] { fr := [(2, .lf (.box 0 0)), (3, .lf (.box 1 0)), (6, .lf (.int .i64 x6))], ob := [(0, .box 32 false [.sl (.sl 2 (.int .i64)) b0_0]), (1, .box 34 false [.int .i64 b1_0, .sl (.int .i64) b1_1])], nx := 2 }
noncomputable def spec_l02Is.l2 (x6 : Int) (x7 : Int) (b0_0 : List (List Int)) (b1_0 : Int) (b1_1 : List Int) : Option Bool := denAt spec_l02Is.E spec_l02Is.fn spec_l02Is.enc [1, 1, 1, 0, 1, 0, 0, 1, 0, 0, 1, 0] { fr := [(2, .lf (.box 0 0)), (3, .lf (.box 1 0)), (6, .lf (.int .i64 x6)), (7, .lf (.int .i64 x7))], ob := [(0, .box 32 false [.sl (.sl 2 (.int .i64)) b0_0]), (1, .box 34 false [.int .i64 b1_0, .sl (.int .i64) b1_1])], nx := 2 }
set_option maxRecDepth 100000 in
theorem spec_l02Is.f_eq (l0_0 : List (List Int)) (a1_0 : Int) (l1_1 : List Int) : spec_l02Is.f l0_0 a1_0 l1_1 = (spec_l01In.f a1_0 2 12).bind fun t10 => if t10 = true then (if (l1_1.length : Int) = (l0_0.length : Int) then (spec_l02Is.l0 0 l0_0 a1_0 l1_1) else (some false)) else (some false) := by kernel_rfl
set_option maxRecDepth 100000 in
theorem spec_l02Is.l0_eq (x5 : Int) (b0_0 : List (List Int)) (b1_0 : Int) (b1_1 : List Int) : spec_l02Is.l0 x5 b0_0 b1_0 b1_1 = if x5 < (b1_1.length : Int) then (if 0 ≤ x5 then (if x5 < (b1_1.length : Int) then ((spec_l01In.f (rd b1_1 x5) 1 (wrapI (b1_0 - 1))).bind fun t36 => if t36 = true then (if 0 ≤ x5 then (if x5 < (b1_1.length : Int) then ((spec_l01Gcd.f (rd b1_1 x5) b1_0).bind fun t46 => if t46 = 1 then (spec_l02Is.l0 (wrapI (x5 + 1)) b0_0 b1_0 b1_1) else (some false)) else none) else none) else (some false)) else none) else none) else (spec_l02Is.l1 0 b0_0 b1_0 b1_1) := (loop_unfold _ _ _ _).trans (by kernel_rfl)
set_option maxRecDepth 100000 in
theorem spec_l02Is.l1_eq (x6 : Int) (b0_0 : List (List Int)) (b1_0 : Int) (b1_1 : List Int) : spec_l02Is.l1 x6 b0_0 b1_0 b1_1 = if x6 < (b1_1.length : Int) then (spec_l02Is.l2 x6 0 b0_0 b1_0 b1_1) else (some true) := (loop_unfold _ _ _ _).trans (by kernel_rfl)
set_option maxRecDepth 100000 in
theorem spec_l02Is.l2_eq (x6 : Int) (x7 : Int) (b0_0 : List (List Int)) (b1_0 : Int) (b1_1 : List Int) : spec_l02Is.l2 x6 x7 b0_0 b1_0 b1_1 = if x7 < (b1_1.length : Int) then (if 0 ≤ x6 then (if x6 < (b0_0.length : Int) then (if 0 ≤ x7 then (if x7 < ((row b0_0 x6).length : Int) then (if 0 ≤ T b0_0 x6 x7 then (if T b0_0 x6 x7 < (b1_1.length : Int) then (if 0 ≤ x6 then (if x6 < (b1_1.length : Int) then (if 0 ≤ x7 then (if x7 < (b1_1.length : Int) then (if b1_0 = 0 then none else (if (rd b1_1 (T b0_0 x6 x7)) = ((wrapI ((rd b1_1 x6) * (rd b1_1 x7)) : Int).tmod b1_0) then (spec_l02Is.l2 x6 (wrapI (x7 + 1)) b0_0 b1_0 b1_1) else (some false))) else none) else none) else none) else none) else none) else none) else none) else none) else none) else none) else (spec_l02Is.l1 (wrapI (x6 + 1)) b0_0 b1_0 b1_1) := (loop_unfold _ _ _ _).trans (by kernel_rfl)
noncomputable def spec_l02Is.con : Con := ⟨spec_l02Is.fn.ins, spec_l02Is.fn.outs, Bool, fun x => spec_l02Is.f x.1 x.2.1 x.2.2.1, fun r => ((r, ()), (()))⟩
theorem spec_l02Is.valid : Valid Try.prog 117 spec_l02Is.con := fn_valid (f := spec_l02Is.fn) (E := spec_l02Is.E) (enc := spec_l02Is.enc) ⟨ttOk, (conCons spec_l01In.valid (conCons spec_l01Gcd.valid conNil))⟩ (Checked.mixed Try.checked) ⟨Try.func117, by kernel_rfl, by kernel_rfl, by kernel_rfl, by kernel_rfl, by decide, by kernel_rfl, by kernel_rfl⟩ (fun _ => rfl)
end Go.Proofs.Ytpppnoliogdkiaa.P
set_option linter.unusedVariables false
namespace Go.Proofs.Ytpppnoliogdkiaa.P
open Go Go.RowKit Go.Proofs.Ytpppnoliogdkiaa.D
noncomputable def spec_l01N.E : Env := { tt := TT, con := [], frz := [], rows := [], live := [], n := 6, pin := 0, nils := [] }
noncomputable def spec_l01N.fn : D.Fn := { body := Try.f131.body.getD .skip, res := Try.f131.results.toList, ins := [.agg [.v (.sl 25 (.sl 2 (.int .i64)))]], outs := [.one (.v (.int .i64))] }
def spec_l01N.enc (y : lsd (flats spec_l01N.fn.outs) × lsd (ios spec_l01N.fn.ins)) : Int := y.1.1
noncomputable def spec_l01N.f (l0_0 : List (List Int)) : Option Int := denF spec_l01N.E spec_l01N.fn spec_l01N.enc (l0_0, ())
set_option maxRecDepth 100000 in
theorem spec_l01N.f_eq (l0_0 : List (List Int)) : spec_l01N.f l0_0 = some (l0_0.length : Int) := by kernel_rfl
noncomputable def spec_l01N.con : Con := ⟨spec_l01N.fn.ins, spec_l01N.fn.outs, Int, fun x => spec_l01N.f x.1, fun r => ((r, ()), (()))⟩
theorem spec_l01N.valid : Valid Try.prog 131 spec_l01N.con := fn_valid (f := spec_l01N.fn) (E := spec_l01N.E) (enc := spec_l01N.enc) ⟨ttOk, conNil⟩ (Checked.mixed Try.checked) ⟨Try.func131, by kernel_rfl, by kernel_rfl, by kernel_rfl, by kernel_rfl, by decide, by kernel_rfl, by kernel_rfl⟩ (fun _ => rfl)
end Go.Proofs.Ytpppnoliogdkiaa.P
set_option linter.unusedVariables false
namespace Go.Proofs.Ytpppnoliogdkiaa.P
open Go Go.RowKit Go.Proofs.Ytpppnoliogdkiaa.D
noncomputable def spec_l03Cells.E : Env := { tt := TT, con := [(131, spec_l01N.con)], frz := [], rows := [], live := [(2, [1, 2, 5])], n := 16, pin := 0, nils := [] }
noncomputable def spec_l03Cells.fn : D.Fn := { body := Try.f126.body.getD .skip, res := Try.f126.results.toList, ins := [.agg [.v (.sl 25 (.sl 2 (.int .i64)))], .one (.v (.int .i64))], outs := [.one (.v (.int .i64))] }
def spec_l03Cells.enc (y : lsd (flats spec_l03Cells.fn.outs) × lsd (ios spec_l03Cells.fn.ins)) : Int := y.1.1
noncomputable def spec_l03Cells.f (l0_0 : List (List Int)) (a1 : Int) : Option Int := denF spec_l03Cells.E spec_l03Cells.fn spec_l03Cells.enc (l0_0, a1, ())
noncomputable def spec_l03Cells.l0 (x1 : Int) (x5 : Int) (b0_0 : List (List Int)) : Option Int := denAt spec_l03Cells.E spec_l03Cells.fn spec_l03Cells.enc [1, 1, 0, 0] { fr := [(1, .lf (.int .i64 x1)), (2, .lf (.box 0 0)), (5, .lf (.int .i64 x5))], ob := [(0, .box 32 false [.sl (.sl 2 (.int .i64)) b0_0])], nx := 1 }
set_option maxRecDepth 100000 in
theorem spec_l03Cells.f_eq (l0_0 : List (List Int)) (a1 : Int) : spec_l03Cells.f l0_0 a1 = spec_l03Cells.l0 a1 1 l0_0 := by kernel_rfl
set_option maxRecDepth 100000 in
theorem spec_l03Cells.l0_eq (x1 : Int) (x5 : Int) (b0_0 : List (List Int)) : spec_l03Cells.l0 x1 x5 b0_0 = if x1 > 0 then ((spec_l01N.f b0_0).bind fun t12 => spec_l03Cells.l0 (wrapI (x1 - 1)) (wrapI (x5 * (wrapI (t12 - 1)))) b0_0) else (some x5) := (loop_unfold _ _ _ _).trans (by kernel_rfl)
noncomputable def spec_l03Cells.con : Con := ⟨spec_l03Cells.fn.ins, spec_l03Cells.fn.outs, Int, fun x => spec_l03Cells.f x.1 x.2.1, fun r => ((r, ()), (()))⟩
theorem spec_l03Cells.valid : Valid Try.prog 126 spec_l03Cells.con := fn_valid (f := spec_l03Cells.fn) (E := spec_l03Cells.E) (enc := spec_l03Cells.enc) ⟨ttOk, (conCons spec_l01N.valid conNil)⟩ (Checked.mixed Try.checked) ⟨Try.func126, by kernel_rfl, by kernel_rfl, by kernel_rfl, by kernel_rfl, by decide, by kernel_rfl, by kernel_rfl⟩ (fun _ => rfl)
end Go.Proofs.Ytpppnoliogdkiaa.P
set_option linter.unusedVariables false
namespace Go.Proofs.Ytpppnoliogdkiaa.P
open Go Go.RowKit Go.Proofs.Ytpppnoliogdkiaa.D
noncomputable def spec_l04Code.E : Env := { tt := TT, con := [(116, spec_l01Is.con), (117, spec_l02Is.con), (125, spec_l01In.con), (126, spec_l03Cells.con)], frz := [], rows := [], live := [], n := 26, pin := 0, nils := [] }
noncomputable def spec_l04Code.fn : D.Fn := { body := Try.f71.body.getD .skip, res := Try.f71.results.toList, ins := [.agg [.v (.sl 25 (.sl 2 (.int .i64)))], .agg [.v (.int .i64), .v (.sl 2 (.int .i64))], .one (.v (.int .i64))], outs := [.one (.v (.int .i64))] }
def spec_l04Code.enc (y : lsd (flats spec_l04Code.fn.outs) × lsd (ios spec_l04Code.fn.ins)) : Int := y.1.1
noncomputable def spec_l04Code.f (l0_0 : List (List Int)) (a1_0 : Int) (l1_1 : List Int) (a2 : Int) : Option Int := denF spec_l04Code.E spec_l04Code.fn spec_l04Code.enc (l0_0, a1_0, l1_1, a2, ())
set_option maxRecDepth 100000 in
theorem spec_l04Code.f_eq (l0_0 : List (List Int)) (a1_0 : Int) (l1_1 : List Int) (a2 : Int) : spec_l04Code.f l0_0 a1_0 l1_1 a2 = (spec_l01Is.f l0_0).bind fun t9 => if t9 = true then ((spec_l02Is.f l0_0 a1_0 l1_1).bind fun t14 => if t14 = true then ((spec_l01In.f a2 0 3).bind fun t19 => if t19 = true then ((spec_l03Cells.f l0_0 a2).bind fun t24 => if t24 > 49 then (some 3) else (some 0)) else (some 2)) else (some 1)) else (some 1) := by kernel_rfl
noncomputable def spec_l04Code.con : Con := ⟨spec_l04Code.fn.ins, spec_l04Code.fn.outs, Int, fun x => spec_l04Code.f x.1 x.2.1 x.2.2.1 x.2.2.2.1, fun r => ((r, ()), (()))⟩
theorem spec_l04Code.valid : Valid Try.prog 71 spec_l04Code.con := fn_valid (f := spec_l04Code.fn) (E := spec_l04Code.E) (enc := spec_l04Code.enc) ⟨ttOk, (conCons spec_l01Is.valid (conCons spec_l02Is.valid (conCons spec_l01In.valid (conCons spec_l03Cells.valid conNil))))⟩ (Checked.mixed Try.checked) ⟨Try.func71, by kernel_rfl, by kernel_rfl, by kernel_rfl, by kernel_rfl, by decide, by kernel_rfl, by kernel_rfl⟩ (fun _ => rfl)
end Go.Proofs.Ytpppnoliogdkiaa.P
set_option linter.unusedVariables false
namespace Go.Proofs.Ytpppnoliogdkiaa.P
open Go Go.RowKit Go.Proofs.Ytpppnoliogdkiaa.D
noncomputable def spec_l03Is.E : Env := { tt := TT, con := [(125, spec_l01In.con), (126, spec_l03Cells.con)], frz := [], rows := [], live := [(4, [4, 5, 7])], n := 39, pin := 0, nils := [] }
noncomputable def spec_l03Is.fn : D.Fn := { body := Try.f160.body.getD .skip, res := Try.f160.results.toList, ins := [.agg [.v (.sl 25 (.sl 2 (.int .i64)))], .agg [.v (.int .i64), .v (.sl 2 (.int .i64))], .agg [.v (.int .i64), .v (.sl 2 (.int .i64))]], outs := [.one (.v .bool)] }
def spec_l03Is.enc (y : lsd (flats spec_l03Is.fn.outs) × lsd (ios spec_l03Is.fn.ins)) : Bool := y.1.1
noncomputable def spec_l03Is.f (l0_0 : List (List Int)) (a1_0 : Int) (l1_1 : List Int) (a2_0 : Int) (l2_1 : List Int) : Option Bool := denF spec_l03Is.E spec_l03Is.fn spec_l03Is.enc (l0_0, a1_0, l1_1, a2_0, l2_1, ())
noncomputable def spec_l03Is.l0 (x7 : Int) (b0_0 : Int) (b0_1 : List Int) (b1_0 : Int) (b1_1 : List Int) : Option Bool := denAt spec_l03Is.E spec_l03Is.fn spec_l03Is.enc [1, 1, 0, 1, 0] { fr := [(4, .lf (.box 0 0)), (5, .lf (.box 1 0)), (7, .lf (.int .i64 x7))], ob := [(0, .box 34 false [.int .i64 b0_0, .sl (.int .i64) b0_1]), (1, .box 48 false [.int .i64 b1_0, .sl (.int .i64) b1_1])], nx := 2 }
set_option maxRecDepth 100000 in
theorem spec_l03Is.f_eq (l0_0 : List (List Int)) (a1_0 : Int) (l1_1 : List Int) (a2_0 : Int) (l2_1 : List Int) : spec_l03Is.f l0_0 a1_0 l1_1 a2_0 l2_1 = (spec_l01In.f a2_0 0 3).bind fun t10 => if t10 = true then ((spec_l03Cells.f l0_0 a2_0).bind fun t19 => if (l2_1.length : Int) = t19 then (spec_l03Is.l0 0 a1_0 l1_1 a2_0 l2_1) else (some false)) else (some false) := by kernel_rfl
set_option maxRecDepth 100000 in
theorem spec_l03Is.l0_eq (x7 : Int) (b0_0 : Int) (b0_1 : List Int) (b1_0 : Int) (b1_1 : List Int) : spec_l03Is.l0 x7 b0_0 b0_1 b1_0 b1_1 = if x7 < (b1_1.length : Int) then (if 0 ≤ x7 then (if x7 < (b1_1.length : Int) then ((spec_l01In.f (rd b1_1 x7) 0 (wrapI (b0_0 - 1))).bind fun t37 => if t37 = true then (spec_l03Is.l0 (wrapI (x7 + 1)) b0_0 b0_1 b1_0 b1_1) else (some false)) else none) else none) else (some true) := (loop_unfold _ _ _ _).trans (by kernel_rfl)
noncomputable def spec_l03Is.con : Con := ⟨spec_l03Is.fn.ins, spec_l03Is.fn.outs, Bool, fun x => spec_l03Is.f x.1 x.2.1 x.2.2.1 x.2.2.2.1 x.2.2.2.2.1, fun r => ((r, ()), (()))⟩
theorem spec_l03Is.valid : Valid Try.prog 160 spec_l03Is.con := fn_valid (f := spec_l03Is.fn) (E := spec_l03Is.E) (enc := spec_l03Is.enc) ⟨ttOk, (conCons spec_l01In.valid (conCons spec_l03Cells.valid conNil))⟩ (Checked.mixed Try.checked) ⟨Try.func160, by kernel_rfl, by kernel_rfl, by kernel_rfl, by kernel_rfl, by decide, by kernel_rfl, by kernel_rfl⟩ (fun _ => rfl)
end Go.Proofs.Ytpppnoliogdkiaa.P
set_option linter.unusedVariables false
namespace Go.Proofs.Ytpppnoliogdkiaa.P
open Go Go.RowKit Go.Proofs.Ytpppnoliogdkiaa.D
noncomputable def spec_l03Code.E : Env := { tt := TT, con := [(116, spec_l01Is.con), (117, spec_l02Is.con), (160, spec_l03Is.con)], frz := [], rows := [], live := [(4, [2, 3, 4, 7])], n := 31, pin := 0, nils := [] }
noncomputable def spec_l03Code.fn : D.Fn := { body := Try.f113.body.getD .skip, res := Try.f113.results.toList, ins := [.agg [.v (.sl 25 (.sl 2 (.int .i64)))], .agg [.v (.int .i64), .v (.sl 2 (.int .i64))], .one (.v (.sl 48 (.pr (.int .i64) (.sl 2 (.int .i64)))))], outs := [.one (.v (.int .i64))] }
def spec_l03Code.enc (y : lsd (flats spec_l03Code.fn.outs) × lsd (ios spec_l03Code.fn.ins)) : Int := y.1.1
noncomputable def spec_l03Code.f (l0_0 : List (List Int)) (a1_0 : Int) (l1_1 : List Int) (l2 : List (Int × (List Int))) : Option Int := denF spec_l03Code.E spec_l03Code.fn spec_l03Code.enc (l0_0, a1_0, l1_1, l2, ())
noncomputable def spec_l03Code.l0 (x2 : List (Int × (List Int))) (x7 : Int) (b0_0 : List (List Int)) (b1_0 : Int) (b1_1 : List Int) : Option Int := denAt spec_l03Code.E spec_l03Code.fn spec_l03Code.enc [1, 1, 0, 1, 0] { fr := [(2, .lf (.sl (.pr (.int .i64) (.sl 2 (.int .i64))) x2)), (3, .lf (.box 0 0)), (4, .lf (.box 1 0)), (7, .lf (.int .i64 x7))], ob := [(0, .box 32 false [.sl (.sl 2 (.int .i64)) b0_0]), (1, .box 34 false [.int .i64 b1_0, .sl (.int .i64) b1_1])], nx := 2 }
set_option maxRecDepth 100000 in
theorem spec_l03Code.f_eq (l0_0 : List (List Int)) (a1_0 : Int) (l1_1 : List Int) (l2 : List (Int × (List Int))) : spec_l03Code.f l0_0 a1_0 l1_1 l2 = (spec_l01Is.f l0_0).bind fun t9 => if t9 = true then ((spec_l02Is.f l0_0 a1_0 l1_1).bind fun t14 => if t14 = true then (spec_l03Code.l0 l2 0 l0_0 a1_0 l1_1) else (some 1)) else (some 1) := by kernel_rfl
set_option maxRecDepth 100000 in
theorem spec_l03Code.l0_eq (x2 : List (Int × (List Int))) (x7 : Int) (b0_0 : List (List Int)) (b1_0 : Int) (b1_1 : List Int) : spec_l03Code.l0 x2 x7 b0_0 b1_0 b1_1 = if x7 < (x2.length : Int) then (if 0 ≤ x7 then (if x7 < (x2.length : Int) then ((spec_l03Is.f b0_0 b1_0 b1_1 ((Ty.rd (.pr (.int .i64) (.sl 2 (.int .i64))) x2 x7).1) ((Ty.rd (.pr (.int .i64) (.sl 2 (.int .i64))) x2 x7).2)).bind fun t29 => if t29 = true then (spec_l03Code.l0 x2 (wrapI (x7 + 1)) b0_0 b1_0 b1_1) else (some 1)) else none) else none) else (some 0) := (loop_unfold _ _ _ _).trans (by kernel_rfl)
noncomputable def spec_l03Code.con : Con := ⟨spec_l03Code.fn.ins, spec_l03Code.fn.outs, Int, fun x => spec_l03Code.f x.1 x.2.1 x.2.2.1 x.2.2.2.1, fun r => ((r, ()), (()))⟩
theorem spec_l03Code.valid : Valid Try.prog 113 spec_l03Code.con := fn_valid (f := spec_l03Code.fn) (E := spec_l03Code.E) (enc := spec_l03Code.enc) ⟨ttOk, (conCons spec_l01Is.valid (conCons spec_l02Is.valid (conCons spec_l03Is.valid conNil)))⟩ (Checked.mixed Try.checked) ⟨Try.func113, by kernel_rfl, by kernel_rfl, by kernel_rfl, by kernel_rfl, by decide, by kernel_rfl, by kernel_rfl⟩ (fun _ => rfl)
end Go.Proofs.Ytpppnoliogdkiaa.P
set_option linter.unusedVariables false
namespace Go.Proofs.Ytpppnoliogdkiaa.P
open Go Go.RowKit Go.Proofs.Ytpppnoliogdkiaa.D
noncomputable def spec_l01Own.E : Env := { tt := TT, con := [], frz := [], rows := [], live := [], n := 6, pin := 0, nils := [] }
noncomputable def spec_l01Own.fn : D.Fn := { body := Try.f96.body.getD .skip, res := Try.f96.results.toList, ins := [.one (.v (.sl 2 (.int .i64)))], outs := [.one (.own 2 true (.int .i64))] }
def spec_l01Own.enc (y : lsd (flats spec_l01Own.fn.outs) × lsd (ios spec_l01Own.fn.ins)) : (List Int) := y.1.1
noncomputable def spec_l01Own.f (l0 : List Int) : Option (List Int) := denF spec_l01Own.E spec_l01Own.fn spec_l01Own.enc (l0, ())
set_option maxRecDepth 100000 in
theorem spec_l01Own.f_eq (l0 : List Int) : spec_l01Own.f l0 = if ([] : List Int).length + l0.length ≤ 17592186044416 then (some (([] : List Int) ++ l0)) else none := by kernel_rfl
noncomputable def spec_l01Own.con : Con := ⟨spec_l01Own.fn.ins, spec_l01Own.fn.outs, (List Int), fun x => spec_l01Own.f x.1, fun r => ((r, ()), (()))⟩
theorem spec_l01Own.valid : Valid Try.prog 96 spec_l01Own.con := fn_valid (f := spec_l01Own.fn) (E := spec_l01Own.E) (enc := spec_l01Own.enc) ⟨ttOk, conNil⟩ (Checked.mixed Try.checked) ⟨Try.func96, by kernel_rfl, by kernel_rfl, by kernel_rfl, by kernel_rfl, by decide, by kernel_rfl, by kernel_rfl⟩ (fun _ => rfl)
end Go.Proofs.Ytpppnoliogdkiaa.P
set_option linter.unusedVariables false
namespace Go.Proofs.Ytpppnoliogdkiaa.P
open Go Go.RowKit Go.Proofs.Ytpppnoliogdkiaa.D
noncomputable def spec_l01Mod.E : Env := { tt := TT, con := [], frz := [], rows := [], live := [], n := 12, pin := 0, nils := [] }
noncomputable def spec_l01Mod.fn : D.Fn := { body := Try.f97.body.getD .skip, res := Try.f97.results.toList, ins := [.one (.v (.int .i64)), .one (.v (.int .i64))], outs := [.one (.v (.int .i64))] }
def spec_l01Mod.enc (y : lsd (flats spec_l01Mod.fn.outs) × lsd (ios spec_l01Mod.fn.ins)) : Int := y.1.1
noncomputable def spec_l01Mod.f (a0 : Int) (a1 : Int) : Option Int := denF spec_l01Mod.E spec_l01Mod.fn spec_l01Mod.enc (a0, a1, ())
set_option maxRecDepth 100000 in
theorem spec_l01Mod.f_eq (a0 : Int) (a1 : Int) : spec_l01Mod.f a0 a1 = if a1 = 0 then none else (if a1 = 0 then none else (some ((wrapI (((a0 : Int).tmod a1) + a1) : Int).tmod a1))) := by kernel_rfl
noncomputable def spec_l01Mod.con : Con := ⟨spec_l01Mod.fn.ins, spec_l01Mod.fn.outs, Int, fun x => spec_l01Mod.f x.1 x.2.1, fun r => ((r, ()), (()))⟩
theorem spec_l01Mod.valid : Valid Try.prog 97 spec_l01Mod.con := fn_valid (f := spec_l01Mod.fn) (E := spec_l01Mod.E) (enc := spec_l01Mod.enc) ⟨ttOk, conNil⟩ (Checked.mixed Try.checked) ⟨Try.func97, by kernel_rfl, by kernel_rfl, by kernel_rfl, by kernel_rfl, by decide, by kernel_rfl, by kernel_rfl⟩ (fun _ => rfl)
end Go.Proofs.Ytpppnoliogdkiaa.P
set_option linter.unusedVariables false
namespace Go.Proofs.Ytpppnoliogdkiaa.P
open Go Go.RowKit Go.Proofs.Ytpppnoliogdkiaa.D
noncomputable def spec_l03At.E : Env := { tt := TT, con := [(131, spec_l01N.con)], frz := [], rows := [], live := [(3, [2, 3, 4, 7, 8])], n := 36, pin := 0, nils := [] }
noncomputable def spec_l03At.fn : D.Fn := { body := Try.f133.body.getD .skip, res := Try.f133.results.toList, ins := [.agg [.v (.sl 25 (.sl 2 (.int .i64)))], .agg [.v (.int .i64), .v (.sl 2 (.int .i64))], .one (.v (.sl 2 (.int .i64)))], outs := [.one (.v (.int .i64))] }
def spec_l03At.enc (y : lsd (flats spec_l03At.fn.outs) × lsd (ios spec_l03At.fn.ins)) : Int := y.1.1
noncomputable def spec_l03At.f (l0_0 : List (List Int)) (a1_0 : Int) (l1_1 : List Int) (l2 : List Int) : Option Int := denF spec_l03At.E spec_l03At.fn spec_l03At.enc (l0_0, a1_0, l1_1, l2, ())
noncomputable def spec_l03At.l0 (x2 : List Int) (x7 : Int) (x8 : Int) (b0_0 : List (List Int)) (b1_0 : Int) (b1_1 : List Int) : Option Int := denAt spec_l03At.E spec_l03At.fn spec_l03At.enc [1, 1, 0, 1, 0] { fr := [(2, .lf (.sl (.int .i64) x2)), (3, .lf (.box 0 0)), (4, .lf (.box 1 0)), (7, .lf (.int .i64 x7)), (8, .lf (.int .i64 x8))], ob := [(0, .box 32 false [.sl (.sl 2 (.int .i64)) b0_0]), (1, .box 48 false [.int .i64 b1_0, .sl (.int .i64) b1_1])], nx := 2 }
set_option maxRecDepth 100000 in
theorem spec_l03At.f_eq (l0_0 : List (List Int)) (a1_0 : Int) (l1_1 : List Int) (l2 : List Int) : spec_l03At.f l0_0 a1_0 l1_1 l2 = spec_l03At.l0 l2 0 0 l0_0 a1_0 l1_1 := by kernel_rfl
set_option maxRecDepth 100000 in
theorem spec_l03At.l0_eq (x2 : List Int) (x7 : Int) (x8 : Int) (b0_0 : List (List Int)) (b1_0 : Int) (b1_1 : List Int) : spec_l03At.l0 x2 x7 x8 b0_0 b1_0 b1_1 = if x8 < (x2.length : Int) then (if 0 ≤ x8 then (if x8 < (x2.length : Int) then (if (rd x2 x8) = 0 then (some 0) else ((spec_l01N.f b0_0).bind fun t22 => if 0 ≤ x8 then (if x8 < (x2.length : Int) then (spec_l03At.l0 x2 (wrapI ((wrapI ((wrapI (x7 * (wrapI (t22 - 1)))) + (rd x2 x8))) - 1)) (wrapI (x8 + 1)) b0_0 b1_0 b1_1) else none) else none)) else none) else none) else (if 0 ≤ x7 then (if x7 < (b1_1.length : Int) then (some (rd b1_1 x7)) else none) else none) := (loop_unfold _ _ _ _).trans (by kernel_rfl)
noncomputable def spec_l03At.con : Con := ⟨spec_l03At.fn.ins, spec_l03At.fn.outs, Int, fun x => spec_l03At.f x.1 x.2.1 x.2.2.1 x.2.2.2.1, fun r => ((r, ()), (()))⟩
theorem spec_l03At.valid : Valid Try.prog 133 spec_l03At.con := fn_valid (f := spec_l03At.fn) (E := spec_l03At.E) (enc := spec_l03At.enc) ⟨ttOk, (conCons spec_l01N.valid conNil)⟩ (Checked.mixed Try.checked) ⟨Try.func133, by kernel_rfl, by kernel_rfl, by kernel_rfl, by kernel_rfl, by decide, by kernel_rfl, by kernel_rfl⟩ (fun _ => rfl)
end Go.Proofs.Ytpppnoliogdkiaa.P
set_option linter.unusedVariables false
namespace Go.Proofs.Ytpppnoliogdkiaa.P
open Go Go.RowKit Go.Proofs.Ytpppnoliogdkiaa.D
noncomputable def spec_l03Side.E : Env := { tt := TT, con := [(133, spec_l03At.con), (96, spec_l01Own.con), (97, spec_l01Mod.con)], frz := [], rows := [], live := [(4, [3, 4, 5, 6, 9, 10, 11, 12])], n := 85, pin := 0, nils := [] }
noncomputable def spec_l03Side.fn : D.Fn := { body := Try.f161.body.getD .skip, res := Try.f161.results.toList, ins := [.agg [.v (.sl 25 (.sl 2 (.int .i64)))], .agg [.v (.int .i64), .v (.sl 2 (.int .i64))], .agg [.v (.int .i64), .v (.sl 2 (.int .i64))], .one (.v (.sl 2 (.int .i64)))], outs := [.one (.v (.int .i64))] }
def spec_l03Side.enc (y : lsd (flats spec_l03Side.fn.outs) × lsd (ios spec_l03Side.fn.ins)) : Int := y.1.1
noncomputable def spec_l03Side.f (l0_0 : List (List Int)) (a1_0 : Int) (l1_1 : List Int) (a2_0 : Int) (l2_1 : List Int) (l3 : List Int) : Option Int := denF spec_l03Side.E spec_l03Side.fn spec_l03Side.enc (l0_0, a1_0, l1_1, a2_0, l2_1, l3, ())
noncomputable def spec_l03Side.l0 (x3 : List Int) (x9 : Int) (x10 : Int) (x11 : Int) (x12 : Int) (b0_0 : List (List Int)) (b1_0 : Int) (b1_1 : List Int) (b2_0 : Int) (b2_1 : List Int) : Option Int := denAt spec_l03Side.E spec_l03Side.fn spec_l03Side.enc [1, 1, 1, 0, 1, 0] { fr := [(3, .lf (.sl (.int .i64) x3)), (4, .lf (.box 0 0)), (5, .lf (.box 1 0)), (6, .lf (.box 2 0)), (9, .lf (.int .i64 x9)), (10, .lf (.int .i64 x10)), (11, .lf (.int .i64 x11)), (12, .lf (.int .i64 x12))], ob := [(0, .box 32 false [.sl (.sl 2 (.int .i64)) b0_0]), (1, .box 34 false [.int .i64 b1_0, .sl (.int .i64) b1_1]), (2, .box 48 false [.int .i64 b2_0, .sl (.int .i64) b2_1])], nx := 3 }
set_option maxRecDepth 100000 in
theorem spec_l03Side.f_eq (l0_0 : List (List Int)) (a1_0 : Int) (l1_1 : List Int) (a2_0 : Int) (l2_1 : List Int) (l3 : List Int) : spec_l03Side.f l0_0 a1_0 l1_1 a2_0 l2_1 l3 = if 0 < (l3.length : Int) then (if 0 ≤ rd l3 0 then (if rd l3 0 < (l1_1.length : Int) then (if 1 ≤ (l3.length : Int) then ((spec_l03At.f l0_0 a2_0 l2_1 (l3.drop (1 : Int).toNat)).bind fun t28 => spec_l03Side.l0 l3 (wrapI ((l3.length : Int) - 1)) (wrapI ((rd l1_1 (rd l3 0)) * t28)) (-1) 0 l0_0 a1_0 l1_1 a2_0 l2_1) else none) else none) else none) else none := by kernel_rfl
set_option maxRecDepth 100000 in
theorem spec_l03Side.l0_eq (x3 : List Int) (x9 : Int) (x10 : Int) (x11 : Int) (x12 : Int) (b0_0 : List (List Int)) (b1_0 : Int) (b1_1 : List Int) (b2_0 : Int) (b2_1 : List Int) : spec_l03Side.l0 x3 x9 x10 x11 x12 b0_0 b1_0 b1_1 b2_0 b2_1 = if x12 < x9 then (if 0 ≤ x12 then (if x12 ≤ (x3.length : Int) then ((spec_l01Own.f (x3.take (x12 : Int).toNat)).bind fun t38 => if 0 ≤ x12 then (if x12 < (x3.length : Int) then (if 0 ≤ rd x3 x12 then (if rd x3 x12 < (b0_0.length : Int) then (if 0 ≤ wrapI (x12 + 1) then (if wrapI (x12 + 1) < (x3.length : Int) then (if 0 ≤ rd x3 (wrapI (x12 + 1)) then (if rd x3 (wrapI (x12 + 1)) < ((row b0_0 (rd x3 x12)).length : Int) then (if t38.length + ([T b0_0 (rd x3 x12) (rd x3 (wrapI (x12 + 1)))] : List Int).length ≤ 17592186044416 then (if 0 ≤ wrapI (x12 + 2) then (if wrapI (x12 + 2) ≤ (x3.length : Int) then (if (t38 ++ ([T b0_0 (rd x3 x12) (rd x3 (wrapI (x12 + 1)))] : List Int)).length + (x3.drop (wrapI (x12 + 2) : Int).toNat).length ≤ 17592186044416 then ((spec_l03At.f b0_0 b2_0 b2_1 ((t38 ++ ([T b0_0 (rd x3 x12) (rd x3 (wrapI (x12 + 1)))] : List Int)) ++ (x3.drop (wrapI (x12 + 2) : Int).toNat))).bind fun t67 => spec_l03Side.l0 x3 x9 (wrapI (x10 + (wrapI (x11 * t67)))) (wrapI (0 - x11)) (wrapI (x12 + 1)) b0_0 b1_0 b1_1 b2_0 b2_1) else none) else none) else none) else none) else none) else none) else none) else none) else none) else none) else none) else none) else none) else none) else (if 0 ≤ x9 then (if x9 ≤ (x3.length : Int) then ((spec_l03At.f b0_0 b2_0 b2_1 (x3.take (x9 : Int).toNat)).bind fun t79 => (spec_l01Mod.f (wrapI (x10 + (wrapI (x11 * t79)))) b1_0).bind fun t84 => some t84) else none) else none) := (loop_unfold _ _ _ _).trans (by kernel_rfl)
noncomputable def spec_l03Side.con : Con := ⟨spec_l03Side.fn.ins, spec_l03Side.fn.outs, Int, fun x => spec_l03Side.f x.1 x.2.1 x.2.2.1 x.2.2.2.1 x.2.2.2.2.1 x.2.2.2.2.2.1, fun r => ((r, ()), (()))⟩
theorem spec_l03Side.valid : Valid Try.prog 161 spec_l03Side.con := fn_valid (f := spec_l03Side.fn) (E := spec_l03Side.E) (enc := spec_l03Side.enc) ⟨ttOk, (conCons spec_l03At.valid (conCons spec_l01Own.valid (conCons spec_l01Mod.valid conNil)))⟩ (Checked.mixed Try.checked) ⟨Try.func161, by kernel_rfl, by kernel_rfl, by kernel_rfl, by kernel_rfl, by decide, by kernel_rfl, by kernel_rfl⟩ (fun _ => rfl)
end Go.Proofs.Ytpppnoliogdkiaa.P
set_option linter.unusedVariables false
namespace Go.Proofs.Ytpppnoliogdkiaa.P
open Go Go.RowKit Go.Proofs.Ytpppnoliogdkiaa.D
noncomputable def spec_l03List.E : Env := { tt := TT, con := [(131, spec_l01N.con)], frz := [], rows := [], live := [(3, [2, 7, 8, 9])], n := 32, pin := 0, nils := [] }
noncomputable def spec_l03List.fn : D.Fn := { body := Try.f162.body.getD .skip, res := Try.f162.results.toList, ins := [.agg [.v (.sl 25 (.sl 2 (.int .i64)))], .one (.v (.int .i64)), .one (.v (.int .i64))], outs := [.one (.own 2 true (.int .i64))] }
def spec_l03List.enc (y : lsd (flats spec_l03List.fn.outs) × lsd (ios spec_l03List.fn.ins)) : (List Int) := y.1.1
noncomputable def spec_l03List.f (l0_0 : List (List Int)) (a1 : Int) (a2 : Int) : Option (List Int) := denF spec_l03List.E spec_l03List.fn spec_l03List.enc (l0_0, a1, a2, ())
noncomputable def spec_l03List.l0 (x2 : Int) (x8 : Int) (x9 : Int) (r0 : List Int) : Option (List Int) := denAt spec_l03List.E spec_l03List.fn spec_l03List.enc [1, 1, 0, 1, 0] { fr := [(2, .lf (.int .i64 x2)), (7, .lf (.own 0)), (8, .lf (.int .i64 x8)), (9, .lf (.int .i64 x9))], ob := [(0, .row 2 true (.int .i64) r0)], nx := 1 }
set_option maxRecDepth 100000 in
theorem spec_l03List.f_eq (l0_0 : List (List Int)) (a1 : Int) (a2 : Int) : spec_l03List.f l0_0 a1 a2 = if a1 = a1 then (if 0 ≤ a1 then (if (a1 : Int).toNat ≤ 17592186044416 then ((spec_l01N.f l0_0).bind fun t13 => spec_l03List.l0 a2 (wrapI (t13 - 1)) (wrapI (a1 - 1)) (List.replicate (a1 : Int).toNat (0 : Int))) else none) else none) else none := by kernel_rfl
set_option maxRecDepth 100000 in
theorem spec_l03List.l0_eq (x2 : Int) (x8 : Int) (x9 : Int) (r0 : List Int) : spec_l03List.l0 x2 x8 x9 r0 = if x9 ≥ 0 then (if x8 = 0 then none else (if 0 ≤ x9 then (if x9 < (r0.length : Int) then (if 0 ≤ x9 then (if x9 < (r0.length : Int) then (if x8 = 0 then none else (spec_l03List.l0 (wrapI ((x2 : Int).tdiv x8)) x8 (wrapI (x9 - 1)) (r0.set (x9 : Int).toNat (wrapI (((x2 : Int).tmod x8) + 1))))) else none) else none) else none) else none)) else (some r0) := (loop_unfold _ _ _ _).trans (by kernel_rfl)
noncomputable def spec_l03List.con : Con := ⟨spec_l03List.fn.ins, spec_l03List.fn.outs, (List Int), fun x => spec_l03List.f x.1 x.2.1 x.2.2.1, fun r => ((r, ()), (()))⟩
theorem spec_l03List.valid : Valid Try.prog 162 spec_l03List.con := fn_valid (f := spec_l03List.fn) (E := spec_l03List.E) (enc := spec_l03List.enc) ⟨ttOk, (conCons spec_l01N.valid conNil)⟩ (Checked.mixed Try.checked) ⟨Try.func162, by kernel_rfl, by kernel_rfl, by kernel_rfl, by kernel_rfl, by decide, by kernel_rfl, by kernel_rfl⟩ (fun _ => rfl)
end Go.Proofs.Ytpppnoliogdkiaa.P
set_option linter.unusedVariables false
namespace Go.Proofs.Ytpppnoliogdkiaa.P
open Go Go.RowKit Go.Proofs.Ytpppnoliogdkiaa.D
noncomputable def spec_l03Cocycle.E : Env := { tt := TT, con := [(126, spec_l03Cells.con), (162, spec_l03List.con), (161, spec_l03Side.con)], frz := [], rows := [], live := [(2, [3, 4, 5, 7])], n := 28, pin := 0, nils := [] }
noncomputable def spec_l03Cocycle.fn : D.Fn := { body := Try.f132.body.getD .skip, res := Try.f132.results.toList, ins := [.agg [.v (.sl 25 (.sl 2 (.int .i64)))], .agg [.v (.int .i64), .v (.sl 2 (.int .i64))], .agg [.v (.int .i64), .v (.sl 2 (.int .i64))]], outs := [.one (.v .bool)] }
def spec_l03Cocycle.enc (y : lsd (flats spec_l03Cocycle.fn.outs) × lsd (ios spec_l03Cocycle.fn.ins)) : Bool := y.1.1
noncomputable def spec_l03Cocycle.f (l0_0 : List (List Int)) (a1_0 : Int) (l1_1 : List Int) (a2_0 : Int) (l2_1 : List Int) : Option Bool := denF spec_l03Cocycle.E spec_l03Cocycle.fn spec_l03Cocycle.enc (l0_0, a1_0, l1_1, a2_0, l2_1, ())
noncomputable def spec_l03Cocycle.con : Con := ⟨spec_l03Cocycle.fn.ins, spec_l03Cocycle.fn.outs, Bool, fun x => spec_l03Cocycle.f x.1 x.2.1 x.2.2.1 x.2.2.2.1 x.2.2.2.2.1, fun r => ((r, ()), (()))⟩
theorem spec_l03Cocycle.valid : Valid Try.prog 132 spec_l03Cocycle.con := fn_valid (f := spec_l03Cocycle.fn) (E := spec_l03Cocycle.E) (enc := spec_l03Cocycle.enc) ⟨ttOk, (conCons spec_l03Cells.valid (conCons spec_l03List.valid (conCons spec_l03Side.valid conNil)))⟩ (Checked.mixed Try.checked) ⟨Try.func132, by kernel_rfl, by kernel_rfl, by kernel_rfl, by kernel_rfl, by decide, by kernel_rfl, by kernel_rfl⟩ (fun _ => rfl)
end Go.Proofs.Ytpppnoliogdkiaa.P
set_option linter.unusedVariables false
namespace Go.Proofs.Ytpppnoliogdkiaa.P
open Go Go.RowKit Go.Proofs.Ytpppnoliogdkiaa.D
noncomputable def spec_l04Given.E : Env := { tt := TT, con := [(113, spec_l03Code.con), (71, spec_l04Code.con), (132, spec_l03Cocycle.con)], frz := [], rows := [], live := [(5, [2, 3, 4, 5, 10]), (13, [2, 3, 4, 5, 12])], n := 63, pin := 0, nils := [] }
noncomputable def spec_l04Given.fn : D.Fn := { body := Try.f84.body.getD .skip, res := Try.f84.results.toList, ins := [.agg [.v (.sl 25 (.sl 2 (.int .i64)))], .agg [.v (.int .i64), .v (.sl 2 (.int .i64))], .one (.v .bool), .one (.v (.sl 48 (.pr (.int .i64) (.sl 2 (.int .i64)))))], outs := [.one (.v (.int .i64))] }
def spec_l04Given.enc (y : lsd (flats spec_l04Given.fn.outs) × lsd (ios spec_l04Given.fn.ins)) : Int := y.1.1
noncomputable def spec_l04Given.f (l0_0 : List (List Int)) (a1_0 : Int) (l1_1 : List Int) (a2 : Bool) (l3 : List (Int × (List Int))) : Option Int := denF spec_l04Given.E spec_l04Given.fn spec_l04Given.enc (l0_0, a1_0, l1_1, a2, l3, ())
noncomputable def spec_l04Given.l0 (x2 : Bool) (x3 : List (Int × (List Int))) (x10 : Int) (b0_0 : List (List Int)) (b1_0 : Int) (b1_1 : List Int) : Option Int := denAt spec_l04Given.E spec_l04Given.fn spec_l04Given.enc [1, 1, 0, 1, 0] { fr := [(2, .lf (boolLf x2)), (3, .lf (.sl (.pr (.int .i64) (.sl 2 (.int .i64))) x3)), (4, .lf (.box 0 0)), (5, .lf (.box 1 0)), (10, .lf (.int .i64 x10))], ob := [(0, .box 32 false [.sl (.sl 2 (.int .i64)) b0_0]), (1, .box 34 false [.int .i64 b1_0, .sl (.int .i64) b1_1])], nx := 2 }
noncomputable def spec_l04Given.l1 (x2 : Bool) (x3 : List (Int × (List Int))) (x12 : Int) (b0_0 : List (List Int)) (b1_0 : Int) (b1_1 : List Int) : Option Int := denAt spec_l04Given.E spec_l04Given.fn spec_l04Given.enc [1, 1, 1, 1, 0, 1, 0] { fr := [(2, .lf (boolLf x2)), (3, .lf (.sl (.pr (.int .i64) (.sl 2 (.int .i64))) x3)), (4, .lf (.box 0 0)), (5, .lf (.box 1 0)), (12, .lf (.int .i64 x12))], ob := [(0, .box 32 false [.sl (.sl 2 (.int .i64)) b0_0]), (1, .box 34 false [.int .i64 b1_0, .sl (.int .i64) b1_1])], nx := 2 }
set_option maxRecDepth 100000 in
theorem spec_l04Given.f_eq (l0_0 : List (List Int)) (a1_0 : Int) (l1_1 : List Int) (a2 : Bool) (l3 : List (Int × (List Int))) : spec_l04Given.f l0_0 a1_0 l1_1 a2 l3 = (spec_l03Code.f l0_0 a1_0 l1_1 l3).bind fun t16 => if t16 = 0 then (spec_l04Given.l0 a2 l3 1 l0_0 a1_0 l1_1) else (some t16) := by kernel_rfl
set_option maxRecDepth 100000 in
theorem spec_l04Given.l0_eq (x2 : Bool) (x3 : List (Int × (List Int))) (x10 : Int) (b0_0 : List (List Int)) (b1_0 : Int) (b1_1 : List Int) : spec_l04Given.l0 x2 x3 x10 b0_0 b1_0 b1_1 = if x10 < (x3.length : Int) then (if 0 ≤ x10 then (if x10 < (x3.length : Int) then (if 0 < (x3.length : Int) then (if ((Ty.rd (.pr (.int .i64) (.sl 2 (.int .i64))) x3 x10).1) = ((Ty.rd (.pr (.int .i64) (.sl 2 (.int .i64))) x3 0).1) then (spec_l04Given.l0 x2 x3 (wrapI (x10 + 1)) b0_0 b1_0 b1_1) else (some 2)) else none) else none) else none) else (if 0 < (x3.length : Int) then ((spec_l04Code.f b0_0 b1_0 b1_1 ((Ty.rd (.pr (.int .i64) (.sl 2 (.int .i64))) x3 0).1)).bind fun t42 => if t42 = 0 then (spec_l04Given.l1 x2 x3 0 b0_0 b1_0 b1_1) else (some t42)) else none) := (loop_unfold _ _ _ _).trans (by kernel_rfl)
set_option maxRecDepth 100000 in
theorem spec_l04Given.l1_eq (x2 : Bool) (x3 : List (Int × (List Int))) (x12 : Int) (b0_0 : List (List Int)) (b1_0 : Int) (b1_1 : List Int) : spec_l04Given.l1 x2 x3 x12 b0_0 b1_0 b1_1 = if x12 < (x3.length : Int) then (if x2 = true then (if 0 ≤ x12 then (if x12 < (x3.length : Int) then ((spec_l03Cocycle.f b0_0 b1_0 b1_1 ((Ty.rd (.pr (.int .i64) (.sl 2 (.int .i64))) x3 x12).1) ((Ty.rd (.pr (.int .i64) (.sl 2 (.int .i64))) x3 x12).2)).bind fun t61 => if t61 = true then (spec_l04Given.l1 x2 x3 (wrapI (x12 + 1)) b0_0 b1_0 b1_1) else (some 5)) else none) else none) else (some 0)) else (some 0) := (loop_unfold _ _ _ _).trans (by kernel_rfl)
noncomputable def spec_l04Given.con : Con := ⟨spec_l04Given.fn.ins, spec_l04Given.fn.outs, Int, fun x => spec_l04Given.f x.1 x.2.1 x.2.2.1 x.2.2.2.1 x.2.2.2.2.1, fun r => ((r, ()), (()))⟩
theorem spec_l04Given.valid : Valid Try.prog 84 spec_l04Given.con := fn_valid (f := spec_l04Given.fn) (E := spec_l04Given.E) (enc := spec_l04Given.enc) ⟨ttOk, (conCons spec_l03Code.valid (conCons spec_l04Code.valid (conCons spec_l03Cocycle.valid conNil)))⟩ (Checked.mixed Try.checked) ⟨Try.func84, by kernel_rfl, by kernel_rfl, by kernel_rfl, by kernel_rfl, by decide, by kernel_rfl, by kernel_rfl⟩ (fun _ => rfl)
end Go.Proofs.Ytpppnoliogdkiaa.P
set_option linter.unusedVariables false
namespace Go.Proofs.Ytpppnoliogdkiaa.P
open Go Go.RowKit Go.Proofs.Ytpppnoliogdkiaa.D
noncomputable def spec_l04Mix.E : Env := { tt := TT, con := [(97, spec_l01Mod.con)], frz := [], rows := [], live := [(3, [0, 1, 2, 3, 4, 11, 12])], n := 41, pin := 0, nils := [] }
noncomputable def spec_l04Mix.fn : D.Fn := { body := Try.f89.body.getD .skip, res := Try.f89.results.toList, ins := [.one (.v (.sl 2 (.int .i64))), .one (.v (.sl 2 (.int .i64))), .one (.v (.int .i64)), .one (.v (.int .i64)), .one (.v (.int .i64))], outs := [.one (.own 2 true (.int .i64))] }
def spec_l04Mix.enc (y : lsd (flats spec_l04Mix.fn.outs) × lsd (ios spec_l04Mix.fn.ins)) : (List Int) := y.1.1
noncomputable def spec_l04Mix.f (l0 : List Int) (l1 : List Int) (a2 : Int) (a3 : Int) (a4 : Int) : Option (List Int) := denF spec_l04Mix.E spec_l04Mix.fn spec_l04Mix.enc (l0, l1, a2, a3, a4, ())
noncomputable def spec_l04Mix.l0 (x0 : List Int) (x1 : List Int) (x2 : Int) (x3 : Int) (x4 : Int) (x12 : Int) (r0 : List Int) : Option (List Int) := denAt spec_l04Mix.E spec_l04Mix.fn spec_l04Mix.enc [1, 1, 0, 1, 0] { fr := [(0, .lf (.sl (.int .i64) x0)), (1, .lf (.sl (.int .i64) x1)), (2, .lf (.int .i64 x2)), (3, .lf (.int .i64 x3)), (4, .lf (.int .i64 x4)), (11, .lf (.own 0)), (12, .lf (.int .i64 x12))], ob := [(0, .row 2 true (.int .i64) r0)], nx := 1 }
set_option maxRecDepth 100000 in
theorem spec_l04Mix.f_eq (l0 : List Int) (l1 : List Int) (a2 : Int) (a3 : Int) (a4 : Int) : spec_l04Mix.f l0 l1 a2 a3 a4 = if (l0.length : Int) = (l0.length : Int) then (if 0 ≤ (l0.length : Int) then (if ((l0.length : Int) : Int).toNat ≤ 17592186044416 then (spec_l04Mix.l0 l0 l1 a2 a3 a4 0 (List.replicate ((l0.length : Int) : Int).toNat (0 : Int))) else none) else none) else none := by kernel_rfl
set_option maxRecDepth 100000 in
theorem spec_l04Mix.l0_eq (x0 : List Int) (x1 : List Int) (x2 : Int) (x3 : Int) (x4 : Int) (x12 : Int) (r0 : List Int) : spec_l04Mix.l0 x0 x1 x2 x3 x4 x12 r0 = if x12 < (x0.length : Int) then (if 0 ≤ x12 then (if x12 < (x0.length : Int) then (if 0 ≤ x12 then (if x12 < (x1.length : Int) then ((spec_l01Mod.f (wrapI ((wrapI (x2 * (rd x0 x12))) + (wrapI (x3 * (rd x1 x12))))) x4).bind fun t38 => if 0 ≤ x12 then (if x12 < (r0.length : Int) then (if 0 ≤ x12 then (if x12 < (r0.length : Int) then (spec_l04Mix.l0 x0 x1 x2 x3 x4 (wrapI (x12 + 1)) (r0.set (x12 : Int).toNat t38)) else none) else none) else none) else none) else none) else none) else none) else none) else (some r0) := (loop_unfold _ _ _ _).trans (by kernel_rfl)
noncomputable def spec_l04Mix.con : Con := ⟨spec_l04Mix.fn.ins, spec_l04Mix.fn.outs, (List Int), fun x => spec_l04Mix.f x.1 x.2.1 x.2.2.1 x.2.2.2.1 x.2.2.2.2.1, fun r => ((r, ()), (()))⟩
theorem spec_l04Mix.valid : Valid Try.prog 89 spec_l04Mix.con := fn_valid (f := spec_l04Mix.fn) (E := spec_l04Mix.E) (enc := spec_l04Mix.enc) ⟨ttOk, (conCons spec_l01Mod.valid conNil)⟩ (Checked.mixed Try.checked) ⟨Try.func89, by kernel_rfl, by kernel_rfl, by kernel_rfl, by kernel_rfl, by decide, by kernel_rfl, by kernel_rfl⟩ (fun _ => rfl)
end Go.Proofs.Ytpppnoliogdkiaa.P
set_option linter.unusedVariables false
namespace Go.Proofs.Ytpppnoliogdkiaa.P
open Go Go.RowKit Go.Proofs.Ytpppnoliogdkiaa.D
noncomputable def spec_l04Less.E : Env := { tt := TT, con := [(96, spec_l01Own.con), (89, spec_l04Mix.con)], frz := [], rows := [], live := [(3, [1, 2, 7, 8])], n := 58, pin := 0, nils := [] }
noncomputable def spec_l04Less.fn : D.Fn := { body := Try.f86.body.getD .skip, res := Try.f86.results.toList, ins := [.one (.v (.sl 2 (.int .i64))), .one (.v (.sl 25 (.sl 2 (.int .i64)))), .one (.v (.int .i64))], outs := [.one (.own 2 true (.int .i64))] }
def spec_l04Less.enc (y : lsd (flats spec_l04Less.fn.outs) × lsd (ios spec_l04Less.fn.ins)) : (List Int) := y.1.1
noncomputable def spec_l04Less.f (l0 : List Int) (l1 : List (List Int)) (a2 : Int) : Option (List Int) := denF spec_l04Less.E spec_l04Less.fn spec_l04Less.enc (l0, l1, a2, ())
noncomputable def spec_l04Less.l0 (x1 : List (List Int)) (x2 : Int) (x8 : Int) (r0 : List Int) : Option (List Int) := denAt spec_l04Less.E spec_l04Less.fn spec_l04Less.enc [1, 1, 0, 1, 0] { fr := [(1, .lf (.sl (.sl 2 (.int .i64)) x1)), (2, .lf (.int .i64 x2)), (7, .lf (.own 0)), (8, .lf (.int .i64 x8))], ob := [(0, .row 2 true (.int .i64) r0)], nx := 1 }
set_option maxRecDepth 100000 in
theorem spec_l04Less.f_eq (l0 : List Int) (l1 : List (List Int)) (a2 : Int) : spec_l04Less.f l0 l1 a2 = (spec_l01Own.f l0).bind fun t10 => spec_l04Less.l0 l1 a2 0 t10 := by kernel_rfl
set_option maxRecDepth 100000 in
theorem spec_l04Less.l0_eq (x1 : List (List Int)) (x2 : Int) (x8 : Int) (r0 : List Int) : spec_l04Less.l0 x1 x2 x8 r0 = if x8 < (x1.length : Int) then (if 0 ≤ x8 then (if x8 < (x1.length : Int) then (if ((row x1 x8).length : Int) > 0 then (if 0 ≤ x8 then (if x8 < (r0.length : Int) then (if 0 ≤ x8 then (if x8 < (r0.length : Int) then (if 0 ≤ x8 then (if x8 < (x1.length : Int) then (if 0 ≤ x8 then (if x8 < ((row x1 x8).length : Int) then (if (rd r0 x8) ≥ (T x1 x8 x8) then (if 0 ≤ x8 then (if x8 < (x1.length : Int) then (if 0 ≤ x8 then (if x8 < (r0.length : Int) then (if 0 ≤ x8 then (if x8 < (r0.length : Int) then (if 0 ≤ x8 then (if x8 < (x1.length : Int) then (if 0 ≤ x8 then (if x8 < ((row x1 x8).length : Int) then (if (T x1 x8 x8) = 0 then none else ((spec_l04Mix.f r0 (row x1 x8) 1 (wrapI (0 - (wrapI ((rd r0 x8 : Int).tdiv (T x1 x8 x8))))) x2).bind fun t56 => spec_l04Less.l0 x1 x2 (wrapI (x8 + 1)) t56)) else none) else none) else none) else none) else none) else none) else none) else none) else none) else none) else (spec_l04Less.l0 x1 x2 (wrapI (x8 + 1)) r0)) else none) else none) else none) else none) else none) else none) else none) else none) else (spec_l04Less.l0 x1 x2 (wrapI (x8 + 1)) r0)) else none) else none) else (some r0) := (loop_unfold _ _ _ _).trans (by kernel_rfl)
noncomputable def spec_l04Less.con : Con := ⟨spec_l04Less.fn.ins, spec_l04Less.fn.outs, (List Int), fun x => spec_l04Less.f x.1 x.2.1 x.2.2.1, fun r => ((r, ()), (()))⟩
theorem spec_l04Less.valid : Valid Try.prog 86 spec_l04Less.con := fn_valid (f := spec_l04Less.fn) (E := spec_l04Less.E) (enc := spec_l04Less.enc) ⟨ttOk, (conCons spec_l01Own.valid (conCons spec_l04Mix.valid conNil))⟩ (Checked.mixed Try.checked) ⟨Try.func86, by kernel_rfl, by kernel_rfl, by kernel_rfl, by kernel_rfl, by decide, by kernel_rfl, by kernel_rfl⟩ (fun _ => rfl)
end Go.Proofs.Ytpppnoliogdkiaa.P
set_option linter.unusedVariables false
namespace Go.Proofs.Ytpppnoliogdkiaa.P
open Go Go.RowKit Go.Proofs.Ytpppnoliogdkiaa.D
noncomputable def spec_l04Unit.E : Env := { tt := TT, con := [(163, spec_l01Gcd.con), (89, spec_l04Mix.con)], frz := [], rows := [], live := [(4, [0, 1, 2, 7, 8])], n := 40, pin := 0, nils := [] }
noncomputable def spec_l04Unit.fn : D.Fn := { body := Try.f194.body.getD .skip, res := Try.f194.results.toList, ins := [.one (.v (.sl 2 (.int .i64))), .one (.v (.int .i64)), .one (.v (.int .i64))], outs := [.one (.own 2 true (.int .i64))] }
def spec_l04Unit.enc (y : lsd (flats spec_l04Unit.fn.outs) × lsd (ios spec_l04Unit.fn.ins)) : (List Int) := y.1.1
noncomputable def spec_l04Unit.f (l0 : List Int) (a1 : Int) (a2 : Int) : Option (List Int) := denF spec_l04Unit.E spec_l04Unit.fn spec_l04Unit.enc (l0, a1, a2, ())
noncomputable def spec_l04Unit.l0 (x0 : List Int) (x1 : Int) (x2 : Int) (x7 : Int) (x8 : Int) : Option (List Int) := denAt spec_l04Unit.E spec_l04Unit.fn spec_l04Unit.enc [1, 1, 1, 0] { fr := [(0, .lf (.sl (.int .i64) x0)), (1, .lf (.int .i64 x1)), (2, .lf (.int .i64 x2)), (7, .lf (.int .i64 x7)), (8, .lf (.int .i64 x8))], ob := [], nx := 0 }
set_option maxRecDepth 100000 in
theorem spec_l04Unit.f_eq (l0 : List Int) (a1 : Int) (a2 : Int) : spec_l04Unit.f l0 a1 a2 = if 0 ≤ a1 then (if a1 < (l0.length : Int) then ((spec_l01Gcd.f (rd l0 a1) a2).bind fun t14 => spec_l04Unit.l0 l0 a1 a2 t14 1) else none) else none := by kernel_rfl
set_option maxRecDepth 100000 in
theorem spec_l04Unit.l0_eq (x0 : List Int) (x1 : Int) (x2 : Int) (x7 : Int) (x8 : Int) : spec_l04Unit.l0 x0 x1 x2 x7 x8 = (spec_l01Gcd.f x8 x2).bind fun t19 => if t19 = 1 then (if 0 ≤ x1 then (if x1 < (x0.length : Int) then (if x2 = 0 then none else (if x2 = 0 then none else (if ((wrapI ((rd x0 x1) * x8) : Int).tmod x2) = ((x7 : Int).tmod x2) then ((spec_l04Mix.f x0 x0 x8 0 x2).bind fun t39 => some t39) else (spec_l04Unit.l0 x0 x1 x2 x7 (wrapI (x8 + 1)))))) else none) else none) else (spec_l04Unit.l0 x0 x1 x2 x7 (wrapI (x8 + 1))) := (loop_unfold _ _ _ _).trans (by kernel_rfl)
noncomputable def spec_l04Unit.con : Con := ⟨spec_l04Unit.fn.ins, spec_l04Unit.fn.outs, (List Int), fun x => spec_l04Unit.f x.1 x.2.1 x.2.2.1, fun r => ((r, ()), (()))⟩
theorem spec_l04Unit.valid : Valid Try.prog 194 spec_l04Unit.con := fn_valid (f := spec_l04Unit.fn) (E := spec_l04Unit.E) (enc := spec_l04Unit.enc) ⟨ttOk, (conCons spec_l01Gcd.valid (conCons spec_l04Mix.valid conNil))⟩ (Checked.mixed Try.checked) ⟨Try.func194, by kernel_rfl, by kernel_rfl, by kernel_rfl, by kernel_rfl, by decide, by kernel_rfl, by kernel_rfl⟩ (fun _ => rfl)
end Go.Proofs.Ytpppnoliogdkiaa.P
set_option linter.unusedVariables false
namespace Go.Proofs.Ytpppnoliogdkiaa.P
open Go Go.RowKit Go.Proofs.Ytpppnoliogdkiaa.D
noncomputable def spec_l04Bezout.E : Env := { tt := TT, con := [], frz := [], rows := [], live := [(2, [0, 1, 7, 8, 9, 10])], n := 43, pin := 0, nils := [] }
noncomputable def spec_l04Bezout.fn : D.Fn := { body := Try.f195.body.getD .skip, res := Try.f195.results.toList, ins := [.one (.v (.int .i64)), .one (.v (.int .i64))], outs := [.one (.v (.int .i64)), .one (.v (.int .i64)), .one (.v (.int .i64))] }
def spec_l04Bezout.enc (y : lsd (flats spec_l04Bezout.fn.outs) × lsd (ios spec_l04Bezout.fn.ins)) : Int × Int × Int := (y.1.1, y.1.2.1, y.1.2.2.1)
noncomputable def spec_l04Bezout.f (a0 : Int) (a1 : Int) : Option (Int × Int × Int) := denF spec_l04Bezout.E spec_l04Bezout.fn spec_l04Bezout.enc (a0, a1, ())
noncomputable def spec_l04Bezout.l0 (x0 : Int) (x1 : Int) (x7 : Int) (x8 : Int) (x9 : Int) (x10 : Int) : Option (Int × Int × Int) := denAt spec_l04Bezout.E spec_l04Bezout.fn spec_l04Bezout.enc [1, 1, 0, 0] { fr := [(0, .lf (.int .i64 x0)), (1, .lf (.int .i64 x1)), (7, .lf (.int .i64 x7)), (8, .lf (.int .i64 x8)), (9, .lf (.int .i64 x9)), (10, .lf (.int .i64 x10))], ob := [], nx := 0 }
set_option maxRecDepth 100000 in
theorem spec_l04Bezout.f_eq (a0 : Int) (a1 : Int) : spec_l04Bezout.f a0 a1 = spec_l04Bezout.l0 a0 a1 1 0 0 1 := by kernel_rfl
set_option maxRecDepth 100000 in
theorem spec_l04Bezout.l0_eq (x0 : Int) (x1 : Int) (x7 : Int) (x8 : Int) (x9 : Int) (x10 : Int) : spec_l04Bezout.l0 x0 x1 x7 x8 x9 x10 = if x1 = 0 then (some (x0, x7, x8)) else (if x1 = 0 then none else (spec_l04Bezout.l0 x1 (wrapI (x0 - (wrapI ((wrapI ((x0 : Int).tdiv x1)) * x1)))) x9 x10 (wrapI (x7 - (wrapI ((wrapI ((x0 : Int).tdiv x1)) * x9)))) (wrapI (x8 - (wrapI ((wrapI ((x0 : Int).tdiv x1)) * x10)))))) := (loop_unfold _ _ _ _).trans (by kernel_rfl)
noncomputable def spec_l04Bezout.con : Con := ⟨spec_l04Bezout.fn.ins, spec_l04Bezout.fn.outs, Int × Int × Int, fun x => spec_l04Bezout.f x.1 x.2.1, fun r => ((r.1, r.2.1, r.2.2, ()), (()))⟩
theorem spec_l04Bezout.valid : Valid Try.prog 195 spec_l04Bezout.con := fn_valid (f := spec_l04Bezout.fn) (E := spec_l04Bezout.E) (enc := spec_l04Bezout.enc) ⟨ttOk, conNil⟩ (Checked.mixed Try.checked) ⟨Try.func195, by kernel_rfl, by kernel_rfl, by kernel_rfl, by kernel_rfl, by decide, by kernel_rfl, by kernel_rfl⟩ (fun _ => rfl)
end Go.Proofs.Ytpppnoliogdkiaa.P
set_option linter.unusedVariables false
namespace Go.Proofs.Ytpppnoliogdkiaa.P
open Go Go.RowKit Go.Proofs.Ytpppnoliogdkiaa.D
noncomputable def spec_l04Insert.E : Env := { tt := TT, con := [(194, spec_l04Unit.con), (89, spec_l04Mix.con), (195, spec_l04Bezout.con)], frz := [53, 71, 99, 120, 131, 143], rows := [16, 72, 144], live := [(1, [0, 2, 6]), (5, [0, 2, 6, 7, 8])], n := 147, pin := 1, nils := [] }
noncomputable def spec_l04Insert.fn : D.Fn := { body := Try.f181.body.getD .skip, res := Try.f181.results.toList, ins := [.one (.own 25 false (.sl 2 (.int .i64))), .one (.v (.sl 2 (.int .i64))), .one (.v (.int .i64))], outs := [] }
def spec_l04Insert.enc (y : lsd (flats spec_l04Insert.fn.outs) × lsd (ios spec_l04Insert.fn.ins)) : (List (List Int)) := y.2.1
noncomputable def spec_l04Insert.f (l0 : List (List Int)) (l1 : List Int) (a2 : Int) : Option (List (List Int)) := denF spec_l04Insert.E spec_l04Insert.fn spec_l04Insert.enc (l0, l1, a2, ())
noncomputable def spec_l04Insert.l0 (x2 : Int) (r0 : List (List Int)) (r1 : List (List Int)) : Option (List (List Int)) := denAt spec_l04Insert.E spec_l04Insert.fn spec_l04Insert.enc [1, 0] { fr := [(0, .lf (.own 0)), (2, .lf (.int .i64 x2)), (6, .lf (.own 1))], ob := [(0, .row 25 false (.sl 2 (.int .i64)) r0), (1, .row 25 false (.sl 2 (.int .i64)) r1)], nx := 2 }
noncomputable def spec_l04Insert.l1 (x2 : Int) (x7 : List Int) (x8 : Int) (r0 : List (List Int)) (r1 : List (List Int)) : Option (List (List Int)) := denAt spec_l04Insert.E spec_l04Insert.fn spec_l04Insert.enc [1, 0, 0, 1, 0, 1, 1, 1, 0] { fr := [(0, .lf (.own 0)), (2, .lf (.int .i64 x2)), (6, .lf (.own 1)), (7, .lf (.sl (.int .i64) x7)), (8, .lf (.int .i64 x8))], ob := [(0, .row 25 false (.sl 2 (.int .i64)) r0), (1, .row 25 false (.sl 2 (.int .i64)) r1)], nx := 2 }
set_option maxRecDepth 100000 in
theorem spec_l04Insert.f_eq (l0 : List (List Int)) (l1 : List Int) (a2 : Int) : spec_l04Insert.f l0 l1 a2 = spec_l04Insert.l0 a2 l0 ([l1] : List (List Int)) := by kernel_rfl
set_option maxRecDepth 100000 in
theorem spec_l04Insert.l0_eq (x2 : Int) (r0 : List (List Int)) (r1 : List (List Int)) : spec_l04Insert.l0 x2 r0 r1 = if (r1.length : Int) > 0 then (if 0 ≤ wrapI ((r1.length : Int) - 1) then (if wrapI ((r1.length : Int) - 1) < (r1.length : Int) then (if 0 ≤ wrapI ((r1.length : Int) - 1) then (if wrapI ((r1.length : Int) - 1) < (r1.length : Int) then (if 0 < (r1.length : Int) then (if 0 ≤ wrapI ((r1.length : Int) - 1) then (if wrapI ((r1.length : Int) - 1) ≤ (r1.length : Int) then (spec_l04Insert.l1 x2 (row r1 (wrapI ((r1.length : Int) - 1))) 0 r0 (r1.take (wrapI ((r1.length : Int) - 1) : Int).toNat)) else none) else none) else none) else none) else none) else none) else none) else (some r0) := (loop_unfold _ _ _ _).trans (by kernel_rfl)
set_option maxRecDepth 100000 in
theorem spec_l04Insert.l1_eq (x2 : Int) (x7 : List Int) (x8 : Int) (r0 : List (List Int)) (r1 : List (List Int)) : spec_l04Insert.l1 x2 x7 x8 r0 r1 = if x8 < (x7.length : Int) then (if 0 ≤ x8 then (if x8 < (x7.length : Int) then (if (rd x7 x8) = 0 then (spec_l04Insert.l1 x2 x7 (wrapI (x8 + 1)) r0 r1) else (if 0 ≤ x8 then (if x8 < (r0.length : Int) then (if 0 ≤ x8 then (if x8 < (r0.length : Int) then (if ((row r0 x8).length : Int) = 0 then ((spec_l04Unit.f x7 x8 x2).bind fun t53 => if 0 ≤ x8 then (if x8 < (r0.length : Int) then (if 0 ≤ x8 then (if x8 < (r0.length : Int) then (if 0 ≤ x8 then (if x8 < ((r0.set (x8 : Int).toNat t53).length : Int) then (if 0 ≤ x8 then (if x8 < ((r0.set (x8 : Int).toNat t53).length : Int) then (if 0 ≤ x8 then (if x8 < ((r0.set (x8 : Int).toNat t53).length : Int) then (if 0 ≤ x8 then (if x8 < ((r0.set (x8 : Int).toNat t53).length : Int) then (if 0 ≤ x8 then (if x8 < ((row (r0.set (x8 : Int).toNat t53) x8).length : Int) then (if (T (r0.set (x8 : Int).toNat t53) x8 x8) = 0 then none else ((spec_l04Mix.f (row (r0.set (x8 : Int).toNat t53) x8) x7 (wrapI ((x2 : Int).tdiv (T (r0.set (x8 : Int).toNat t53) x8 x8))) 0 x2).bind fun t71 => if r1.length + ([t71] : List (List Int)).length ≤ 5864062014805 then (spec_l04Insert.l0 x2 (r0.set (x8 : Int).toNat t53) (r1 ++ ([t71] : List (List Int)))) else none)) else none) else none) else none) else none) else none) else none) else none) else none) else none) else none) else none) else none) else none) else none) else (if 0 ≤ x8 then (if x8 < (r0.length : Int) then (if 0 ≤ x8 then (if x8 < (r0.length : Int) then (if 0 ≤ x8 then (if x8 < ((row r0 x8).length : Int) then (if 0 ≤ x8 then (if x8 < (x7.length : Int) then (if (T r0 x8 x8) = 0 then none else (if ((rd x7 x8 : Int).tmod (T r0 x8 x8)) = 0 then (if 0 ≤ x8 then (if x8 < (r0.length : Int) then (if 0 ≤ x8 then (if x8 < (r0.length : Int) then (if (T r0 x8 x8) = 0 then none else ((spec_l04Mix.f x7 (row r0 x8) 1 (wrapI (0 - (wrapI ((rd x7 x8 : Int).tdiv (T r0 x8 x8))))) x2).bind fun t99 => spec_l04Insert.l1 x2 t99 (wrapI (x8 + 1)) r0 r1)) else none) else none) else none) else none) else ((spec_l04Bezout.f (T r0 x8 x8) (rd x7 x8)).bind fun t103 => if 0 ≤ x8 then (if x8 < (r0.length : Int) then (if 0 ≤ x8 then (if x8 < (r0.length : Int) then (if t103.1 = 0 then none else (if t103.1 = 0 then none else ((spec_l04Mix.f (row r0 x8) x7 (wrapI ((rd x7 x8 : Int).tdiv t103.1)) (wrapI (0 - (wrapI ((T r0 x8 x8 : Int).tdiv t103.1)))) x2).bind fun t120 => if 0 ≤ x8 then (if x8 < (r0.length : Int) then (if 0 ≤ x8 then (if x8 < (r0.length : Int) then ((spec_l04Mix.f (row r0 x8) x7 t103.2.1 t103.2.2 x2).bind fun t131 => if 0 ≤ x8 then (if x8 < (r0.length : Int) then (if 0 ≤ x8 then (if x8 < (r0.length : Int) then (if 0 ≤ x8 then (if x8 < ((r0.set (x8 : Int).toNat t131).length : Int) then (if 0 ≤ x8 then (if x8 < ((r0.set (x8 : Int).toNat t131).length : Int) then (if t103.1 = 0 then none else ((spec_l04Mix.f (row (r0.set (x8 : Int).toNat t131) x8) x7 (wrapI ((x2 : Int).tdiv t103.1)) 0 x2).bind fun t143 => if r1.length + ([t143] : List (List Int)).length ≤ 5864062014805 then (spec_l04Insert.l1 x2 t120 (wrapI (x8 + 1)) (r0.set (x8 : Int).toNat t131) (r1 ++ ([t143] : List (List Int)))) else none)) else none) else none) else none) else none) else none) else none) else none) else none) else none) else none) else none) else none))) else none) else none) else none) else none))) else none) else none) else none) else none) else none) else none) else none) else none)) else none) else none) else none) else none)) else none) else none) else (spec_l04Insert.l0 x2 r0 r1) := (loop_unfold _ _ _ _).trans (by kernel_rfl)
noncomputable def spec_l04Insert.con : Con := ⟨spec_l04Insert.fn.ins, spec_l04Insert.fn.outs, (List (List Int)), fun x => spec_l04Insert.f x.1 x.2.1 x.2.2.1, fun r => ((()), (r, ()))⟩
theorem spec_l04Insert.valid : Valid Try.prog 181 spec_l04Insert.con := fn_valid (f := spec_l04Insert.fn) (E := spec_l04Insert.E) (enc := spec_l04Insert.enc) ⟨ttOk, (conCons spec_l04Unit.valid (conCons spec_l04Mix.valid (conCons spec_l04Bezout.valid conNil)))⟩ (Checked.mixed Try.checked) ⟨Try.func181, by kernel_rfl, by kernel_rfl, by kernel_rfl, by kernel_rfl, by decide, by kernel_rfl, by kernel_rfl⟩ (fun _ => rfl)
end Go.Proofs.Ytpppnoliogdkiaa.P
set_option linter.unusedVariables false
namespace Go.Proofs.Ytpppnoliogdkiaa.P
open Go Go.RowKit Go.Proofs.Ytpppnoliogdkiaa.D
noncomputable def spec_l04Reduced.E : Env := { tt := TT, con := [(181, spec_l04Insert.con)], frz := [], rows := [10], live := [(3, [0, 2, 7, 8])], n := 25, pin := 0, nils := [] }
noncomputable def spec_l04Reduced.fn : D.Fn := { body := Try.f142.body.getD .skip, res := Try.f142.results.toList, ins := [.one (.v (.sl 25 (.sl 2 (.int .i64)))), .one (.v (.int .i64)), .one (.v (.int .i64))], outs := [.one (.own 25 false (.sl 2 (.int .i64)))] }
def spec_l04Reduced.enc (y : lsd (flats spec_l04Reduced.fn.outs) × lsd (ios spec_l04Reduced.fn.ins)) : (List (List Int)) := y.1.1
noncomputable def spec_l04Reduced.f (l0 : List (List Int)) (a1 : Int) (a2 : Int) : Option (List (List Int)) := denF spec_l04Reduced.E spec_l04Reduced.fn spec_l04Reduced.enc (l0, a1, a2, ())
noncomputable def spec_l04Reduced.l0 (x0 : List (List Int)) (x2 : Int) (x8 : Int) (r0 : List (List Int)) : Option (List (List Int)) := denAt spec_l04Reduced.E spec_l04Reduced.fn spec_l04Reduced.enc [1, 1, 0, 1, 0] { fr := [(0, .lf (.sl (.sl 2 (.int .i64)) x0)), (2, .lf (.int .i64 x2)), (7, .lf (.own 0)), (8, .lf (.int .i64 x8))], ob := [(0, .row 25 false (.sl 2 (.int .i64)) r0)], nx := 1 }
set_option maxRecDepth 100000 in
theorem spec_l04Reduced.f_eq (l0 : List (List Int)) (a1 : Int) (a2 : Int) : spec_l04Reduced.f l0 a1 a2 = if a1 = a1 then (if 0 ≤ a1 then (if (a1 : Int).toNat ≤ 5864062014805 then (spec_l04Reduced.l0 l0 a2 0 (List.replicate (a1 : Int).toNat ([] : List Int))) else none) else none) else none := by kernel_rfl
set_option maxRecDepth 100000 in
theorem spec_l04Reduced.l0_eq (x0 : List (List Int)) (x2 : Int) (x8 : Int) (r0 : List (List Int)) : spec_l04Reduced.l0 x0 x2 x8 r0 = if x8 < (x0.length : Int) then (if 0 ≤ x8 then (if x8 < (x0.length : Int) then ((spec_l04Insert.f r0 (row x0 x8) x2).bind fun t23 => spec_l04Reduced.l0 x0 x2 (wrapI (x8 + 1)) t23) else none) else none) else (some r0) := (loop_unfold _ _ _ _).trans (by kernel_rfl)
noncomputable def spec_l04Reduced.con : Con := ⟨spec_l04Reduced.fn.ins, spec_l04Reduced.fn.outs, (List (List Int)), fun x => spec_l04Reduced.f x.1 x.2.1 x.2.2.1, fun r => ((r, ()), (()))⟩
theorem spec_l04Reduced.valid : Valid Try.prog 142 spec_l04Reduced.con := fn_valid (f := spec_l04Reduced.fn) (E := spec_l04Reduced.E) (enc := spec_l04Reduced.enc) ⟨ttOk, (conCons spec_l04Insert.valid conNil)⟩ (Checked.mixed Try.checked) ⟨Try.func142, by kernel_rfl, by kernel_rfl, by kernel_rfl, by kernel_rfl, by decide, by kernel_rfl, by kernel_rfl⟩ (fun _ => rfl)
end Go.Proofs.Ytpppnoliogdkiaa.P
set_option linter.unusedVariables false
namespace Go.Proofs.Ytpppnoliogdkiaa.P
open Go Go.RowKit Go.Proofs.Ytpppnoliogdkiaa.D
noncomputable def spec_l03Zero.E : Env := { tt := TT, con := [(126, spec_l03Cells.con)], frz := [], rows := [], live := [], n := 11, pin := 0, nils := [] }
noncomputable def spec_l03Zero.fn : D.Fn := { body := Try.f182.body.getD .skip, res := Try.f182.results.toList, ins := [.agg [.v (.sl 25 (.sl 2 (.int .i64)))], .one (.v (.int .i64))], outs := [.agg [.v (.int .i64), .own 2 true (.int .i64)]] }
def spec_l03Zero.enc (y : lsd (flats spec_l03Zero.fn.outs) × lsd (ios spec_l03Zero.fn.ins)) : Int × (List Int) := (y.1.1, y.1.2.1)
noncomputable def spec_l03Zero.f (l0_0 : List (List Int)) (a1 : Int) : Option (Int × (List Int)) := denF spec_l03Zero.E spec_l03Zero.fn spec_l03Zero.enc (l0_0, a1, ())
set_option maxRecDepth 100000 in
theorem spec_l03Zero.f_eq (l0_0 : List (List Int)) (a1 : Int) : spec_l03Zero.f l0_0 a1 = (spec_l03Cells.f l0_0 a1).bind fun t8 => if t8 = t8 then (if 0 ≤ t8 then (if (t8 : Int).toNat ≤ 17592186044416 then (some (a1, List.replicate (t8 : Int).toNat (0 : Int))) else none) else none) else none := by kernel_rfl
noncomputable def spec_l03Zero.con : Con := ⟨spec_l03Zero.fn.ins, spec_l03Zero.fn.outs, Int × (List Int), fun x => spec_l03Zero.f x.1 x.2.1, fun r => ((r.1, r.2, ()), (()))⟩
theorem spec_l03Zero.valid : Valid Try.prog 182 spec_l03Zero.con := fn_valid (f := spec_l03Zero.fn) (E := spec_l03Zero.E) (enc := spec_l03Zero.enc) ⟨ttOk, (conCons spec_l03Cells.valid conNil)⟩ (Checked.mixed Try.checked) ⟨Try.func182, by kernel_rfl, by kernel_rfl, by kernel_rfl, by kernel_rfl, by decide, by kernel_rfl, by kernel_rfl⟩ (fun _ => rfl)
end Go.Proofs.Ytpppnoliogdkiaa.P
set_option linter.unusedVariables false
namespace Go.Proofs.Ytpppnoliogdkiaa.P
open Go Go.RowKit Go.Proofs.Ytpppnoliogdkiaa.D
noncomputable def spec_l04Sides.E : Env := { tt := TT, con := [(126, spec_l03Cells.con), (182, spec_l03Zero.con), (162, spec_l03List.con), (161, spec_l03Side.con)], frz := [], rows := [], live := [(3, [2, 3, 4, 7, 8, 9]), (9, [2, 3, 4, 7, 8, 9, 10, 11, 12])], n := 58, pin := 0, nils := [] }
noncomputable def spec_l04Sides.fn : D.Fn := { body := Try.f143.body.getD .skip, res := Try.f143.results.toList, ins := [.agg [.v (.sl 25 (.sl 2 (.int .i64)))], .agg [.v (.int .i64), .v (.sl 2 (.int .i64))], .one (.v (.int .i64))], outs := [.one (.own 25 true (.sl 2 (.int .i64)))] }
def spec_l04Sides.enc (y : lsd (flats spec_l04Sides.fn.outs) × lsd (ios spec_l04Sides.fn.ins)) : (List (List Int)) := y.1.1
noncomputable def spec_l04Sides.f (l0_0 : List (List Int)) (a1_0 : Int) (l1_1 : List Int) (a2 : Int) : Option (List (List Int)) := denF spec_l04Sides.E spec_l04Sides.fn spec_l04Sides.enc (l0_0, a1_0, l1_1, a2, ())
noncomputable def spec_l04Sides.l0 (x2 : Int) (x8 : Int) (x9 : Int) (b0_0 : List (List Int)) (b1_0 : Int) (b1_1 : List Int) (r2 : List (List Int)) : Option (List (List Int)) := denAt spec_l04Sides.E spec_l04Sides.fn spec_l04Sides.enc [1, 1, 0, 1, 0] { fr := [(2, .lf (.int .i64 x2)), (3, .lf (.box 0 0)), (4, .lf (.box 1 0)), (7, .lf (.own 2)), (8, .lf (.int .i64 x8)), (9, .lf (.int .i64 x9))], ob := [(0, .box 32 false [.sl (.sl 2 (.int .i64)) b0_0]), (1, .box 34 false [.int .i64 b1_0, .sl (.int .i64) b1_1]), (2, .row 25 true (.sl 2 (.int .i64)) r2)], nx := 3 }
noncomputable def spec_l04Sides.l1 (x2 : Int) (x8 : Int) (x9 : Int) (x12 : Int) (b0_0 : List (List Int)) (b1_0 : Int) (b1_1 : List Int) (r2 : List (List Int)) (b3_0 : Int) (r4 : List Int) (r5 : List Int) : Option (List (List Int)) := denAt spec_l04Sides.E spec_l04Sides.fn spec_l04Sides.enc [1, 1, 0, 1, 0, 0, 1, 0, 0, 1, 1, 1, 0, 1, 0] { fr := [(2, .lf (.int .i64 x2)), (3, .lf (.box 0 0)), (4, .lf (.box 1 0)), (7, .lf (.own 2)), (8, .lf (.int .i64 x8)), (9, .lf (.int .i64 x9)), (10, .lf (.box 3 0)), (11, .lf (.own 4)), (12, .lf (.int .i64 x12))], ob := [(0, .box 32 false [.sl (.sl 2 (.int .i64)) b0_0]), (1, .box 34 false [.int .i64 b1_0, .sl (.int .i64) b1_1]), (2, .row 25 true (.sl 2 (.int .i64)) r2), (3, .box 48 false [.int .i64 b3_0, .own 5]), (4, .row 2 true (.int .i64) r4), (5, .row 2 true (.int .i64) r5)], nx := 6 }
set_option maxRecDepth 100000 in
theorem spec_l04Sides.f_eq (l0_0 : List (List Int)) (a1_0 : Int) (l1_1 : List Int) (a2 : Int) : spec_l04Sides.f l0_0 a1_0 l1_1 a2 = (spec_l03Cells.f l0_0 a2).bind fun t16 => spec_l04Sides.l0 a2 t16 0 l0_0 a1_0 l1_1 ([] : List (List Int)) := by kernel_rfl
set_option maxRecDepth 100000 in
theorem spec_l04Sides.l0_eq (x2 : Int) (x8 : Int) (x9 : Int) (b0_0 : List (List Int)) (b1_0 : Int) (b1_1 : List Int) (r2 : List (List Int)) : spec_l04Sides.l0 x2 x8 x9 b0_0 b1_0 b1_1 r2 = if x9 < x8 then ((spec_l03Zero.f b0_0 x2).bind fun t24 => if 0 ≤ x9 then (if x9 < (t24.2.length : Int) then (if 0 ≤ x9 then (if x9 < (t24.2.length : Int) then (spec_l04Sides.l1 x2 x8 x9 0 b0_0 b1_0 b1_1 r2 t24.1 ([] : List Int) (t24.2.set (x9 : Int).toNat 1)) else none) else none) else none) else none) else (some r2) := (loop_unfold _ _ _ _).trans (by kernel_rfl)
set_option maxRecDepth 100000 in
theorem spec_l04Sides.l1_eq (x2 : Int) (x8 : Int) (x9 : Int) (x12 : Int) (b0_0 : List (List Int)) (b1_0 : Int) (b1_1 : List Int) (r2 : List (List Int)) (b3_0 : Int) (r4 : List Int) (r5 : List Int) : spec_l04Sides.l1 x2 x8 x9 x12 b0_0 b1_0 b1_1 r2 b3_0 r4 r5 = (spec_l03Cells.f b0_0 (wrapI (x2 + 1))).bind fun t34 => if x12 < t34 then ((spec_l03List.f b0_0 (wrapI (x2 + 1)) x12).bind fun t46 => (spec_l03Side.f b0_0 b1_0 b1_1 b3_0 r5 t46).bind fun t47 => if r4.length + ([t47] : List Int).length ≤ 17592186044416 then (spec_l04Sides.l1 x2 x8 x9 (wrapI (x12 + 1)) b0_0 b1_0 b1_1 r2 b3_0 (r4 ++ ([t47] : List Int)) r5) else none) else (if r4.length + r5.length ≤ 17592186044416 then (if r2.length + ([r4 ++ r5] : List (List Int)).length ≤ 5864062014805 then (spec_l04Sides.l0 x2 x8 (wrapI (x9 + 1)) b0_0 b1_0 b1_1 (r2 ++ ([r4 ++ r5] : List (List Int)))) else none) else none) := (loop_unfold _ _ _ _).trans (by kernel_rfl)
noncomputable def spec_l04Sides.con : Con := ⟨spec_l04Sides.fn.ins, spec_l04Sides.fn.outs, (List (List Int)), fun x => spec_l04Sides.f x.1 x.2.1 x.2.2.1 x.2.2.2.1, fun r => ((r, ()), (()))⟩
theorem spec_l04Sides.valid : Valid Try.prog 143 spec_l04Sides.con := fn_valid (f := spec_l04Sides.fn) (E := spec_l04Sides.E) (enc := spec_l04Sides.enc) ⟨ttOk, (conCons spec_l03Cells.valid (conCons spec_l03Zero.valid (conCons spec_l03List.valid (conCons spec_l03Side.valid conNil))))⟩ (Checked.mixed Try.checked) ⟨Try.func143, by kernel_rfl, by kernel_rfl, by kernel_rfl, by kernel_rfl, by decide, by kernel_rfl, by kernel_rfl⟩ (fun _ => rfl)
end Go.Proofs.Ytpppnoliogdkiaa.P
set_option linter.unusedVariables false
namespace Go.Proofs.Ytpppnoliogdkiaa.P
open Go Go.RowKit Go.Proofs.Ytpppnoliogdkiaa.D
noncomputable def spec_l04Split.E : Env := { tt := TT, con := [(126, spec_l03Cells.con), (143, spec_l04Sides.con), (142, spec_l04Reduced.con)], frz := [25], rows := [33, 35], live := [(5, [9, 10, 11, 12, 13, 14])], n := 77, pin := 0, nils := [] }
noncomputable def spec_l04Split.fn : D.Fn := { body := Try.f95.body.getD .skip, res := Try.f95.results.toList, ins := [.agg [.v (.sl 25 (.sl 2 (.int .i64)))], .agg [.v (.int .i64), .v (.sl 2 (.int .i64))], .one (.v (.int .i64))], outs := [.one (.own 25 false (.sl 2 (.int .i64))), .one (.own 25 false (.sl 2 (.int .i64))), .one (.own 25 false (.sl 2 (.int .i64)))] }
def spec_l04Split.enc (y : lsd (flats spec_l04Split.fn.outs) × lsd (ios spec_l04Split.fn.ins)) : (List (List Int)) × (List (List Int)) × (List (List Int)) := (y.1.1, y.1.2.1, y.1.2.2.1)
noncomputable def spec_l04Split.f (l0_0 : List (List Int)) (a1_0 : Int) (l1_1 : List Int) (a2 : Int) : Option ((List (List Int)) × (List (List Int)) × (List (List Int))) := denF spec_l04Split.E spec_l04Split.fn spec_l04Split.enc (l0_0, a1_0, l1_1, a2, ())
noncomputable def spec_l04Split.l0 (x9 : Int) (x10 : Int) (x14 : Int) (r0 : List (List Int)) (r1 : List (List Int)) (r2 : List (List Int)) : Option ((List (List Int)) × (List (List Int)) × (List (List Int))) := denAt spec_l04Split.E spec_l04Split.fn spec_l04Split.enc [1, 1, 1, 1, 0, 1, 0] { fr := [(9, .lf (.int .i64 x9)), (10, .lf (.int .i64 x10)), (11, .lf (.own 0)), (12, .lf (.own 1)), (13, .lf (.own 2)), (14, .lf (.int .i64 x14))], ob := [(0, .row 25 false (.sl 2 (.int .i64)) r0), (1, .row 25 false (.sl 2 (.int .i64)) r1), (2, .row 25 false (.sl 2 (.int .i64)) r2)], nx := 3 }
set_option maxRecDepth 100000 in
theorem spec_l04Split.f_eq (l0_0 : List (List Int)) (a1_0 : Int) (l1_1 : List Int) (a2 : Int) : spec_l04Split.f l0_0 a1_0 l1_1 a2 = (spec_l03Cells.f l0_0 (wrapI (a2 + 1))).bind fun t18 => (spec_l03Cells.f l0_0 a2).bind fun t21 => (spec_l04Sides.f l0_0 a1_0 l1_1 a2).bind fun t25 => (spec_l04Reduced.f t25 (wrapI (t18 + t21)) a1_0).bind fun t31 => if t18 = t18 then (if 0 ≤ t18 then (if (t18 : Int).toNat ≤ 5864062014805 then (if t21 = t21 then (if 0 ≤ t21 then (if (t21 : Int).toNat ≤ 5864062014805 then (spec_l04Split.l0 t18 t21 0 t31 (List.replicate (t18 : Int).toNat ([] : List Int)) (List.replicate (t21 : Int).toNat ([] : List Int))) else none) else none) else none) else none) else none) else none := by kernel_rfl
set_option maxRecDepth 100000 in
theorem spec_l04Split.l0_eq (x9 : Int) (x10 : Int) (x14 : Int) (r0 : List (List Int)) (r1 : List (List Int)) (r2 : List (List Int)) : spec_l04Split.l0 x9 x10 x14 r0 r1 r2 = if x14 < (wrapI (x9 + x10)) then (if 0 ≤ x14 then (if x14 < (r0.length : Int) then (if 0 ≤ x14 then (if x14 < (r0.length : Int) then (if ((row r0 x14).length : Int) = 0 then (spec_l04Split.l0 x9 x10 (wrapI (x14 + 1)) r0 r1 r2) else (if x14 < x9 then (if 0 ≤ x14 then (if x14 < (r0.length : Int) then (if 0 ≤ x14 then (if x14 < (r0.length : Int) then (if 0 ≤ x9 then (if x9 ≤ ((row r0 x14).length : Int) then (if 0 ≤ x14 then (if x14 < (r1.length : Int) then (if 0 ≤ x14 then (if x14 < (r1.length : Int) then (spec_l04Split.l0 x9 x10 (wrapI (x14 + 1)) r0 (r1.set (x14 : Int).toNat ((row r0 x14).take (x9 : Int).toNat)) r2) else none) else none) else none) else none) else none) else none) else none) else none) else none) else none) else (if 0 ≤ x14 then (if x14 < (r0.length : Int) then (if 0 ≤ x14 then (if x14 < (r0.length : Int) then (if 0 ≤ x9 then (if x9 ≤ ((row r0 x14).length : Int) then (if 0 ≤ wrapI (x14 - x9) then (if wrapI (x14 - x9) < (r2.length : Int) then (if 0 ≤ wrapI (x14 - x9) then (if wrapI (x14 - x9) < (r2.length : Int) then (spec_l04Split.l0 x9 x10 (wrapI (x14 + 1)) r0 r1 (r2.set (wrapI (x14 - x9) : Int).toNat ((row r0 x14).drop (x9 : Int).toNat))) else none) else none) else none) else none) else none) else none) else none) else none) else none) else none))) else none) else none) else none) else none) else (some (r1, r2, r0)) := (loop_unfold _ _ _ _).trans (by kernel_rfl)
noncomputable def spec_l04Split.con : Con := ⟨spec_l04Split.fn.ins, spec_l04Split.fn.outs, (List (List Int)) × (List (List Int)) × (List (List Int)), fun x => spec_l04Split.f x.1 x.2.1 x.2.2.1 x.2.2.2.1, fun r => ((r.1, r.2.1, r.2.2, ()), (()))⟩
theorem spec_l04Split.valid : Valid Try.prog 95 spec_l04Split.con := fn_valid (f := spec_l04Split.fn) (E := spec_l04Split.E) (enc := spec_l04Split.enc) ⟨ttOk, (conCons spec_l03Cells.valid (conCons spec_l04Sides.valid (conCons spec_l04Reduced.valid conNil)))⟩ (Checked.mixed Try.checked) ⟨Try.func95, by kernel_rfl, by kernel_rfl, by kernel_rfl, by kernel_rfl, by decide, by kernel_rfl, by kernel_rfl⟩ (fun _ => rfl)
end Go.Proofs.Ytpppnoliogdkiaa.P
set_option linter.unusedVariables false
namespace Go.Proofs.Ytpppnoliogdkiaa.P
open Go Go.RowKit Go.Proofs.Ytpppnoliogdkiaa.D
noncomputable def spec_LeastBounded.E : Env := { tt := TT, con := [(84, spec_l04Given.con), (95, spec_l04Split.con), (96, spec_l01Own.con), (89, spec_l04Mix.con), (97, spec_l01Mod.con), (86, spec_l04Less.con)], frz := [], rows := [20], live := [(10, [4, 5, 6, 9, 11, 12, 13, 14]), (14, [4, 5, 6, 9, 11, 12, 13, 14]), (18, [4, 5, 6, 11, 13, 15, 16])], n := 115, pin := 0, nils := [] }
noncomputable def spec_LeastBounded.fn : D.Fn := { body := Try.f47.body.getD .skip, res := Try.f47.results.toList, ins := [.agg [.v (.sl 25 (.sl 2 (.int .i64)))], .agg [.v (.int .i64), .v (.sl 2 (.int .i64))], .agg [.v (.int .i64), .v (.sl 2 (.int .i64))]], outs := [.agg [.v (.int .i64), .own 2 true (.int .i64)], .one (.v (.int .i64))] }
def spec_LeastBounded.enc (y : lsd (flats spec_LeastBounded.fn.outs) × lsd (ios spec_LeastBounded.fn.ins)) : Int × (List Int) × Int := (y.1.1, y.1.2.1, y.1.2.2.1)
noncomputable def spec_LeastBounded.f (l0_0 : List (List Int)) (a1_0 : Int) (l1_1 : List Int) (a2_0 : Int) (l2_1 : List Int) : Option (Int × (List Int) × Int) := denF spec_LeastBounded.E spec_LeastBounded.fn spec_LeastBounded.enc (l0_0, a1_0, l1_1, a2_0, l2_1, ())
noncomputable def spec_LeastBounded.l0 (x9 : Int) (x14 : Int) (b0_0 : Int) (b0_1 : List Int) (b1_0 : Int) (b1_1 : List Int) (b2_0 : Int) (r3 : List (List Int)) (r4 : List (List Int)) (r5 : List Int) : Option (Int × (List Int) × Int) := denAt spec_LeastBounded.E spec_LeastBounded.fn spec_LeastBounded.enc [1, 1, 1, 1, 1, 1, 0, 1, 0] { fr := [(4, .lf (.box 0 0)), (5, .lf (.box 1 0)), (6, .lf (.box 2 0)), (9, .lf (.int .i64 x9)), (11, .lf (.own 3)), (12, .lf (.own 4)), (13, .lf (.own 5)), (14, .lf (.int .i64 x14))], ob := [(0, .box 34 false [.int .i64 b0_0, .sl (.int .i64) b0_1]), (1, .box 48 false [.int .i64 b1_0, .sl (.int .i64) b1_1]), (2, .box 48 false [.int .i64 b2_0, .nil]), (3, .row 25 false (.sl 2 (.int .i64)) r3), (4, .row 25 false (.sl 2 (.int .i64)) r4), (5, .row 2 true (.int .i64) r5)], nx := 6 }
noncomputable def spec_LeastBounded.j1 (x9 : Int) (x14 : Int) (b0_0 : Int) (b0_1 : List Int) (b1_0 : Int) (b1_1 : List Int) (b2_0 : Int) (r3 : List (List Int)) (r4 : List (List Int)) (r5 : List Int) : Option (Int × (List Int) × Int) := denAt spec_LeastBounded.E spec_LeastBounded.fn spec_LeastBounded.enc [1, 1, 1, 1, 1, 1, 0, 1, 0, 0, 1, 0, 0, 1] { fr := [(4, .lf (.box 0 0)), (5, .lf (.box 1 0)), (6, .lf (.box 2 0)), (9, .lf (.int .i64 x9)), (11, .lf (.own 3)), (12, .lf (.own 4)), (13, .lf (.own 5)), (14, .lf (.int .i64 x14))], ob := [(0, .box 34 false [.int .i64 b0_0, .sl (.int .i64) b0_1]), (1, .box 48 false [.int .i64 b1_0, .sl (.int .i64) b1_1]), (2, .box 48 false [.int .i64 b2_0, .nil]), (3, .row 25 false (.sl 2 (.int .i64)) r3), (4, .row 25 false (.sl 2 (.int .i64)) r4), (5, .row 2 true (.int .i64) r5)], nx := 6 }
noncomputable def spec_LeastBounded.l2 (x16 : Int) (b0_0 : Int) (b0_1 : List Int) (b1_0 : Int) (b1_1 : List Int) (b2_0 : Int) (r3 : List (List Int)) (r4 : List Int) (r5 : List Int) : Option (Int × (List Int) × Int) := denAt spec_LeastBounded.E spec_LeastBounded.fn spec_LeastBounded.enc [1, 1, 1, 1, 1, 1, 1, 1, 0, 1, 0] { fr := [(4, .lf (.box 0 0)), (5, .lf (.box 1 0)), (6, .lf (.box 2 0)), (11, .lf (.own 3)), (13, .lf (.own 4)), (15, .lf (.own 5)), (16, .lf (.int .i64 x16))], ob := [(0, .box 34 false [.int .i64 b0_0, .sl (.int .i64) b0_1]), (1, .box 48 false [.int .i64 b1_0, .sl (.int .i64) b1_1]), (2, .box 48 false [.int .i64 b2_0, .nil]), (3, .row 25 false (.sl 2 (.int .i64)) r3), (4, .row 2 true (.int .i64) r4), (5, .row 2 true (.int .i64) r5)], nx := 6 }
set_option maxRecDepth 100000 in
theorem spec_LeastBounded.f_eq (l0_0 : List (List Int)) (a1_0 : Int) (l1_1 : List Int) (a2_0 : Int) (l2_1 : List Int) : spec_LeastBounded.f l0_0 a1_0 l1_1 a2_0 l2_1 = (spec_l04Given.f l0_0 a1_0 l1_1 false ([(a2_0, l2_1)] : List (Int × (List Int)))).bind fun t21 => if t21 = 0 then (if a2_0 = 0 then (some (0, ([] : List Int), 5)) else ((spec_l04Split.f l0_0 a1_0 l1_1 (wrapI (a2_0 - 1))).bind fun t39 => (spec_l01Own.f l2_1).bind fun t45 => if 0 ≤ (t39.2.1.length : Int) then (if t45.length + ((t39.2.1.length : Int) : Int).toNat ≤ 17592186044416 then (spec_LeastBounded.l0 (l2_1.length : Int) 0 a1_0 l1_1 a2_0 l2_1 0 t39.2.1 t39.2.2 (t45 ++ List.replicate ((t39.2.1.length : Int) : Int).toNat (0 : Int))) else none) else none)) else (some (0, ([] : List Int), t21)) := by kernel_rfl
set_option maxRecDepth 100000 in
theorem spec_LeastBounded.l0_eq (x9 : Int) (x14 : Int) (b0_0 : Int) (b0_1 : List Int) (b1_0 : Int) (b1_1 : List Int) (b2_0 : Int) (r3 : List (List Int)) (r4 : List (List Int)) (r5 : List Int) : spec_LeastBounded.l0 x9 x14 b0_0 b0_1 b1_0 b1_1 b2_0 r3 r4 r5 = if x14 < x9 then (if 0 ≤ x14 then (if x14 < (r4.length : Int) then (if 0 ≤ x14 then (if x14 < (r4.length : Int) then (if ((row r4 x14).length : Int) > 0 then (if 0 ≤ x14 then (if x14 < (r4.length : Int) then (if 0 ≤ x14 then (if x14 < (r4.length : Int) then (if 0 ≤ x14 then (if x14 < (r5.length : Int) then (if 0 ≤ x14 then (if x14 < (r5.length : Int) then (if 0 ≤ x14 then (if x14 < (r4.length : Int) then (if 0 ≤ x14 then (if x14 < (r4.length : Int) then (if 0 ≤ x14 then (if x14 < ((row r4 x14).length : Int) then (if (T r4 x14 x14) = 0 then none else ((spec_l04Mix.f r5 (row r4 x14) 1 (wrapI (0 - (wrapI ((rd r5 x14 : Int).tdiv (T r4 x14 x14))))) b0_0).bind fun t80 => spec_LeastBounded.j1 x9 x14 b0_0 b0_1 b1_0 b1_1 b2_0 r3 r4 t80)) else none) else none) else none) else none) else none) else none) else none) else none) else none) else none) else none) else none) else none) else none) else (spec_LeastBounded.j1 x9 x14 b0_0 b0_1 b1_0 b1_1 b2_0 r3 r4 r5)) else none) else none) else none) else none) else (spec_LeastBounded.l2 x9 b0_0 b0_1 b1_0 b1_1 b2_0 r3 r5 ([] : List Int)) := (loop_unfold _ _ _ _).trans (by kernel_rfl)
set_option maxRecDepth 100000 in
theorem spec_LeastBounded.j1_eq (x9 : Int) (x14 : Int) (b0_0 : Int) (b0_1 : List Int) (b1_0 : Int) (b1_1 : List Int) (b2_0 : Int) (r3 : List (List Int)) (r4 : List (List Int)) (r5 : List Int) : spec_LeastBounded.j1 x9 x14 b0_0 b0_1 b1_0 b1_1 b2_0 r3 r4 r5 = if 0 ≤ x14 then (if x14 < (r5.length : Int) then (if 0 ≤ x14 then (if x14 < (r5.length : Int) then (if (rd r5 x14) = 0 then (spec_LeastBounded.l0 x9 (wrapI (x14 + 1)) b0_0 b0_1 b1_0 b1_1 b2_0 r3 r4 r5) else (some (0, ([] : List Int), 5))) else none) else none) else none) else none := by kernel_rfl
set_option maxRecDepth 100000 in
theorem spec_LeastBounded.l2_eq (x16 : Int) (b0_0 : Int) (b0_1 : List Int) (b1_0 : Int) (b1_1 : List Int) (b2_0 : Int) (r3 : List (List Int)) (r4 : List Int) (r5 : List Int) : spec_LeastBounded.l2 x16 b0_0 b0_1 b1_0 b1_1 b2_0 r3 r4 r5 = if x16 < (r4.length : Int) then (if 0 ≤ x16 then (if x16 < (r4.length : Int) then (if 0 ≤ x16 then (if x16 < (r4.length : Int) then ((spec_l01Mod.f (wrapI (0 - (rd r4 x16))) b0_0).bind fun t103 => if r5.length + ([t103] : List Int).length ≤ 17592186044416 then (spec_LeastBounded.l2 (wrapI (x16 + 1)) b0_0 b0_1 b1_0 b1_1 b2_0 r3 r4 (r5 ++ ([t103] : List Int))) else none) else none) else none) else none) else none) else ((spec_l04Less.f r5 r3 b0_0).bind fun t113 => some (wrapI (b1_0 - 1), t113, 0)) := (loop_unfold _ _ _ _).trans (by kernel_rfl)
noncomputable def spec_LeastBounded.con : Con := ⟨spec_LeastBounded.fn.ins, spec_LeastBounded.fn.outs, Int × (List Int) × Int, fun x => spec_LeastBounded.f x.1 x.2.1 x.2.2.1 x.2.2.2.1 x.2.2.2.2.1, fun r => ((r.1, r.2.1, r.2.2, ()), (()))⟩
theorem spec_LeastBounded.valid : Valid Try.prog 47 spec_LeastBounded.con := fn_valid (f := spec_LeastBounded.fn) (E := spec_LeastBounded.E) (enc := spec_LeastBounded.enc) ⟨ttOk, (conCons spec_l04Given.valid (conCons spec_l04Split.valid (conCons spec_l01Own.valid (conCons spec_l04Mix.valid (conCons spec_l01Mod.valid (conCons spec_l04Less.valid conNil))))))⟩ (Checked.mixed Try.checked) ⟨Try.func47, by kernel_rfl, by kernel_rfl, by kernel_rfl, by kernel_rfl, by decide, by kernel_rfl, by kernel_rfl⟩ (fun _ => rfl)
end Go.Proofs.Ytpppnoliogdkiaa.P
set_option linter.unusedVariables false
namespace Go.Proofs.Ytpppnoliogdkiaa.P
open Go Go.RowKit Go.Proofs.Ytpppnoliogdkiaa.D
noncomputable def impl_order.E : Env := { tt := TT, con := [], frz := [], rows := [], live := [], n := 6, pin := 0, nils := [] }
noncomputable def impl_order.fn : D.Fn := { body := Try.f134.body.getD .skip, res := Try.f134.results.toList, ins := [.agg [.v (.sl 25 (.sl 2 (.int .i64)))]], outs := [.one (.v (.int .i64))] }
def impl_order.enc (y : lsd (flats impl_order.fn.outs) × lsd (ios impl_order.fn.ins)) : Int := y.1.1
noncomputable def impl_order.f (l0_0 : List (List Int)) : Option Int := denF impl_order.E impl_order.fn impl_order.enc (l0_0, ())
set_option maxRecDepth 100000 in
theorem impl_order.f_eq (l0_0 : List (List Int)) : impl_order.f l0_0 = some (l0_0.length : Int) := by kernel_rfl
noncomputable def impl_order.con : Con := ⟨impl_order.fn.ins, impl_order.fn.outs, Int, fun x => impl_order.f x.1, fun r => ((r, ()), (()))⟩
theorem impl_order.valid : Valid Try.prog 134 impl_order.con := fn_valid (f := impl_order.fn) (E := impl_order.E) (enc := impl_order.enc) ⟨ttOk, conNil⟩ (Checked.mixed Try.checked) ⟨Try.func134, by kernel_rfl, by kernel_rfl, by kernel_rfl, by kernel_rfl, by decide, by kernel_rfl, by kernel_rfl⟩ (fun _ => rfl)
end Go.Proofs.Ytpppnoliogdkiaa.P
set_option linter.unusedVariables false
namespace Go.Proofs.Ytpppnoliogdkiaa.P
open Go Go.RowKit Go.Proofs.Ytpppnoliogdkiaa.D
noncomputable def impl_areIn.E : Env := { tt := TT, con := [], frz := [], rows := [], live := [(2, [0, 7, 8, 9])], n := 21, pin := 0, nils := [] }
noncomputable def impl_areIn.fn : D.Fn := { body := Try.f148.body.getD .skip, res := Try.f148.results.toList, ins := [.one (.v (.int .i64)), .one (.v (.sl 2 (.int .i64)))], outs := [.one (.v .bool)] }
def impl_areIn.enc (y : lsd (flats impl_areIn.fn.outs) × lsd (ios impl_areIn.fn.ins)) : Bool := y.1.1
noncomputable def impl_areIn.f (a0 : Int) (l1 : List Int) : Option Bool := denF impl_areIn.E impl_areIn.fn impl_areIn.enc (a0, l1, ())
noncomputable def impl_areIn.l0 (x0 : Int) (x7 : List Int) (x8 : Int) (x9 : Int) : Option Bool := denAt impl_areIn.E impl_areIn.fn impl_areIn.enc [1, 0, 1, 0] { fr := [(0, .lf (.int .i64 x0)), (7, .lf (.sl (.int .i64) x7)), (8, .lf (.int .i64 x8)), (9, .lf (.int .i64 x9))], ob := [], nx := 0 }
set_option maxRecDepth 100000 in
theorem impl_areIn.f_eq (a0 : Int) (l1 : List Int) : impl_areIn.f a0 l1 = impl_areIn.l0 a0 l1 (l1.length : Int) 0 := by kernel_rfl
set_option maxRecDepth 100000 in
theorem impl_areIn.l0_eq (x0 : Int) (x7 : List Int) (x8 : Int) (x9 : Int) : impl_areIn.l0 x0 x7 x8 x9 = if x9 < x8 then (if 0 ≤ x9 then (if x9 < (x7.length : Int) then (if (rd x7 x9) < 0 then (some false) else (if (rd x7 x9) ≥ x0 then (some false) else (impl_areIn.l0 x0 x7 x8 (wrapI (x9 + 1))))) else none) else none) else (some true) := (loop_unfold _ _ _ _).trans (by kernel_rfl)
noncomputable def impl_areIn.con : Con := ⟨impl_areIn.fn.ins, impl_areIn.fn.outs, Bool, fun x => impl_areIn.f x.1 x.2.1, fun r => ((r, ()), (()))⟩
theorem impl_areIn.valid : Valid Try.prog 148 impl_areIn.con := fn_valid (f := impl_areIn.fn) (E := impl_areIn.E) (enc := impl_areIn.enc) ⟨ttOk, conNil⟩ (Checked.mixed Try.checked) ⟨Try.func148, by kernel_rfl, by kernel_rfl, by kernel_rfl, by kernel_rfl, by decide, by kernel_rfl, by kernel_rfl⟩ (fun _ => rfl)
end Go.Proofs.Ytpppnoliogdkiaa.P
set_option linter.unusedVariables false
namespace Go.Proofs.Ytpppnoliogdkiaa.P
open Go Go.RowKit Go.Proofs.Ytpppnoliogdkiaa.D
noncomputable def slices_Index_int64.E : Env := { tt := TT, con := [], frz := [], rows := [], live := [(2, [0, 1, 7, 8])], n := 19, pin := 0, nils := [] }
noncomputable def slices_Index_int64.fn : D.Fn := { body := Try.f183.body.getD .skip, res := Try.f183.results.toList, ins := [.one (.v (.sl 2 (.int .i64))), .one (.v (.int .i64))], outs := [.one (.v (.int .i64))] }
def slices_Index_int64.enc (y : lsd (flats slices_Index_int64.fn.outs) × lsd (ios slices_Index_int64.fn.ins)) : Int := y.1.1
noncomputable def slices_Index_int64.f (l0 : List Int) (a1 : Int) : Option Int := denF slices_Index_int64.E slices_Index_int64.fn slices_Index_int64.enc (l0, a1, ())
noncomputable def slices_Index_int64.l0 (x0 : List Int) (x1 : Int) (x7 : Int) (x8 : Int) : Option Int := denAt slices_Index_int64.E slices_Index_int64.fn slices_Index_int64.enc [1, 0, 1, 0] { fr := [(0, .lf (.sl (.int .i64) x0)), (1, .lf (.int .i64 x1)), (7, .lf (.int .i64 x7)), (8, .lf (.int .i64 x8))], ob := [], nx := 0 }
set_option maxRecDepth 100000 in
theorem slices_Index_int64.f_eq (l0 : List Int) (a1 : Int) : slices_Index_int64.f l0 a1 = slices_Index_int64.l0 l0 a1 (l0.length : Int) 0 := by kernel_rfl
set_option maxRecDepth 100000 in
theorem slices_Index_int64.l0_eq (x0 : List Int) (x1 : Int) (x7 : Int) (x8 : Int) : slices_Index_int64.l0 x0 x1 x7 x8 = if x8 < x7 then (if 0 ≤ x8 then (if x8 < (x0.length : Int) then (if x1 = (rd x0 x8) then (some x8) else (slices_Index_int64.l0 x0 x1 x7 (wrapI (x8 + 1)))) else none) else none) else (some (-1)) := (loop_unfold _ _ _ _).trans (by kernel_rfl)
noncomputable def slices_Index_int64.con : Con := ⟨slices_Index_int64.fn.ins, slices_Index_int64.fn.outs, Int, fun x => slices_Index_int64.f x.1 x.2.1, fun r => ((r, ()), (()))⟩
theorem slices_Index_int64.valid : Valid Try.prog 183 slices_Index_int64.con := fn_valid (f := slices_Index_int64.fn) (E := slices_Index_int64.E) (enc := slices_Index_int64.enc) ⟨ttOk, conNil⟩ (Checked.mixed Try.checked) ⟨Try.func183, by kernel_rfl, by kernel_rfl, by kernel_rfl, by kernel_rfl, by decide, by kernel_rfl, by kernel_rfl⟩ (fun _ => rfl)
end Go.Proofs.Ytpppnoliogdkiaa.P
set_option linter.unusedVariables false
namespace Go.Proofs.Ytpppnoliogdkiaa.P
open Go Go.RowKit Go.Proofs.Ytpppnoliogdkiaa.D
noncomputable def slices_Contains_int64.E : Env := { tt := TT, con := [(183, slices_Index_int64.con)], frz := [], rows := [], live := [], n := 9, pin := 0, nils := [] }
noncomputable def slices_Contains_int64.fn : D.Fn := { body := Try.f149.body.getD .skip, res := Try.f149.results.toList, ins := [.one (.v (.sl 2 (.int .i64))), .one (.v (.int .i64))], outs := [.one (.v .bool)] }
def slices_Contains_int64.enc (y : lsd (flats slices_Contains_int64.fn.outs) × lsd (ios slices_Contains_int64.fn.ins)) : Bool := y.1.1
noncomputable def slices_Contains_int64.f (l0 : List Int) (a1 : Int) : Option Bool := denF slices_Contains_int64.E slices_Contains_int64.fn slices_Contains_int64.enc (l0, a1, ())
set_option maxRecDepth 100000 in
theorem slices_Contains_int64.f_eq (l0 : List Int) (a1 : Int) : slices_Contains_int64.f l0 a1 = (slices_Index_int64.f l0 a1).bind fun t7 => some (decide (t7 ≥ 0)) := by kernel_rfl
noncomputable def slices_Contains_int64.con : Con := ⟨slices_Contains_int64.fn.ins, slices_Contains_int64.fn.outs, Bool, fun x => slices_Contains_int64.f x.1 x.2.1, fun r => ((r, ()), (()))⟩
theorem slices_Contains_int64.valid : Valid Try.prog 149 slices_Contains_int64.con := fn_valid (f := slices_Contains_int64.fn) (E := slices_Contains_int64.E) (enc := slices_Contains_int64.enc) ⟨ttOk, (conCons slices_Index_int64.valid conNil)⟩ (Checked.mixed Try.checked) ⟨Try.func149, by kernel_rfl, by kernel_rfl, by kernel_rfl, by kernel_rfl, by decide, by kernel_rfl, by kernel_rfl⟩ (fun _ => rfl)
end Go.Proofs.Ytpppnoliogdkiaa.P
set_option linter.unusedVariables false
namespace Go.Proofs.Ytpppnoliogdkiaa.P
open Go Go.RowKit Go.Proofs.Ytpppnoliogdkiaa.D
noncomputable def impl_IsGroup.E : Env := { tt := TT, con := [(134, impl_order.con), (148, impl_areIn.con), (149, slices_Contains_int64.con)], frz := [], rows := [], live := [(5, [1, 3, 18, 19, 20]), (11, [1, 3, 35, 36]), (16, [1, 3, 6, 35, 36, 68, 69]), (19, [1, 3, 6, 7, 35, 36, 68, 69, 72, 73])], n := 110, pin := 0, nils := [] }
noncomputable def impl_IsGroup.fn : D.Fn := { body := Try.f106.body.getD .skip, res := Try.f106.results.toList, ins := [.agg [.v (.sl 25 (.sl 2 (.int .i64)))]], outs := [.one (.v .bool)] }
def impl_IsGroup.enc (y : lsd (flats impl_IsGroup.fn.outs) × lsd (ios impl_IsGroup.fn.ins)) : Bool := y.1.1
noncomputable def impl_IsGroup.f (l0_0 : List (List Int)) : Option Bool := denF impl_IsGroup.E impl_IsGroup.fn impl_IsGroup.enc (l0_0, ())
noncomputable def impl_IsGroup.l0 (x3 : Int) (x18 : List (List Int)) (x19 : Int) (x20 : Int) (b0_0 : List (List Int)) : Option Bool := denAt impl_IsGroup.E impl_IsGroup.fn impl_IsGroup.enc [1, 1, 1, 0, 1, 0] { fr := [(1, .lf (.box 0 0)), (3, .lf (.int .i64 x3)), (18, .lf (.sl (.sl 2 (.int .i64)) x18)), (19, .lf (.int .i64 x19)), (20, .lf (.int .i64 x20))], ob := [(0, .box 32 false [.sl (.sl 2 (.int .i64)) b0_0])], nx := 1 }
noncomputable def impl_IsGroup.l1 (x3 : Int) (x35 : Int) (x36 : Int) (b0_0 : List (List Int)) : Option Bool := denAt impl_IsGroup.E impl_IsGroup.fn impl_IsGroup.enc [1, 1, 1, 1, 0, 1, 0] { fr := [(1, .lf (.box 0 0)), (3, .lf (.int .i64 x3)), (35, .lf (.int .i64 x35)), (36, .lf (.int .i64 x36))], ob := [(0, .box 32 false [.sl (.sl 2 (.int .i64)) b0_0])], nx := 1 }
noncomputable def impl_IsGroup.l2 (x3 : Int) (x6 : Int) (x35 : Int) (x36 : Int) (x68 : Int) (x69 : Int) (b0_0 : List (List Int)) : Option Bool := denAt impl_IsGroup.E impl_IsGroup.fn impl_IsGroup.enc [1, 1, 1, 1, 0, 1, 0, 0, 1, 1, 0, 0, 1, 1, 1, 0] { fr := [(1, .lf (.box 0 0)), (3, .lf (.int .i64 x3)), (6, .lf (.int .i64 x6)), (35, .lf (.int .i64 x35)), (36, .lf (.int .i64 x36)), (68, .lf (.int .i64 x68)), (69, .lf (.int .i64 x69))], ob := [(0, .box 32 false [.sl (.sl 2 (.int .i64)) b0_0])], nx := 1 }
noncomputable def impl_IsGroup.l3 (x3 : Int) (x6 : Int) (x7 : Int) (x35 : Int) (x36 : Int) (x68 : Int) (x69 : Int) (x72 : Int) (x73 : Int) (b0_0 : List (List Int)) : Option Bool := denAt impl_IsGroup.E impl_IsGroup.fn impl_IsGroup.enc [1, 1, 1, 1, 0, 1, 0, 0, 1, 1, 0, 0, 1, 1, 1, 0, 0, 1, 1, 0, 0, 1, 1, 0] { fr := [(1, .lf (.box 0 0)), (3, .lf (.int .i64 x3)), (6, .lf (.int .i64 x6)), (7, .lf (.int .i64 x7)), (35, .lf (.int .i64 x35)), (36, .lf (.int .i64 x36)), (68, .lf (.int .i64 x68)), (69, .lf (.int .i64 x69)), (72, .lf (.int .i64 x72)), (73, .lf (.int .i64 x73))], ob := [(0, .box 32 false [.sl (.sl 2 (.int .i64)) b0_0])], nx := 1 }
set_option maxRecDepth 100000 in
theorem impl_IsGroup.f_eq (l0_0 : List (List Int)) : impl_IsGroup.f l0_0 = (impl_order.f l0_0).bind fun t10 => if t10 < 1 then (some false) else (if t10 > 8 then (some false) else (impl_IsGroup.l0 t10 l0_0 (l0_0.length : Int) 0 l0_0)) := by kernel_rfl
set_option maxRecDepth 100000 in
theorem impl_IsGroup.l0_eq (x3 : Int) (x18 : List (List Int)) (x19 : Int) (x20 : Int) (b0_0 : List (List Int)) : impl_IsGroup.l0 x3 x18 x19 x20 b0_0 = if x20 < x19 then (if 0 ≤ x20 then (if x20 < (x18.length : Int) then (if ((row x18 x20).length : Int) = x3 then ((impl_areIn.f x3 (row x18 x20)).bind fun t31 => if t31 = true then (impl_IsGroup.l0 x3 x18 x19 (wrapI (x20 + 1)) b0_0) else (some false)) else (some false)) else none) else none) else (impl_IsGroup.l1 x3 x3 0 b0_0) := (loop_unfold _ _ _ _).trans (by kernel_rfl)
set_option maxRecDepth 100000 in
theorem impl_IsGroup.l1_eq (x3 : Int) (x35 : Int) (x36 : Int) (b0_0 : List (List Int)) : impl_IsGroup.l1 x3 x35 x36 b0_0 = if x36 < x35 then (if 0 < (b0_0.length : Int) then (if 0 ≤ x36 then (if x36 < ((row b0_0 0).length : Int) then (if (T b0_0 0 x36) = x36 then (if 0 ≤ x36 then (if x36 < (b0_0.length : Int) then (if 0 < ((row b0_0 x36).length : Int) then (if (T b0_0 x36 0) = x36 then (if 0 ≤ x36 then (if x36 < (b0_0.length : Int) then ((slices_Contains_int64.f (row b0_0 x36) 0).bind fun t65 => if t65 = true then (impl_IsGroup.l2 x3 x36 x35 x36 x3 0 b0_0) else (some false)) else none) else none) else (some false)) else none) else none) else none) else (some false)) else none) else none) else none) else (some true) := (loop_unfold _ _ _ _).trans (by kernel_rfl)
set_option maxRecDepth 100000 in
theorem impl_IsGroup.l2_eq (x3 : Int) (x6 : Int) (x35 : Int) (x36 : Int) (x68 : Int) (x69 : Int) (b0_0 : List (List Int)) : impl_IsGroup.l2 x3 x6 x35 x36 x68 x69 b0_0 = if x69 < x68 then (impl_IsGroup.l3 x3 x6 x69 x35 x36 x68 x69 x3 0 b0_0) else (impl_IsGroup.l1 x3 x35 (wrapI (x36 + 1)) b0_0) := (loop_unfold _ _ _ _).trans (by kernel_rfl)
set_option maxRecDepth 100000 in
theorem impl_IsGroup.l3_eq (x3 : Int) (x6 : Int) (x7 : Int) (x35 : Int) (x36 : Int) (x68 : Int) (x69 : Int) (x72 : Int) (x73 : Int) (b0_0 : List (List Int)) : impl_IsGroup.l3 x3 x6 x7 x35 x36 x68 x69 x72 x73 b0_0 = if x73 < x72 then (if 0 ≤ x6 then (if x6 < (b0_0.length : Int) then (if 0 ≤ x7 then (if x7 < ((row b0_0 x6).length : Int) then (if 0 ≤ T b0_0 x6 x7 then (if T b0_0 x6 x7 < (b0_0.length : Int) then (if 0 ≤ x73 then (if x73 < ((row b0_0 (T b0_0 x6 x7)).length : Int) then (if 0 ≤ x6 then (if x6 < (b0_0.length : Int) then (if 0 ≤ x7 then (if x7 < (b0_0.length : Int) then (if 0 ≤ x73 then (if x73 < ((row b0_0 x7).length : Int) then (if 0 ≤ T b0_0 x7 x73 then (if T b0_0 x7 x73 < ((row b0_0 x6).length : Int) then (if (T b0_0 (T b0_0 x6 x7) x73) = (T b0_0 x6 (T b0_0 x7 x73)) then (impl_IsGroup.l3 x3 x6 x7 x35 x36 x68 x69 x72 (wrapI (x73 + 1)) b0_0) else (some false)) else none) else none) else none) else none) else none) else none) else none) else none) else none) else none) else none) else none) else none) else none) else none) else none) else (impl_IsGroup.l2 x3 x6 x35 x36 x68 (wrapI (x69 + 1)) b0_0) := (loop_unfold _ _ _ _).trans (by kernel_rfl)
noncomputable def impl_IsGroup.con : Con := ⟨impl_IsGroup.fn.ins, impl_IsGroup.fn.outs, Bool, fun x => impl_IsGroup.f x.1, fun r => ((r, ()), (()))⟩
theorem impl_IsGroup.valid : Valid Try.prog 106 impl_IsGroup.con := fn_valid (f := impl_IsGroup.fn) (E := impl_IsGroup.E) (enc := impl_IsGroup.enc) ⟨ttOk, (conCons impl_order.valid (conCons impl_areIn.valid (conCons slices_Contains_int64.valid conNil)))⟩ (Checked.mixed Try.checked) ⟨Try.func106, by kernel_rfl, by kernel_rfl, by kernel_rfl, by kernel_rfl, by decide, by kernel_rfl, by kernel_rfl⟩ (fun _ => rfl)
end Go.Proofs.Ytpppnoliogdkiaa.P
set_option linter.unusedVariables false
namespace Go.Proofs.Ytpppnoliogdkiaa.P
open Go Go.RowKit Go.Proofs.Ytpppnoliogdkiaa.D
noncomputable def impl_isModulus.E : Env := { tt := TT, con := [], frz := [], rows := [], live := [], n := 9, pin := 0, nils := [] }
noncomputable def impl_isModulus.fn : D.Fn := { body := Try.f107.body.getD .skip, res := Try.f107.results.toList, ins := [.one (.v (.int .i64))], outs := [.one (.v .bool)] }
def impl_isModulus.enc (y : lsd (flats impl_isModulus.fn.outs) × lsd (ios impl_isModulus.fn.ins)) : Bool := y.1.1
noncomputable def impl_isModulus.f (a0 : Int) : Option Bool := denF impl_isModulus.E impl_isModulus.fn impl_isModulus.enc (a0, ())
set_option maxRecDepth 100000 in
theorem impl_isModulus.f_eq (a0 : Int) : impl_isModulus.f a0 = if a0 ≥ 2 then (some (decide (a0 ≤ 12))) else (some false) := by kernel_rfl
noncomputable def impl_isModulus.con : Con := ⟨impl_isModulus.fn.ins, impl_isModulus.fn.outs, Bool, fun x => impl_isModulus.f x.1, fun r => ((r, ()), (()))⟩
theorem impl_isModulus.valid : Valid Try.prog 107 impl_isModulus.con := fn_valid (f := impl_isModulus.fn) (E := impl_isModulus.E) (enc := impl_isModulus.enc) ⟨ttOk, conNil⟩ (Checked.mixed Try.checked) ⟨Try.func107, by kernel_rfl, by kernel_rfl, by kernel_rfl, by kernel_rfl, by decide, by kernel_rfl, by kernel_rfl⟩ (fun _ => rfl)
end Go.Proofs.Ytpppnoliogdkiaa.P
set_option linter.unusedVariables false
namespace Go.Proofs.Ytpppnoliogdkiaa.P
open Go Go.RowKit Go.Proofs.Ytpppnoliogdkiaa.D
noncomputable def impl_gcd.E : Env := { tt := TT, con := [], frz := [], rows := [], live := [(1, [0, 1])], n := 12, pin := 0, nils := [] }
noncomputable def impl_gcd.fn : D.Fn := { body := Try.f184.body.getD .skip, res := Try.f184.results.toList, ins := [.one (.v (.int .i64)), .one (.v (.int .i64))], outs := [.one (.v (.int .i64))] }
def impl_gcd.enc (y : lsd (flats impl_gcd.fn.outs) × lsd (ios impl_gcd.fn.ins)) : Int := y.1.1
noncomputable def impl_gcd.f (a0 : Int) (a1 : Int) : Option Int := denF impl_gcd.E impl_gcd.fn impl_gcd.enc (a0, a1, ())
noncomputable def impl_gcd.l0 (x0 : Int) (x1 : Int) : Option Int := denAt impl_gcd.E impl_gcd.fn impl_gcd.enc [1, 0, 0] { fr := [(0, .lf (.int .i64 x0)), (1, .lf (.int .i64 x1))], ob := [], nx := 0 }
set_option maxRecDepth 100000 in
theorem impl_gcd.f_eq (a0 : Int) (a1 : Int) : impl_gcd.f a0 a1 = impl_gcd.l0 a0 a1 := by kernel_rfl
set_option maxRecDepth 100000 in
theorem impl_gcd.l0_eq (x0 : Int) (x1 : Int) : impl_gcd.l0 x0 x1 = if x1 = 0 then (some x0) else (if x1 = 0 then none else (impl_gcd.l0 x1 ((x0 : Int).tmod x1))) := (loop_unfold _ _ _ _).trans (by kernel_rfl)
noncomputable def impl_gcd.con : Con := ⟨impl_gcd.fn.ins, impl_gcd.fn.outs, Int, fun x => impl_gcd.f x.1 x.2.1, fun r => ((r, ()), (()))⟩
theorem impl_gcd.valid : Valid Try.prog 184 impl_gcd.con := fn_valid (f := impl_gcd.fn) (E := impl_gcd.E) (enc := impl_gcd.enc) ⟨ttOk, conNil⟩ (Checked.mixed Try.checked) ⟨Try.func184, by kernel_rfl, by kernel_rfl, by kernel_rfl, by kernel_rfl, by decide, by kernel_rfl, by kernel_rfl⟩ (fun _ => rfl)
end Go.Proofs.Ytpppnoliogdkiaa.P
set_option linter.unusedVariables false
namespace Go.Proofs.Ytpppnoliogdkiaa.P
open Go Go.RowKit Go.Proofs.Ytpppnoliogdkiaa.D
noncomputable def impl_isUnit.E : Env := { tt := TT, con := [(184, impl_gcd.con)], frz := [], rows := [], live := [], n := 18, pin := 0, nils := [] }
noncomputable def impl_isUnit.fn : D.Fn := { body := Try.f152.body.getD .skip, res := Try.f152.results.toList, ins := [.one (.v (.int .i64)), .one (.v (.int .i64))], outs := [.one (.v .bool)] }
def impl_isUnit.enc (y : lsd (flats impl_isUnit.fn.outs) × lsd (ios impl_isUnit.fn.ins)) : Bool := y.1.1
noncomputable def impl_isUnit.f (a0 : Int) (a1 : Int) : Option Bool := denF impl_isUnit.E impl_isUnit.fn impl_isUnit.enc (a0, a1, ())
set_option maxRecDepth 100000 in
theorem impl_isUnit.f_eq (a0 : Int) (a1 : Int) : impl_isUnit.f a0 a1 = if a1 ≥ 1 then (if a1 < a0 then ((impl_gcd.f a0 a1).bind fun t15 => some (decide (t15 = 1))) else (some false)) else (some false) := by kernel_rfl
noncomputable def impl_isUnit.con : Con := ⟨impl_isUnit.fn.ins, impl_isUnit.fn.outs, Bool, fun x => impl_isUnit.f x.1 x.2.1, fun r => ((r, ()), (()))⟩
theorem impl_isUnit.valid : Valid Try.prog 152 impl_isUnit.con := fn_valid (f := impl_isUnit.fn) (E := impl_isUnit.E) (enc := impl_isUnit.enc) ⟨ttOk, (conCons impl_gcd.valid conNil)⟩ (Checked.mixed Try.checked) ⟨Try.func152, by kernel_rfl, by kernel_rfl, by kernel_rfl, by kernel_rfl, by decide, by kernel_rfl, by kernel_rfl⟩ (fun _ => rfl)
end Go.Proofs.Ytpppnoliogdkiaa.P
set_option linter.unusedVariables false
namespace Go.Proofs.Ytpppnoliogdkiaa.P
open Go Go.RowKit Go.Proofs.Ytpppnoliogdkiaa.D
noncomputable def impl_Group_times.E : Env := { tt := TT, con := [], frz := [], rows := [], live := [(3, [2, 5, 8, 9, 10])], n := 24, pin := 0, nils := [] }
noncomputable def impl_Group_times.fn : D.Fn := { body := Try.f153.body.getD .skip, res := Try.f153.results.toList, ins := [.agg [.v (.sl 25 (.sl 2 (.int .i64)))], .one (.v (.sl 2 (.int .i64)))], outs := [.one (.v (.int .i64))] }
def impl_Group_times.enc (y : lsd (flats impl_Group_times.fn.outs) × lsd (ios impl_Group_times.fn.ins)) : Int := y.1.1
noncomputable def impl_Group_times.f (l0_0 : List (List Int)) (l1 : List Int) : Option Int := denF impl_Group_times.E impl_Group_times.fn impl_Group_times.enc (l0_0, l1, ())
noncomputable def impl_Group_times.l0 (x5 : Int) (x8 : List Int) (x9 : Int) (x10 : Int) (b0_0 : List (List Int)) : Option Int := denAt impl_Group_times.E impl_Group_times.fn impl_Group_times.enc [1, 1, 0, 1, 0] { fr := [(2, .lf (.box 0 0)), (5, .lf (.int .i64 x5)), (8, .lf (.sl (.int .i64) x8)), (9, .lf (.int .i64 x9)), (10, .lf (.int .i64 x10))], ob := [(0, .box 32 false [.sl (.sl 2 (.int .i64)) b0_0])], nx := 1 }
set_option maxRecDepth 100000 in
theorem impl_Group_times.f_eq (l0_0 : List (List Int)) (l1 : List Int) : impl_Group_times.f l0_0 l1 = impl_Group_times.l0 0 l1 (l1.length : Int) 0 l0_0 := by kernel_rfl
set_option maxRecDepth 100000 in
theorem impl_Group_times.l0_eq (x5 : Int) (x8 : List Int) (x9 : Int) (x10 : Int) (b0_0 : List (List Int)) : impl_Group_times.l0 x5 x8 x9 x10 b0_0 = if x10 < x9 then (if 0 ≤ x10 then (if x10 < (x8.length : Int) then (if 0 ≤ x5 then (if x5 < (b0_0.length : Int) then (if 0 ≤ rd x8 x10 then (if rd x8 x10 < ((row b0_0 x5).length : Int) then (impl_Group_times.l0 (T b0_0 x5 (rd x8 x10)) x8 x9 (wrapI (x10 + 1)) b0_0) else none) else none) else none) else none) else none) else none) else (some x5) := (loop_unfold _ _ _ _).trans (by kernel_rfl)
noncomputable def impl_Group_times.con : Con := ⟨impl_Group_times.fn.ins, impl_Group_times.fn.outs, Int, fun x => impl_Group_times.f x.1 x.2.1, fun r => ((r, ()), (()))⟩
theorem impl_Group_times.valid : Valid Try.prog 153 impl_Group_times.con := fn_valid (f := impl_Group_times.fn) (E := impl_Group_times.E) (enc := impl_Group_times.enc) ⟨ttOk, conNil⟩ (Checked.mixed Try.checked) ⟨Try.func153, by kernel_rfl, by kernel_rfl, by kernel_rfl, by kernel_rfl, by decide, by kernel_rfl, by kernel_rfl⟩ (fun _ => rfl)
end Go.Proofs.Ytpppnoliogdkiaa.P
set_option linter.unusedVariables false
namespace Go.Proofs.Ytpppnoliogdkiaa.P
open Go Go.RowKit Go.Proofs.Ytpppnoliogdkiaa.D
noncomputable def impl_isModule.E : Env := { tt := TT, con := [(107, impl_isModulus.con), (134, impl_order.con), (152, impl_isUnit.con), (153, impl_Group_times.con)], frz := [], rows := [], live := [(4, [2, 3, 29, 30, 31]), (10, [2, 3, 42, 43]), (13, [2, 3, 7, 42, 43, 47, 48])], n := 77, pin := 0, nils := [] }
noncomputable def impl_isModule.fn : D.Fn := { body := Try.f151.body.getD .skip, res := Try.f151.results.toList, ins := [.agg [.v (.sl 25 (.sl 2 (.int .i64)))], .agg [.v (.int .i64), .v (.sl 2 (.int .i64))]], outs := [.one (.v .bool)] }
def impl_isModule.enc (y : lsd (flats impl_isModule.fn.outs) × lsd (ios impl_isModule.fn.ins)) : Bool := y.1.1
noncomputable def impl_isModule.f (l0_0 : List (List Int)) (a1_0 : Int) (l1_1 : List Int) : Option Bool := denF impl_isModule.E impl_isModule.fn impl_isModule.enc (l0_0, a1_0, l1_1, ())
noncomputable def impl_isModule.l0 (x29 : List Int) (x30 : Int) (x31 : Int) (b0_0 : List (List Int)) (b1_0 : Int) (b1_1 : List Int) : Option Bool := denAt impl_isModule.E impl_isModule.fn impl_isModule.enc [1, 1, 0, 1, 0] { fr := [(2, .lf (.box 0 0)), (3, .lf (.box 1 0)), (29, .lf (.sl (.int .i64) x29)), (30, .lf (.int .i64 x30)), (31, .lf (.int .i64 x31))], ob := [(0, .box 32 false [.sl (.sl 2 (.int .i64)) b0_0]), (1, .box 34 false [.int .i64 b1_0, .sl (.int .i64) b1_1])], nx := 2 }
noncomputable def impl_isModule.l1 (x42 : Int) (x43 : Int) (b0_0 : List (List Int)) (b1_0 : Int) (b1_1 : List Int) : Option Bool := denAt impl_isModule.E impl_isModule.fn impl_isModule.enc [1, 1, 1, 0, 1, 0] { fr := [(2, .lf (.box 0 0)), (3, .lf (.box 1 0)), (42, .lf (.int .i64 x42)), (43, .lf (.int .i64 x43))], ob := [(0, .box 32 false [.sl (.sl 2 (.int .i64)) b0_0]), (1, .box 34 false [.int .i64 b1_0, .sl (.int .i64) b1_1])], nx := 2 }
noncomputable def impl_isModule.l2 (x7 : Int) (x42 : Int) (x43 : Int) (x47 : Int) (x48 : Int) (b0_0 : List (List Int)) (b1_0 : Int) (b1_1 : List Int) : Option Bool := denAt impl_isModule.E impl_isModule.fn impl_isModule.enc [1, 1, 1, 0, 1, 0, 0, 1, 1, 0, 0, 1, 1, 0] { fr := [(2, .lf (.box 0 0)), (3, .lf (.box 1 0)), (7, .lf (.int .i64 x7)), (42, .lf (.int .i64 x42)), (43, .lf (.int .i64 x43)), (47, .lf (.int .i64 x47)), (48, .lf (.int .i64 x48))], ob := [(0, .box 32 false [.sl (.sl 2 (.int .i64)) b0_0]), (1, .box 34 false [.int .i64 b1_0, .sl (.int .i64) b1_1])], nx := 2 }
set_option maxRecDepth 100000 in
theorem impl_isModule.f_eq (l0_0 : List (List Int)) (a1_0 : Int) (l1_1 : List Int) : impl_isModule.f l0_0 a1_0 l1_1 = (impl_isModulus.f a1_0).bind fun t11 => if t11 = true then ((impl_order.f l0_0).bind fun t18 => if (l1_1.length : Int) = t18 then (if 0 < (l1_1.length : Int) then (if (rd l1_1 0) = 1 then (impl_isModule.l0 l1_1 (l1_1.length : Int) 0 l0_0 a1_0 l1_1) else (some false)) else none) else (some false)) else (some false) := by kernel_rfl
set_option maxRecDepth 100000 in
theorem impl_isModule.l0_eq (x29 : List Int) (x30 : Int) (x31 : Int) (b0_0 : List (List Int)) (b1_0 : Int) (b1_1 : List Int) : impl_isModule.l0 x29 x30 x31 b0_0 b1_0 b1_1 = if x31 < x30 then (if 0 ≤ x31 then (if x31 < (x29.length : Int) then ((impl_isUnit.f b1_0 (rd x29 x31)).bind fun t38 => if t38 = true then (impl_isModule.l0 x29 x30 (wrapI (x31 + 1)) b0_0 b1_0 b1_1) else (some false)) else none) else none) else ((impl_order.f b0_0).bind fun t42 => impl_isModule.l1 t42 0 b0_0 b1_0 b1_1) := (loop_unfold _ _ _ _).trans (by kernel_rfl)
set_option maxRecDepth 100000 in
theorem impl_isModule.l1_eq (x42 : Int) (x43 : Int) (b0_0 : List (List Int)) (b1_0 : Int) (b1_1 : List Int) : impl_isModule.l1 x42 x43 b0_0 b1_0 b1_1 = if x43 < x42 then ((impl_order.f b0_0).bind fun t47 => impl_isModule.l2 x43 x42 x43 t47 0 b0_0 b1_0 b1_1) else (some true) := (loop_unfold _ _ _ _).trans (by kernel_rfl)
set_option maxRecDepth 100000 in
theorem impl_isModule.l2_eq (x7 : Int) (x42 : Int) (x43 : Int) (x47 : Int) (x48 : Int) (b0_0 : List (List Int)) (b1_0 : Int) (b1_1 : List Int) : impl_isModule.l2 x7 x42 x43 x47 x48 b0_0 b1_0 b1_1 = if x48 < x47 then ((impl_Group_times.f b0_0 ([x7, x48] : List Int)).bind fun t57 => if 0 ≤ t57 then (if t57 < (b1_1.length : Int) then (if 0 ≤ x7 then (if x7 < (b1_1.length : Int) then (if 0 ≤ x48 then (if x48 < (b1_1.length : Int) then (if b1_0 = 0 then none else (if (rd b1_1 t57) = ((wrapI ((rd b1_1 x7) * (rd b1_1 x48)) : Int).tmod b1_0) then (impl_isModule.l2 x7 x42 x43 x47 (wrapI (x48 + 1)) b0_0 b1_0 b1_1) else (some false))) else none) else none) else none) else none) else none) else none) else (impl_isModule.l1 x42 (wrapI (x43 + 1)) b0_0 b1_0 b1_1) := (loop_unfold _ _ _ _).trans (by kernel_rfl)
noncomputable def impl_isModule.con : Con := ⟨impl_isModule.fn.ins, impl_isModule.fn.outs, Bool, fun x => impl_isModule.f x.1 x.2.1 x.2.2.1, fun r => ((r, ()), (()))⟩
theorem impl_isModule.valid : Valid Try.prog 151 impl_isModule.con := fn_valid (f := impl_isModule.fn) (E := impl_isModule.E) (enc := impl_isModule.enc) ⟨ttOk, (conCons impl_isModulus.valid (conCons impl_order.valid (conCons impl_isUnit.valid (conCons impl_Group_times.valid conNil))))⟩ (Checked.mixed Try.checked) ⟨Try.func151, by kernel_rfl, by kernel_rfl, by kernel_rfl, by kernel_rfl, by decide, by kernel_rfl, by kernel_rfl⟩ (fun _ => rfl)
end Go.Proofs.Ytpppnoliogdkiaa.P
set_option linter.unusedVariables false
namespace Go.Proofs.Ytpppnoliogdkiaa.P
open Go Go.RowKit Go.Proofs.Ytpppnoliogdkiaa.D
noncomputable def impl_areModules.E : Env := { tt := TT, con := [(106, impl_IsGroup.con), (151, impl_isModule.con)], frz := [], rows := [], live := [(2, [2, 7, 8, 9])], n := 23, pin := 0, nils := [] }
noncomputable def impl_areModules.fn : D.Fn := { body := Try.f154.body.getD .skip, res := Try.f154.results.toList, ins := [.agg [.v (.sl 25 (.sl 2 (.int .i64)))], .one (.v (.sl 34 (.pr (.int .i64) (.sl 2 (.int .i64)))))], outs := [.one (.v .bool)] }
def impl_areModules.enc (y : lsd (flats impl_areModules.fn.outs) × lsd (ios impl_areModules.fn.ins)) : Bool := y.1.1
noncomputable def impl_areModules.f (l0_0 : List (List Int)) (l1 : List (Int × (List Int))) : Option Bool := denF impl_areModules.E impl_areModules.fn impl_areModules.enc (l0_0, l1, ())
noncomputable def impl_areModules.l0 (x7 : List (Int × (List Int))) (x8 : Int) (x9 : Int) (b0_0 : List (List Int)) : Option Bool := denAt impl_areModules.E impl_areModules.fn impl_areModules.enc [1, 0, 1, 0] { fr := [(2, .lf (.box 0 0)), (7, .lf (.sl (.pr (.int .i64) (.sl 2 (.int .i64))) x7)), (8, .lf (.int .i64 x8)), (9, .lf (.int .i64 x9))], ob := [(0, .box 32 false [.sl (.sl 2 (.int .i64)) b0_0])], nx := 1 }
set_option maxRecDepth 100000 in
theorem impl_areModules.f_eq (l0_0 : List (List Int)) (l1 : List (Int × (List Int))) : impl_areModules.f l0_0 l1 = impl_areModules.l0 l1 (l1.length : Int) 0 l0_0 := by kernel_rfl
set_option maxRecDepth 100000 in
theorem impl_areModules.l0_eq (x7 : List (Int × (List Int))) (x8 : Int) (x9 : Int) (b0_0 : List (List Int)) : impl_areModules.l0 x7 x8 x9 b0_0 = if x9 < x8 then (if 0 ≤ x9 then (if x9 < (x7.length : Int) then ((impl_IsGroup.f b0_0).bind fun t14 => if t14 = true then ((impl_isModule.f b0_0 ((Ty.rd (.pr (.int .i64) (.sl 2 (.int .i64))) x7 x9).1) ((Ty.rd (.pr (.int .i64) (.sl 2 (.int .i64))) x7 x9).2)).bind fun t19 => if t19 = true then (impl_areModules.l0 x7 x8 (wrapI (x9 + 1)) b0_0) else (some false)) else (some false)) else none) else none) else (some true) := (loop_unfold _ _ _ _).trans (by kernel_rfl)
noncomputable def impl_areModules.con : Con := ⟨impl_areModules.fn.ins, impl_areModules.fn.outs, Bool, fun x => impl_areModules.f x.1 x.2.1, fun r => ((r, ()), (()))⟩
theorem impl_areModules.valid : Valid Try.prog 154 impl_areModules.con := fn_valid (f := impl_areModules.fn) (E := impl_areModules.E) (enc := impl_areModules.enc) ⟨ttOk, (conCons impl_IsGroup.valid (conCons impl_isModule.valid conNil))⟩ (Checked.mixed Try.checked) ⟨Try.func154, by kernel_rfl, by kernel_rfl, by kernel_rfl, by kernel_rfl, by decide, by kernel_rfl, by kernel_rfl⟩ (fun _ => rfl)
end Go.Proofs.Ytpppnoliogdkiaa.P
set_option linter.unusedVariables false
namespace Go.Proofs.Ytpppnoliogdkiaa.P
open Go Go.RowKit Go.Proofs.Ytpppnoliogdkiaa.D
noncomputable def impl_power.E : Env := { tt := TT, con := [], frz := [], rows := [], live := [(3, [0, 5, 6, 7])], n := 14, pin := 0, nils := [] }
noncomputable def impl_power.fn : D.Fn := { body := Try.f176.body.getD .skip, res := Try.f176.results.toList, ins := [.one (.v (.int .i64)), .one (.v (.int .i64))], outs := [.one (.v (.int .i64))] }
def impl_power.enc (y : lsd (flats impl_power.fn.outs) × lsd (ios impl_power.fn.ins)) : Int := y.1.1
noncomputable def impl_power.f (a0 : Int) (a1 : Int) : Option Int := denF impl_power.E impl_power.fn impl_power.enc (a0, a1, ())
noncomputable def impl_power.l0 (x0 : Int) (x5 : Int) (x6 : Int) (x7 : Int) : Option Int := denAt impl_power.E impl_power.fn impl_power.enc [1, 1, 0, 1, 0] { fr := [(0, .lf (.int .i64 x0)), (5, .lf (.int .i64 x5)), (6, .lf (.int .i64 x6)), (7, .lf (.int .i64 x7))], ob := [], nx := 0 }
set_option maxRecDepth 100000 in
theorem impl_power.f_eq (a0 : Int) (a1 : Int) : impl_power.f a0 a1 = impl_power.l0 a0 1 a1 0 := by kernel_rfl
set_option maxRecDepth 100000 in
theorem impl_power.l0_eq (x0 : Int) (x5 : Int) (x6 : Int) (x7 : Int) : impl_power.l0 x0 x5 x6 x7 = if x7 < x6 then (impl_power.l0 x0 (wrapI (x5 * x0)) x6 (wrapI (x7 + 1))) else (some x5) := (loop_unfold _ _ _ _).trans (by kernel_rfl)
noncomputable def impl_power.con : Con := ⟨impl_power.fn.ins, impl_power.fn.outs, Int, fun x => impl_power.f x.1 x.2.1, fun r => ((r, ()), (()))⟩
theorem impl_power.valid : Valid Try.prog 176 impl_power.con := fn_valid (f := impl_power.fn) (E := impl_power.E) (enc := impl_power.enc) ⟨ttOk, conNil⟩ (Checked.mixed Try.checked) ⟨Try.func176, by kernel_rfl, by kernel_rfl, by kernel_rfl, by kernel_rfl, by decide, by kernel_rfl, by kernel_rfl⟩ (fun _ => rfl)
end Go.Proofs.Ytpppnoliogdkiaa.P
set_option linter.unusedVariables false
namespace Go.Proofs.Ytpppnoliogdkiaa.P
open Go Go.RowKit Go.Proofs.Ytpppnoliogdkiaa.D
noncomputable def impl_cells.E : Env := { tt := TT, con := [(134, impl_order.con), (176, impl_power.con)], frz := [], rows := [], live := [], n := 10, pin := 0, nils := [] }
noncomputable def impl_cells.fn : D.Fn := { body := Try.f129.body.getD .skip, res := Try.f129.results.toList, ins := [.agg [.v (.sl 25 (.sl 2 (.int .i64)))], .one (.v (.int .i64))], outs := [.one (.v (.int .i64))] }
def impl_cells.enc (y : lsd (flats impl_cells.fn.outs) × lsd (ios impl_cells.fn.ins)) : Int := y.1.1
noncomputable def impl_cells.f (l0_0 : List (List Int)) (a1 : Int) : Option Int := denF impl_cells.E impl_cells.fn impl_cells.enc (l0_0, a1, ())
set_option maxRecDepth 100000 in
theorem impl_cells.f_eq (l0_0 : List (List Int)) (a1 : Int) : impl_cells.f l0_0 a1 = (impl_order.f l0_0).bind fun t6 => (impl_power.f (wrapI (t6 - 1)) a1).bind fun t9 => some t9 := by kernel_rfl
noncomputable def impl_cells.con : Con := ⟨impl_cells.fn.ins, impl_cells.fn.outs, Int, fun x => impl_cells.f x.1 x.2.1, fun r => ((r, ()), (()))⟩
theorem impl_cells.valid : Valid Try.prog 129 impl_cells.con := fn_valid (f := impl_cells.fn) (E := impl_cells.E) (enc := impl_cells.enc) ⟨ttOk, (conCons impl_order.valid (conCons impl_power.valid conNil))⟩ (Checked.mixed Try.checked) ⟨Try.func129, by kernel_rfl, by kernel_rfl, by kernel_rfl, by kernel_rfl, by decide, by kernel_rfl, by kernel_rfl⟩ (fun _ => rfl)
end Go.Proofs.Ytpppnoliogdkiaa.P
set_option linter.unusedVariables false
namespace Go.Proofs.Ytpppnoliogdkiaa.P
open Go Go.RowKit Go.Proofs.Ytpppnoliogdkiaa.D
noncomputable def impl_isDegree.E : Env := { tt := TT, con := [], frz := [], rows := [], live := [], n := 9, pin := 0, nils := [] }
noncomputable def impl_isDegree.fn : D.Fn := { body := Try.f155.body.getD .skip, res := Try.f155.results.toList, ins := [.one (.v (.int .i64))], outs := [.one (.v .bool)] }
def impl_isDegree.enc (y : lsd (flats impl_isDegree.fn.outs) × lsd (ios impl_isDegree.fn.ins)) : Bool := y.1.1
noncomputable def impl_isDegree.f (a0 : Int) : Option Bool := denF impl_isDegree.E impl_isDegree.fn impl_isDegree.enc (a0, ())
set_option maxRecDepth 100000 in
theorem impl_isDegree.f_eq (a0 : Int) : impl_isDegree.f a0 = if a0 ≥ 0 then (some (decide (a0 ≤ 3))) else (some false) := by kernel_rfl
noncomputable def impl_isDegree.con : Con := ⟨impl_isDegree.fn.ins, impl_isDegree.fn.outs, Bool, fun x => impl_isDegree.f x.1, fun r => ((r, ()), (()))⟩
theorem impl_isDegree.valid : Valid Try.prog 155 impl_isDegree.con := fn_valid (f := impl_isDegree.fn) (E := impl_isDegree.E) (enc := impl_isDegree.enc) ⟨ttOk, conNil⟩ (Checked.mixed Try.checked) ⟨Try.func155, by kernel_rfl, by kernel_rfl, by kernel_rfl, by kernel_rfl, by decide, by kernel_rfl, by kernel_rfl⟩ (fun _ => rfl)
end Go.Proofs.Ytpppnoliogdkiaa.P
set_option linter.unusedVariables false
namespace Go.Proofs.Ytpppnoliogdkiaa.P
open Go Go.RowKit Go.Proofs.Ytpppnoliogdkiaa.D
noncomputable def impl_isCochain.E : Env := { tt := TT, con := [(155, impl_isDegree.con), (129, impl_cells.con), (148, impl_areIn.con)], frz := [], rows := [], live := [], n := 27, pin := 0, nils := [] }
noncomputable def impl_isCochain.fn : D.Fn := { body := Try.f156.body.getD .skip, res := Try.f156.results.toList, ins := [.agg [.v (.sl 25 (.sl 2 (.int .i64)))], .agg [.v (.int .i64), .v (.sl 2 (.int .i64))], .agg [.v (.int .i64), .v (.sl 2 (.int .i64))]], outs := [.one (.v .bool)] }
def impl_isCochain.enc (y : lsd (flats impl_isCochain.fn.outs) × lsd (ios impl_isCochain.fn.ins)) : Bool := y.1.1
noncomputable def impl_isCochain.f (l0_0 : List (List Int)) (a1_0 : Int) (l1_1 : List Int) (a2_0 : Int) (l2_1 : List Int) : Option Bool := denF impl_isCochain.E impl_isCochain.fn impl_isCochain.enc (l0_0, a1_0, l1_1, a2_0, l2_1, ())
set_option maxRecDepth 100000 in
theorem impl_isCochain.f_eq (l0_0 : List (List Int)) (a1_0 : Int) (l1_1 : List Int) (a2_0 : Int) (l2_1 : List Int) : impl_isCochain.f l0_0 a1_0 l1_1 a2_0 l2_1 = (impl_isDegree.f a2_0).bind fun t9 => if t9 = true then ((impl_cells.f l0_0 a2_0).bind fun t17 => if (l2_1.length : Int) = t17 then ((impl_areIn.f a1_0 l2_1).bind fun t25 => some (decide (t25 = true))) else (some false)) else (some false) := by kernel_rfl
noncomputable def impl_isCochain.con : Con := ⟨impl_isCochain.fn.ins, impl_isCochain.fn.outs, Bool, fun x => impl_isCochain.f x.1 x.2.1 x.2.2.1 x.2.2.2.1 x.2.2.2.2.1, fun r => ((r, ()), (()))⟩
theorem impl_isCochain.valid : Valid Try.prog 156 impl_isCochain.con := fn_valid (f := impl_isCochain.fn) (E := impl_isCochain.E) (enc := impl_isCochain.enc) ⟨ttOk, (conCons impl_isDegree.valid (conCons impl_cells.valid (conCons impl_areIn.valid conNil)))⟩ (Checked.mixed Try.checked) ⟨Try.func156, by kernel_rfl, by kernel_rfl, by kernel_rfl, by kernel_rfl, by decide, by kernel_rfl, by kernel_rfl⟩ (fun _ => rfl)
end Go.Proofs.Ytpppnoliogdkiaa.P
set_option linter.unusedVariables false
namespace Go.Proofs.Ytpppnoliogdkiaa.P
open Go Go.RowKit Go.Proofs.Ytpppnoliogdkiaa.D
noncomputable def impl_cochainCode.E : Env := { tt := TT, con := [(154, impl_areModules.con), (156, impl_isCochain.con)], frz := [], rows := [11], live := [(4, [3, 4, 14, 15, 16])], n := 26, pin := 0, nils := [] }
noncomputable def impl_cochainCode.fn : D.Fn := { body := Try.f111.body.getD .skip, res := Try.f111.results.toList, ins := [.agg [.v (.sl 25 (.sl 2 (.int .i64)))], .agg [.v (.int .i64), .v (.sl 2 (.int .i64))], .one (.v (.sl 48 (.pr (.int .i64) (.sl 2 (.int .i64)))))], outs := [.one (.v (.int .i64))] }
def impl_cochainCode.enc (y : lsd (flats impl_cochainCode.fn.outs) × lsd (ios impl_cochainCode.fn.ins)) : Int := y.1.1
noncomputable def impl_cochainCode.f (l0_0 : List (List Int)) (a1_0 : Int) (l1_1 : List Int) (l2 : List (Int × (List Int))) : Option Int := denF impl_cochainCode.E impl_cochainCode.fn impl_cochainCode.enc (l0_0, a1_0, l1_1, l2, ())
noncomputable def impl_cochainCode.l0 (x14 : List (Int × (List Int))) (x15 : Int) (x16 : Int) (b0_0 : List (List Int)) (b1_0 : Int) (b1_1 : List Int) : Option Int := denAt impl_cochainCode.E impl_cochainCode.fn impl_cochainCode.enc [1, 1, 0, 1, 0] { fr := [(3, .lf (.box 0 0)), (4, .lf (.box 1 0)), (14, .lf (.sl (.pr (.int .i64) (.sl 2 (.int .i64))) x14)), (15, .lf (.int .i64 x15)), (16, .lf (.int .i64 x16))], ob := [(0, .box 32 false [.sl (.sl 2 (.int .i64)) b0_0]), (1, .box 34 false [.int .i64 b1_0, .sl (.int .i64) b1_1])], nx := 2 }
set_option maxRecDepth 100000 in
theorem impl_cochainCode.f_eq (l0_0 : List (List Int)) (a1_0 : Int) (l1_1 : List Int) (l2 : List (Int × (List Int))) : impl_cochainCode.f l0_0 a1_0 l1_1 l2 = (impl_areModules.f l0_0 ([(a1_0, l1_1)] : List (Int × (List Int)))).bind fun t12 => if t12 = true then (impl_cochainCode.l0 l2 (l2.length : Int) 0 l0_0 a1_0 l1_1) else (some 1) := by kernel_rfl
set_option maxRecDepth 100000 in
theorem impl_cochainCode.l0_eq (x14 : List (Int × (List Int))) (x15 : Int) (x16 : Int) (b0_0 : List (List Int)) (b1_0 : Int) (b1_1 : List Int) : impl_cochainCode.l0 x14 x15 x16 b0_0 b1_0 b1_1 = if x16 < x15 then (if 0 ≤ x16 then (if x16 < (x14.length : Int) then ((impl_isCochain.f b0_0 b1_0 b1_1 ((Ty.rd (.pr (.int .i64) (.sl 2 (.int .i64))) x14 x16).1) ((Ty.rd (.pr (.int .i64) (.sl 2 (.int .i64))) x14 x16).2)).bind fun t23 => if t23 = true then (impl_cochainCode.l0 x14 x15 (wrapI (x16 + 1)) b0_0 b1_0 b1_1) else (some 1)) else none) else none) else (some 0) := (loop_unfold _ _ _ _).trans (by kernel_rfl)
noncomputable def impl_cochainCode.con : Con := ⟨impl_cochainCode.fn.ins, impl_cochainCode.fn.outs, Int, fun x => impl_cochainCode.f x.1 x.2.1 x.2.2.1 x.2.2.2.1, fun r => ((r, ()), (()))⟩
theorem impl_cochainCode.valid : Valid Try.prog 111 impl_cochainCode.con := fn_valid (f := impl_cochainCode.fn) (E := impl_cochainCode.E) (enc := impl_cochainCode.enc) ⟨ttOk, (conCons impl_areModules.valid (conCons impl_isCochain.valid conNil))⟩ (Checked.mixed Try.checked) ⟨Try.func111, by kernel_rfl, by kernel_rfl, by kernel_rfl, by kernel_rfl, by decide, by kernel_rfl, by kernel_rfl⟩ (fun _ => rfl)
end Go.Proofs.Ytpppnoliogdkiaa.P
set_option linter.unusedVariables false
namespace Go.Proofs.Ytpppnoliogdkiaa.P
open Go Go.RowKit Go.Proofs.Ytpppnoliogdkiaa.D
noncomputable def impl_isRanked.E : Env := { tt := TT, con := [(129, impl_cells.con)], frz := [], rows := [], live := [], n := 9, pin := 0, nils := [] }
noncomputable def impl_isRanked.fn : D.Fn := { body := Try.f127.body.getD .skip, res := Try.f127.results.toList, ins := [.agg [.v (.sl 25 (.sl 2 (.int .i64)))], .one (.v (.int .i64))], outs := [.one (.v .bool)] }
def impl_isRanked.enc (y : lsd (flats impl_isRanked.fn.outs) × lsd (ios impl_isRanked.fn.ins)) : Bool := y.1.1
noncomputable def impl_isRanked.f (l0_0 : List (List Int)) (a1 : Int) : Option Bool := denF impl_isRanked.E impl_isRanked.fn impl_isRanked.enc (l0_0, a1, ())
set_option maxRecDepth 100000 in
theorem impl_isRanked.f_eq (l0_0 : List (List Int)) (a1 : Int) : impl_isRanked.f l0_0 a1 = (impl_cells.f l0_0 a1).bind fun t7 => some (decide (t7 ≤ 49)) := by kernel_rfl
noncomputable def impl_isRanked.con : Con := ⟨impl_isRanked.fn.ins, impl_isRanked.fn.outs, Bool, fun x => impl_isRanked.f x.1 x.2.1, fun r => ((r, ()), (()))⟩
theorem impl_isRanked.valid : Valid Try.prog 127 impl_isRanked.con := fn_valid (f := impl_isRanked.fn) (E := impl_isRanked.E) (enc := impl_isRanked.enc) ⟨ttOk, (conCons impl_cells.valid conNil)⟩ (Checked.mixed Try.checked) ⟨Try.func127, by kernel_rfl, by kernel_rfl, by kernel_rfl, by kernel_rfl, by decide, by kernel_rfl, by kernel_rfl⟩ (fun _ => rfl)
end Go.Proofs.Ytpppnoliogdkiaa.P
set_option linter.unusedVariables false
namespace Go.Proofs.Ytpppnoliogdkiaa.P
open Go Go.RowKit Go.Proofs.Ytpppnoliogdkiaa.D
noncomputable def impl_boundingCode.E : Env := { tt := TT, con := [(111, impl_cochainCode.con), (127, impl_isRanked.con)], frz := [], rows := [11], live := [], n := 21, pin := 0, nils := [] }
noncomputable def impl_boundingCode.fn : D.Fn := { body := Try.f87.body.getD .skip, res := Try.f87.results.toList, ins := [.agg [.v (.sl 25 (.sl 2 (.int .i64)))], .agg [.v (.int .i64), .v (.sl 2 (.int .i64))], .agg [.v (.int .i64), .v (.sl 2 (.int .i64))]], outs := [.one (.v (.int .i64))] }
def impl_boundingCode.enc (y : lsd (flats impl_boundingCode.fn.outs) × lsd (ios impl_boundingCode.fn.ins)) : Int := y.1.1
noncomputable def impl_boundingCode.f (l0_0 : List (List Int)) (a1_0 : Int) (l1_1 : List Int) (a2_0 : Int) (l2_1 : List Int) : Option Int := denF impl_boundingCode.E impl_boundingCode.fn impl_boundingCode.enc (l0_0, a1_0, l1_1, a2_0, l2_1, ())
set_option maxRecDepth 100000 in
theorem impl_boundingCode.f_eq (l0_0 : List (List Int)) (a1_0 : Int) (l1_1 : List Int) (a2_0 : Int) (l2_1 : List Int) : impl_boundingCode.f l0_0 a1_0 l1_1 a2_0 l2_1 = (impl_cochainCode.f l0_0 a1_0 l1_1 ([(a2_0, l2_1)] : List (Int × (List Int)))).bind fun t12 => if t12 = 0 then ((impl_isRanked.f l0_0 a2_0).bind fun t19 => if t19 = true then (some 0) else (some 3)) else (some t12) := by kernel_rfl
noncomputable def impl_boundingCode.con : Con := ⟨impl_boundingCode.fn.ins, impl_boundingCode.fn.outs, Int, fun x => impl_boundingCode.f x.1 x.2.1 x.2.2.1 x.2.2.2.1 x.2.2.2.2.1, fun r => ((r, ()), (()))⟩
theorem impl_boundingCode.valid : Valid Try.prog 87 impl_boundingCode.con := fn_valid (f := impl_boundingCode.fn) (E := impl_boundingCode.E) (enc := impl_boundingCode.enc) ⟨ttOk, (conCons impl_cochainCode.valid (conCons impl_isRanked.valid conNil))⟩ (Checked.mixed Try.checked) ⟨Try.func87, by kernel_rfl, by kernel_rfl, by kernel_rfl, by kernel_rfl, by decide, by kernel_rfl, by kernel_rfl⟩ (fun _ => rfl)
end Go.Proofs.Ytpppnoliogdkiaa.P
set_option linter.unusedVariables false
namespace Go.Proofs.Ytpppnoliogdkiaa.P
open Go Go.RowKit Go.Proofs.Ytpppnoliogdkiaa.D
noncomputable def slices_Grow_int64.E : Env := { tt := TT, con := [], frz := [], rows := [], live := [], n := 27, pin := 0, nils := [] }
noncomputable def slices_Grow_int64.fn : D.Fn := { body := Try.f137.body.getD .skip, res := Try.f137.results.toList, ins := [.non, .one (.v (.int .i64))], outs := [.one (.own 2 true (.int .i64))] }
def slices_Grow_int64.enc (y : lsd (flats slices_Grow_int64.fn.outs) × lsd (ios slices_Grow_int64.fn.ins)) : (List Int) := y.1.1
noncomputable def slices_Grow_int64.f (a1 : Int) : Option (List Int) := denF slices_Grow_int64.E slices_Grow_int64.fn slices_Grow_int64.enc (a1, ())
set_option maxRecDepth 100000 in
theorem slices_Grow_int64.f_eq (a1 : Int) : slices_Grow_int64.f a1 = if a1 < 0 then none else (if (wrapI (a1 - (wrapI (0 - 0)))) > 0 then (if 0 < wrapI (a1 - (wrapI (0 - 0))) then (if (wrapI (a1 - (wrapI (0 - 0))) : Int).toNat ≤ 17592186044416 then (if 0 < ((List.replicate (wrapI (a1 - (wrapI (0 - 0))) : Int).toNat (0 : Int)).length : Int) then (if 0 ≤ ((List.replicate (wrapI (a1 - (wrapI (0 - 0))) : Int).toNat (0 : Int)).length : Int) then (some ((List.replicate (wrapI (a1 - (wrapI (0 - 0))) : Int).toNat (0 : Int)).take (0 : Int).toNat)) else none) else none) else none) else none) else (some ([] : List Int))) := by kernel_rfl
noncomputable def slices_Grow_int64.con : Con := ⟨slices_Grow_int64.fn.ins, slices_Grow_int64.fn.outs, (List Int), fun x => slices_Grow_int64.f x.1, fun r => ((r, ()), (()))⟩
theorem slices_Grow_int64.valid : Valid Try.prog 137 slices_Grow_int64.con := fn_valid (f := slices_Grow_int64.fn) (E := slices_Grow_int64.E) (enc := slices_Grow_int64.enc) ⟨ttOk, conNil⟩ (Checked.mixed Try.checked) ⟨Try.func137, by kernel_rfl, by kernel_rfl, by kernel_rfl, by kernel_rfl, by decide, by kernel_rfl, by kernel_rfl⟩ (fun _ => rfl)
end Go.Proofs.Ytpppnoliogdkiaa.P
set_option linter.unusedVariables false
namespace Go.Proofs.Ytpppnoliogdkiaa.P
open Go Go.RowKit Go.Proofs.Ytpppnoliogdkiaa.D
noncomputable def slices_Concat_int64.E : Env := { tt := TT, con := [(137, slices_Grow_int64.con)], frz := [], rows := [], live := [(3, [0, 3, 9, 10, 11]), (11, [6, 25, 26, 27])], n := 36, pin := 0, nils := [] }
noncomputable def slices_Concat_int64.fn : D.Fn := { body := Try.f83.body.getD .skip, res := Try.f83.results.toList, ins := [.one (.v (.sl 25 (.sl 2 (.int .i64))))], outs := [.one (.own 2 true (.int .i64))] }
def slices_Concat_int64.enc (y : lsd (flats slices_Concat_int64.fn.outs) × lsd (ios slices_Concat_int64.fn.ins)) : (List Int) := y.1.1
noncomputable def slices_Concat_int64.f (l0 : List (List Int)) : Option (List Int) := denF slices_Concat_int64.E slices_Concat_int64.fn slices_Concat_int64.enc (l0, ())
noncomputable def slices_Concat_int64.l0 (x0 : List (List Int)) (x3 : Int) (x9 : List (List Int)) (x10 : Int) (x11 : Int) : Option (List Int) := denAt slices_Concat_int64.E slices_Concat_int64.fn slices_Concat_int64.enc [1, 1, 0, 1, 0] { fr := [(0, .lf (.sl (.sl 2 (.int .i64)) x0)), (3, .lf (.int .i64 x3)), (9, .lf (.sl (.sl 2 (.int .i64)) x9)), (10, .lf (.int .i64 x10)), (11, .lf (.int .i64 x11))], ob := [], nx := 0 }
noncomputable def slices_Concat_int64.l1 (x25 : List (List Int)) (x26 : Int) (x27 : Int) (r0 : List Int) : Option (List Int) := denAt slices_Concat_int64.E slices_Concat_int64.fn slices_Concat_int64.enc [1, 1, 1, 1, 0, 1, 0] { fr := [(6, .lf (.own 0)), (25, .lf (.sl (.sl 2 (.int .i64)) x25)), (26, .lf (.int .i64 x26)), (27, .lf (.int .i64 x27))], ob := [(0, .row 2 true (.int .i64) r0)], nx := 1 }
set_option maxRecDepth 100000 in
theorem slices_Concat_int64.f_eq (l0 : List (List Int)) : slices_Concat_int64.f l0 = slices_Concat_int64.l0 l0 0 l0 (l0.length : Int) 0 := by kernel_rfl
set_option maxRecDepth 100000 in
theorem slices_Concat_int64.l0_eq (x0 : List (List Int)) (x3 : Int) (x9 : List (List Int)) (x10 : Int) (x11 : Int) : slices_Concat_int64.l0 x0 x3 x9 x10 x11 = if x11 < x10 then (if 0 ≤ x11 then (if x11 < (x9.length : Int) then (if (wrapI (x3 + ((row x9 x11).length : Int))) < 0 then none else (slices_Concat_int64.l0 x0 (wrapI (x3 + ((row x9 x11).length : Int))) x9 x10 (wrapI (x11 + 1)))) else none) else none) else ((slices_Grow_int64.f x3).bind fun t24 => slices_Concat_int64.l1 x0 (x0.length : Int) 0 t24) := (loop_unfold _ _ _ _).trans (by kernel_rfl)
set_option maxRecDepth 100000 in
theorem slices_Concat_int64.l1_eq (x25 : List (List Int)) (x26 : Int) (x27 : Int) (r0 : List Int) : slices_Concat_int64.l1 x25 x26 x27 r0 = if x27 < x26 then (if 0 ≤ x27 then (if x27 < (x25.length : Int) then (if r0.length + (row x25 x27).length ≤ 17592186044416 then (slices_Concat_int64.l1 x25 x26 (wrapI (x27 + 1)) (r0 ++ (row x25 x27))) else none) else none) else none) else (some r0) := (loop_unfold _ _ _ _).trans (by kernel_rfl)
noncomputable def slices_Concat_int64.con : Con := ⟨slices_Concat_int64.fn.ins, slices_Concat_int64.fn.outs, (List Int), fun x => slices_Concat_int64.f x.1, fun r => ((r, ()), (()))⟩
theorem slices_Concat_int64.valid : Valid Try.prog 83 slices_Concat_int64.con := fn_valid (f := slices_Concat_int64.fn) (E := slices_Concat_int64.E) (enc := slices_Concat_int64.enc) ⟨ttOk, (conCons slices_Grow_int64.valid conNil)⟩ (Checked.mixed Try.checked) ⟨Try.func83, by kernel_rfl, by kernel_rfl, by kernel_rfl, by kernel_rfl, by decide, by kernel_rfl, by kernel_rfl⟩ (fun _ => rfl)
end Go.Proofs.Ytpppnoliogdkiaa.P
set_option linter.unusedVariables false
namespace Go.Proofs.Ytpppnoliogdkiaa.P
open Go Go.RowKit Go.Proofs.Ytpppnoliogdkiaa.D
noncomputable def slices_IndexFunc_int64.E : Env := { tt := TT, con := [], frz := [], rows := [], live := [(2, [0, 1, 7, 8])], n := 19, pin := 0, nils := [] }
noncomputable def slices_IndexFunc_int64.fn : D.Fn := { body := Try.f177.body.getD .skip, res := Try.f177.results.toList, ins := [.one (.v (.sl 2 (.int .i64))), .one (.fn [(.int .i64)] .bool)], outs := [.one (.v (.int .i64))] }
def slices_IndexFunc_int64.enc (y : lsd (flats slices_IndexFunc_int64.fn.outs) × lsd (ios slices_IndexFunc_int64.fn.ins)) : Int := y.1.1
noncomputable def slices_IndexFunc_int64.f (l0 : List Int) (f1 : Int → Option Bool) : Option Int := denF slices_IndexFunc_int64.E slices_IndexFunc_int64.fn slices_IndexFunc_int64.enc (l0, fun x => f1 x.1, ())
noncomputable def slices_IndexFunc_int64.l0 (x0 : List Int) (fx1 : Int → Option Bool) (x7 : Int) (x8 : Int) : Option Int := denAt slices_IndexFunc_int64.E slices_IndexFunc_int64.fn slices_IndexFunc_int64.enc [1, 0, 1, 0] { fr := [(0, .lf (.sl (.int .i64) x0)), (1, .lf (.fn [(.int .i64)] .bool (fun x => fx1 x.1))), (7, .lf (.int .i64 x7)), (8, .lf (.int .i64 x8))], ob := [], nx := 0 }
set_option maxRecDepth 100000 in
theorem slices_IndexFunc_int64.f_eq (l0 : List Int) (f1 : Int → Option Bool) : slices_IndexFunc_int64.f l0 f1 = slices_IndexFunc_int64.l0 l0 f1 (l0.length : Int) 0 := by kernel_rfl
set_option maxRecDepth 100000 in
theorem slices_IndexFunc_int64.l0_eq (x0 : List Int) (fx1 : Int → Option Bool) (x7 : Int) (x8 : Int) : slices_IndexFunc_int64.l0 x0 fx1 x7 x8 = if x8 < x7 then (if 0 ≤ x8 then (if x8 < (x0.length : Int) then ((fx1 (rd x0 x8)).bind fun t16 => if t16 = true then (some x8) else (slices_IndexFunc_int64.l0 x0 fx1 x7 (wrapI (x8 + 1)))) else none) else none) else (some (-1)) := (loop_unfold _ _ _ _).trans (by kernel_rfl)
noncomputable def slices_IndexFunc_int64.con : Con := ⟨slices_IndexFunc_int64.fn.ins, slices_IndexFunc_int64.fn.outs, Int, fun x => slices_IndexFunc_int64.f x.1 (fun z0 => x.2.1 (z0, ())), fun r => ((r, ()), (()))⟩
theorem slices_IndexFunc_int64.valid : Valid Try.prog 177 slices_IndexFunc_int64.con := fn_valid (f := slices_IndexFunc_int64.fn) (E := slices_IndexFunc_int64.E) (enc := slices_IndexFunc_int64.enc) ⟨ttOk, conNil⟩ (Checked.mixed Try.checked) ⟨Try.func177, by kernel_rfl, by kernel_rfl, by kernel_rfl, by kernel_rfl, by decide, by kernel_rfl, by kernel_rfl⟩ (fun _ => rfl)
end Go.Proofs.Ytpppnoliogdkiaa.P
set_option linter.unusedVariables false
namespace Go.Proofs.Ytpppnoliogdkiaa.P
open Go Go.RowKit Go.Proofs.Ytpppnoliogdkiaa.D
noncomputable def slices_ContainsFunc_int64.E : Env := { tt := TT, con := [(177, slices_IndexFunc_int64.con)], frz := [], rows := [], live := [], n := 9, pin := 0, nils := [] }
noncomputable def slices_ContainsFunc_int64.fn : D.Fn := { body := Try.f138.body.getD .skip, res := Try.f138.results.toList, ins := [.one (.v (.sl 2 (.int .i64))), .one (.fn [(.int .i64)] .bool)], outs := [.one (.v .bool)] }
def slices_ContainsFunc_int64.enc (y : lsd (flats slices_ContainsFunc_int64.fn.outs) × lsd (ios slices_ContainsFunc_int64.fn.ins)) : Bool := y.1.1
noncomputable def slices_ContainsFunc_int64.f (l0 : List Int) (f1 : Int → Option Bool) : Option Bool := denF slices_ContainsFunc_int64.E slices_ContainsFunc_int64.fn slices_ContainsFunc_int64.enc (l0, fun x => f1 x.1, ())
set_option maxRecDepth 100000 in
theorem slices_ContainsFunc_int64.f_eq (l0 : List Int) (f1 : Int → Option Bool) : slices_ContainsFunc_int64.f l0 f1 = (slices_IndexFunc_int64.f l0 (fun z0 => (f1 z0).map fun z => z)).bind fun t7 => some (decide (t7 ≥ 0)) := by kernel_rfl
noncomputable def slices_ContainsFunc_int64.con : Con := ⟨slices_ContainsFunc_int64.fn.ins, slices_ContainsFunc_int64.fn.outs, Bool, fun x => slices_ContainsFunc_int64.f x.1 (fun z0 => x.2.1 (z0, ())), fun r => ((r, ()), (()))⟩
theorem slices_ContainsFunc_int64.valid : Valid Try.prog 138 slices_ContainsFunc_int64.con := fn_valid (f := slices_ContainsFunc_int64.fn) (E := slices_ContainsFunc_int64.E) (enc := slices_ContainsFunc_int64.enc) ⟨ttOk, (conCons slices_IndexFunc_int64.valid conNil)⟩ (Checked.mixed Try.checked) ⟨Try.func138, by kernel_rfl, by kernel_rfl, by kernel_rfl, by kernel_rfl, by decide, by kernel_rfl, by kernel_rfl⟩ (fun _ => rfl)
end Go.Proofs.Ytpppnoliogdkiaa.P
set_option linter.unusedVariables false
namespace Go.Proofs.Ytpppnoliogdkiaa.P
open Go Go.RowKit Go.Proofs.Ytpppnoliogdkiaa.D
noncomputable def impl_isZero_1.E : Env := { tt := TT, con := [], frz := [], rows := [], live := [], n := 5, pin := 0, nils := [] }
noncomputable def impl_isZero_1.fn : D.Fn := { body := Try.f139.body.getD .skip, res := Try.f139.results.toList, ins := [.one (.v (.int .i64))], outs := [.one (.v .bool)] }
def impl_isZero_1.enc (y : lsd (flats impl_isZero_1.fn.outs) × lsd (ios impl_isZero_1.fn.ins)) : Bool := y.1.1
noncomputable def impl_isZero_1.f (a0 : Int) : Option Bool := denF impl_isZero_1.E impl_isZero_1.fn impl_isZero_1.enc (a0, ())
set_option maxRecDepth 100000 in
theorem impl_isZero_1.f_eq (a0 : Int) : impl_isZero_1.f a0 = some (!decide (a0 = 0)) := by kernel_rfl
noncomputable def impl_isZero_1.con : Con := ⟨impl_isZero_1.fn.ins, impl_isZero_1.fn.outs, Bool, fun x => impl_isZero_1.f x.1, fun r => ((r, ()), (()))⟩
theorem impl_isZero_1.valid : Valid Try.prog 139 impl_isZero_1.con := fn_valid (f := impl_isZero_1.fn) (E := impl_isZero_1.E) (enc := impl_isZero_1.enc) ⟨ttOk, conNil⟩ (Checked.mixed Try.checked) ⟨Try.func139, by kernel_rfl, by kernel_rfl, by kernel_rfl, by kernel_rfl, by decide, by kernel_rfl, by kernel_rfl⟩ (fun _ => rfl)
end Go.Proofs.Ytpppnoliogdkiaa.P
set_option linter.unusedVariables false
namespace Go.Proofs.Ytpppnoliogdkiaa.P
open Go Go.RowKit Go.Proofs.Ytpppnoliogdkiaa.D
noncomputable def impl_isZero.E : Env := { tt := TT, con := [(138, slices_ContainsFunc_int64.con), (139, impl_isZero_1.con)], frz := [], rows := [], live := [], n := 6, pin := 0, nils := [] }
noncomputable def impl_isZero.fn : D.Fn := { body := Try.f91.body.getD .skip, res := Try.f91.results.toList, ins := [.one (.v (.sl 2 (.int .i64)))], outs := [.one (.v .bool)] }
def impl_isZero.enc (y : lsd (flats impl_isZero.fn.outs) × lsd (ios impl_isZero.fn.ins)) : Bool := y.1.1
noncomputable def impl_isZero.f (l0 : List Int) : Option Bool := denF impl_isZero.E impl_isZero.fn impl_isZero.enc (l0, ())
set_option maxRecDepth 100000 in
theorem impl_isZero.f_eq (l0 : List Int) : impl_isZero.f l0 = (slices_ContainsFunc_int64.f l0 (fun z0 => (impl_isZero_1.f z0).map fun z => z)).bind fun t4 => some (!decide (t4 = true)) := by kernel_rfl
noncomputable def impl_isZero.con : Con := ⟨impl_isZero.fn.ins, impl_isZero.fn.outs, Bool, fun x => impl_isZero.f x.1, fun r => ((r, ()), (()))⟩
theorem impl_isZero.valid : Valid Try.prog 91 impl_isZero.con := fn_valid (f := impl_isZero.fn) (E := impl_isZero.E) (enc := impl_isZero.enc) ⟨ttOk, (conCons slices_ContainsFunc_int64.valid (conCons impl_isZero_1.valid conNil))⟩ (Checked.mixed Try.checked) ⟨Try.func91, by kernel_rfl, by kernel_rfl, by kernel_rfl, by kernel_rfl, by decide, by kernel_rfl, by kernel_rfl⟩ (fun _ => rfl)
end Go.Proofs.Ytpppnoliogdkiaa.P
set_option linter.unusedVariables false
namespace Go.Proofs.Ytpppnoliogdkiaa.P
open Go Go.RowKit Go.Proofs.Ytpppnoliogdkiaa.D
noncomputable def impl_span_combined.E : Env := { tt := TT, con := [], frz := [], rows := [], live := [(3, [0, 1, 3, 4, 11, 17, 18, 19])], n := 54, pin := 0, nils := [] }
noncomputable def impl_span_combined.fn : D.Fn := { body := Try.f179.body.getD .skip, res := Try.f179.results.toList, ins := [.ptr true 133 [.v (.int .i64), .v (.sl 25 (.sl 1000002 (.int .i64)))], .one (.v (.int .i64)), .one (.v (.sl 2 (.int .i64))), .one (.v (.int .i64)), .one (.v (.sl 2 (.int .i64)))], outs := [.one (.own 2 true (.int .i64))] }
def impl_span_combined.enc (y : lsd (flats impl_span_combined.fn.outs) × lsd (ios impl_span_combined.fn.ins)) : (List Int) := y.1.1
noncomputable def impl_span_combined.f (a0_0 : Int) (l0_1 : List (List Int)) (a1 : Int) (l2 : List Int) (a3 : Int) (l4 : List Int) : Option (List Int) := denF impl_span_combined.E impl_span_combined.fn impl_span_combined.enc (a0_0, l0_1, a1, l2, a3, l4, ())
noncomputable def impl_span_combined.l0 (x1 : Int) (x3 : Int) (x4 : List Int) (x17 : List Int) (x18 : Int) (x19 : Int) (b0_0 : Int) (b0_1 : List (List Int)) (r1 : List Int) : Option (List Int) := denAt impl_span_combined.E impl_span_combined.fn impl_span_combined.enc [1, 1, 0, 1, 0] { fr := [(0, .lf (.box 0 0)), (1, .lf (.int .i64 x1)), (3, .lf (.int .i64 x3)), (4, .lf (.sl (.int .i64) x4)), (11, .lf (.own 1)), (17, .lf (.sl (.int .i64) x17)), (18, .lf (.int .i64 x18)), (19, .lf (.int .i64 x19))], ob := [(0, .box 133 true [.int .i64 b0_0, .sl (.sl 1000002 (.int .i64)) b0_1]), (1, .row 2 true (.int .i64) r1)], nx := 2 }
set_option maxRecDepth 100000 in
theorem impl_span_combined.f_eq (a0_0 : Int) (l0_1 : List (List Int)) (a1 : Int) (l2 : List Int) (a3 : Int) (l4 : List Int) : impl_span_combined.f a0_0 l0_1 a1 l2 a3 l4 = if (l2.length : Int) = (l2.length : Int) then (if 0 ≤ (l2.length : Int) then (if ((l2.length : Int) : Int).toNat ≤ 17592186044416 then (impl_span_combined.l0 a1 a3 l4 l2 (l2.length : Int) 0 a0_0 l0_1 (List.replicate ((l2.length : Int) : Int).toNat (0 : Int))) else none) else none) else none := by kernel_rfl
set_option maxRecDepth 100000 in
theorem impl_span_combined.l0_eq (x1 : Int) (x3 : Int) (x4 : List Int) (x17 : List Int) (x18 : Int) (x19 : Int) (b0_0 : Int) (b0_1 : List (List Int)) (r1 : List Int) : impl_span_combined.l0 x1 x3 x4 x17 x18 x19 b0_0 b0_1 r1 = if x19 < x18 then (if 0 ≤ x19 then (if x19 < (x17.length : Int) then (if 0 ≤ x19 then (if x19 < (x4.length : Int) then (if b0_0 = 0 then none else (if b0_0 = 0 then none else (if 0 ≤ x19 then (if x19 < (r1.length : Int) then (if 0 ≤ x19 then (if x19 < (r1.length : Int) then (impl_span_combined.l0 x1 x3 x4 x17 x18 (wrapI (x19 + 1)) b0_0 b0_1 (r1.set (x19 : Int).toNat ((wrapI (((wrapI ((wrapI (x1 * (rd x17 x19))) + (wrapI (x3 * (rd x4 x19)))) : Int).tmod b0_0) + b0_0) : Int).tmod b0_0))) else none) else none) else none) else none))) else none) else none) else none) else none) else (some r1) := (loop_unfold _ _ _ _).trans (by kernel_rfl)
noncomputable def impl_span_combined.con : Con := ⟨impl_span_combined.fn.ins, impl_span_combined.fn.outs, (List Int), fun x => impl_span_combined.f x.1 x.2.1 x.2.2.1 x.2.2.2.1 x.2.2.2.2.1 x.2.2.2.2.2.1, fun r => ((r, ()), (()))⟩
theorem impl_span_combined.valid : Valid Try.prog 179 impl_span_combined.con := fn_valid (f := impl_span_combined.fn) (E := impl_span_combined.E) (enc := impl_span_combined.enc) ⟨ttOk, conNil⟩ (Checked.mixed Try.checked) ⟨Try.func179, by kernel_rfl, by kernel_rfl, by kernel_rfl, by kernel_rfl, by decide, by kernel_rfl, by kernel_rfl⟩ (fun _ => rfl)
end Go.Proofs.Ytpppnoliogdkiaa.P
set_option linter.unusedVariables false
namespace Go.Proofs.Ytpppnoliogdkiaa.P
open Go Go.RowKit Go.Proofs.Ytpppnoliogdkiaa.D
noncomputable def impl_span_rest.E : Env := { tt := TT, con := [(179, impl_span_combined.con)], frz := [], rows := [], live := [(3, [0, 1, 6, 18, 19, 20])], n := 51, pin := 1, nils := [] }
noncomputable def impl_span_rest.fn : D.Fn := { body := Try.f140.body.getD .skip, res := Try.f140.results.toList, ins := [.ptr false 133 [.v (.int .i64), .own 25 false (.sl 1000002 (.int .i64))], .eat 2 true (.int .i64)], outs := [.one (.own 2 true (.int .i64)), .one (.own 2 true (.int .i64))] }
def impl_span_rest.enc (y : lsd (flats impl_span_rest.fn.outs) × lsd (ios impl_span_rest.fn.ins)) : (List Int) × (List Int) × Int × (List (List Int)) := (y.1.1, y.1.2.1, y.2.1, y.2.2.1)
noncomputable def impl_span_rest.f (a0_0 : Int) (l0_1 : List (List Int)) (l1 : List Int) : Option ((List Int) × (List Int) × Int × (List (List Int))) := denF impl_span_rest.E impl_span_rest.fn impl_span_rest.enc (a0_0, l0_1, l1, ())
noncomputable def impl_span_rest.l0 (x19 : Int) (x20 : Int) (b0_0 : Int) (r1 : List (List Int)) (r2 : List Int) (r3 : List Int) : Option ((List Int) × (List Int) × Int × (List (List Int))) := denAt impl_span_rest.E impl_span_rest.fn impl_span_rest.enc [1, 1, 0, 1, 0] { fr := [(0, .lf (.box 0 0)), (1, .lf (.own 2)), (6, .lf (.own 3)), (18, .lf (.own 1)), (19, .lf (.int .i64 x19)), (20, .lf (.int .i64 x20))], ob := [(0, .box 133 false [.int .i64 b0_0, .own 1]), (1, .row 25 false (.sl 1000002 (.int .i64)) r1), (2, .row 2 true (.int .i64) r2), (3, .row 2 true (.int .i64) r3)], nx := 4 }
set_option maxRecDepth 100000 in
theorem impl_span_rest.f_eq (a0_0 : Int) (l0_1 : List (List Int)) (l1 : List Int) : impl_span_rest.f a0_0 l0_1 l1 = if (l0_1.length : Int) = (l0_1.length : Int) then (if 0 ≤ (l0_1.length : Int) then (if ((l0_1.length : Int) : Int).toNat ≤ 17592186044416 then (impl_span_rest.l0 (l0_1.length : Int) 0 a0_0 l0_1 l1 (List.replicate ((l0_1.length : Int) : Int).toNat (0 : Int))) else none) else none) else none := by kernel_rfl
set_option maxRecDepth 100000 in
theorem impl_span_rest.l0_eq (x19 : Int) (x20 : Int) (b0_0 : Int) (r1 : List (List Int)) (r2 : List Int) (r3 : List Int) : impl_span_rest.l0 x19 x20 b0_0 r1 r2 r3 = if x20 < x19 then (if 0 ≤ x20 then (if x20 < (r1.length : Int) then (if 0 ≤ x20 then (if x20 < (r1.length : Int) then (if (row r1 x20).length = 0 then (impl_span_rest.l0 x19 (wrapI (x20 + 1)) b0_0 r1 r2 r3) else (if 0 < (row r1 x20).length then (if 0 ≤ x20 then (if x20 < (r2.length : Int) then (if 0 ≤ x20 then (if x20 < (r2.length : Int) then (if 0 ≤ x20 then (if x20 < ((row r1 x20).length : Int) then (if (T r1 x20 x20) = 0 then none else (if 0 ≤ x20 then (if x20 < (r3.length : Int) then (if 0 ≤ x20 then (if x20 < (r3.length : Int) then (if 0 ≤ x20 then (if x20 < ((r3.set (x20 : Int).toNat (wrapI ((rd r2 x20 : Int).tdiv (T r1 x20 x20)))).length : Int) then (if 0 ≤ x20 then (if x20 < ((r3.set (x20 : Int).toNat (wrapI ((rd r2 x20 : Int).tdiv (T r1 x20 x20)))).length : Int) then ((impl_span_combined.f b0_0 r1 1 r2 (wrapI (0 - (rd (r3.set (x20 : Int).toNat (wrapI ((rd r2 x20 : Int).tdiv (T r1 x20 x20)))) x20))) (row r1 x20)).bind fun t47 => impl_span_rest.l0 x19 (wrapI (x20 + 1)) b0_0 r1 t47 (r3.set (x20 : Int).toNat (wrapI ((rd r2 x20 : Int).tdiv (T r1 x20 x20))))) else none) else none) else none) else none) else none) else none) else none) else none)) else none) else none) else none) else none) else none) else none) else none)) else none) else none) else none) else none) else (some (r2, r3, b0_0, r1)) := (loop_unfold _ _ _ _).trans (by kernel_rfl)
noncomputable def impl_span_rest.con : Con := ⟨impl_span_rest.fn.ins, impl_span_rest.fn.outs, (List Int) × (List Int) × Int × (List (List Int)), fun x => impl_span_rest.f x.1 x.2.1 x.2.2.1, fun r => ((r.1, r.2.1, ()), (r.2.2.1, r.2.2.2, ()))⟩
theorem impl_span_rest.valid : Valid Try.prog 140 impl_span_rest.con := fn_valid (f := impl_span_rest.fn) (E := impl_span_rest.E) (enc := impl_span_rest.enc) ⟨ttOk, (conCons impl_span_combined.valid conNil)⟩ (Checked.mixed Try.checked) ⟨Try.func140, by kernel_rfl, by kernel_rfl, by kernel_rfl, by kernel_rfl, by decide, by kernel_rfl, by kernel_rfl⟩ (fun _ => rfl)
end Go.Proofs.Ytpppnoliogdkiaa.P
set_option linter.unusedVariables false
namespace Go.Proofs.Ytpppnoliogdkiaa.D
open Go Go.RowKit
theorem valid_view {P : Program} {g : FuncId} {c : Con} (hv : Valid P g c) {x : lsd (flats c.ins)} {r : c.R} (hx : c.f x = some r) {w : World} {vs : List Value} (ha : ASRs P (fun _ => False) (fun k => k < w.heap.size) w c.ins x vs (fun _ => False)) :
    Calls P g vs.toArray w fun e w' => ∃ u, e = .returned u ∧ Below w.heap.size w w' ∧ ∃ Z' Fo us, u = outV us ∧ ASRs P (fun _ => False) Z' w' c.outs (c.dec r).1 us Fo := by
  refine (hv.2 x r hx (fun k => k < w.heap.size) (fun _ => False) (fun _ => False) w vs ha (fun _ h => h.elim) (fun _ h => h) (fun _ h => h.elim)).mono ?_
  rintro e w' ⟨u, rfl, Z', Fi, Fo, hp⟩
  obtain ⟨us, hu, ho⟩ := hp.out
  exact ⟨u, rfl, ⟨hp.os, hp.tape, hp.output, hp.size, fun k hk => hp.old k hk fun h => h⟩, Z', Fo, us, hu, ho⟩
theorem cell_lt {w : World} {a : Addr} {v : Value} (h : w.cell? a = some v) : a.block < w.heap.size := by
  unfold World.cell? at h
  cases hb : w.heap[a.block]? with
  | none => rw [hb] at h; cases h
  | some o => exact (Array.getElem?_eq_some_iff.1 hb).1
theorem view_raw {α : Type} {w : World} {sz : Nat} {R : α → List Value → Prop} {A : Option Addr} {c : Nat} {xs : List α} (hz : 0 < sz) (hc : xs.length ≤ c) (hm : xs.length ≤ 9223372036854775807)
    (h : 0 < xs.length → ∃ ad, A = some ad ∧ ∀ (j : Nat) (p : α), xs[j]? = some p → ∃ cs, cs.length = sz ∧ R p cs ∧ ∀ (i : Nat) (u : Value), cs[i]? = some u → w.cell? (ad.add (j * sz + i)) = some u) : ViewRep (fun k => k < w.heap.size) w sz R A c xs := by
  refine ⟨hc, hm, fun hl => ?_⟩
  obtain ⟨ad, rfl, hcell⟩ := h hl
  refine ⟨ad, rfl, ?_, hcell⟩
  obtain ⟨cs, h1, h2, h3⟩ := hcell 0 xs[0] (List.getElem?_eq_getElem hl)
  have := cell_lt (h3 0 cs[0] (List.getElem?_eq_getElem (by omega)))
  rwa [add_block] at this
theorem law_true {P : Program} {g : FuncId} {c : Con} (hv : Valid P g c) {x : lsd (flats c.ins)} {r : c.R} (hx : c.f x = some r) {w : World} {vs : List Value} (ha : ASRs P (fun _ => False) (fun k => k < w.heap.size) w c.ins x vs (fun _ => False)) (ho : c.outs = [.one (.v .bool)]) (hr : ∀ y : lsd (flats [.one (.v .bool)]), HEq y (c.dec r).1 → y.1 = true) :
    Calls P g vs.toArray w fun e w' => e = .returned (.bool true) ∧ Below w.heap.size w w' := by
  refine (valid_view hv hx ha).mono ?_
  rintro e w' ⟨u, rfl, hb, Z', Fo, us, rfl, hh⟩
  refine ⟨?_, hb⟩
  obtain ⟨ins, outs, R, f, dec⟩ := c
  have ho : outs = [.one (.v .bool)] := ho
  subst ho
  obtain ⟨v, vs', F0, F1, rfl, h1, h2, _⟩ := hh
  cases h2
  have h1 : [v] = [.bool (dec r).1.1] := h1
  have hb1 : (dec r).1.1 = true := hr _ HEq.rfl
  cases h1
  rw [hb1]
  rfl
end Go.Proofs.Ytpppnoliogdkiaa.D
