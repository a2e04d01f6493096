/- What the proof of the law ClassOfCrossed stands on, part 4: words, each Go function's Lean function, and that the Go code comes to its answers; no condition. (Packed by wip/myprint/pack.py out of what the kit's printer wrote, its words among it, partly by our patches of it, and out of texts of this session.) -/
import Derived.Test.YtpppnoliogdkiaaKClassOfCrossed3
set_option linter.unusedVariables false
namespace Go.Proofs.Ytpppnoliogdkiaa.P
open Go Go.RowKit Go.Proofs.Ytpppnoliogdkiaa.D
noncomputable def spec_l01Is.E : Env := { tt := TT, con := [(125, spec_l01In.con)], frz := [], rows := [], live := [(5, [1, 3, 4]), (10, [1, 3, 4, 5]), (15, [1, 3, 6]), (21, [1, 3, 6, 7, 8]), (25, [1, 3, 6, 7, 8, 9])], n := 137, pin := 0, nils := [7] }
noncomputable def spec_l01Is.fn : D.Fn := { body := Try.f116.body.getD .skip, res := Try.f116.results.toList, ins := [.agg [.v (.sl 25 (.sl 2 (.int .i64)))]], outs := [.one (.v .bool)] }
def spec_l01Is.enc (y : lsd (flats spec_l01Is.fn.outs) × lsd (ios spec_l01Is.fn.ins)) : Bool := y.1.1
noncomputable def spec_l01Is.f (l0_0 : List (List Int)) : Option Bool := denF spec_l01Is.E spec_l01Is.fn spec_l01Is.enc (l0_0, ())
noncomputable def spec_l01Is.l0 (x3 : Int) (x4 : Int) (b0_0 : List (List Int)) : Option Bool := denAt spec_l01Is.E spec_l01Is.fn spec_l01Is.enc [1, 1, 1, 0, 1, 0] { fr := [(1, .lf (.box 0 0)), (3, .lf (.int .i64 x3)), (4, .lf (.int .i64 x4))], ob := [(0, .box 32 false [.sl (.sl 2 (.int .i64)) b0_0])], nx := 1 }
noncomputable def spec_l01Is.l1 (x3 : Int) (x4 : Int) (x5 : Int) (b0_0 : List (List Int)) : Option Bool := denAt spec_l01Is.E spec_l01Is.fn spec_l01Is.enc [1, 1, 1, 0, 1, 0, 0, 1, 0, 0, 1, 1, 0] { fr := [(1, .lf (.box 0 0)), (3, .lf (.int .i64 x3)), (4, .lf (.int .i64 x4)), (5, .lf (.int .i64 x5))], ob := [(0, .box 32 false [.sl (.sl 2 (.int .i64)) b0_0])], nx := 1 }
noncomputable def spec_l01Is.l2 (x3 : Int) (x6 : Int) (b0_0 : List (List Int)) : Option Bool := denAt spec_l01Is.E spec_l01Is.fn spec_l01Is.enc [1, 1, 1, 1, 0, 1, 0] { fr := [(1, .lf (.box 0 0)), (3, .lf (.int .i64 x3)), (6, .lf (.int .i64 x6))], ob := [(0, .box 32 false [.sl (.sl 2 (.int .i64)) b0_0])], nx := 1 }
noncomputable def spec_l01Is.l3 (x3 : Int) (x6 : Int) (x7 : Bool) (x8 : Int) (b0_0 : List (List Int)) : Option Bool := denAt spec_l01Is.E spec_l01Is.fn spec_l01Is.enc [1, 1, 1, 1, 0, 1, 0, 0, 1, 0, 0, 1, 1, 0, 1, 0] { fr := [(1, .lf (.box 0 0)), (3, .lf (.int .i64 x3)), (6, .lf (.int .i64 x6)), (7, .lf (boolLf x7)), (8, .lf (.int .i64 x8))], ob := [(0, .box 32 false [.sl (.sl 2 (.int .i64)) b0_0])], nx := 1 }
noncomputable def spec_l01Is.l4 (x3 : Int) (x6 : Int) (x7 : Bool) (x8 : Int) (x9 : Int) (b0_0 : List (List Int)) : Option Bool := denAt spec_l01Is.E spec_l01Is.fn spec_l01Is.enc [1, 1, 1, 1, 0, 1, 0, 0, 1, 0, 0, 1, 1, 0, 1, 0, 0, 1, 0, 0, 1, 1, 0] { fr := [(1, .lf (.box 0 0)), (3, .lf (.int .i64 x3)), (6, .lf (.int .i64 x6)), (7, .lf (boolLf x7)), (8, .lf (.int .i64 x8)), (9, .lf (.int .i64 x9))], ob := [(0, .box 32 false [.sl (.sl 2 (.int .i64)) b0_0])], nx := 1 }
set_option maxRecDepth 100000 in
theorem spec_l01Is.f_eq (l0_0 : List (List Int)) : spec_l01Is.f l0_0 = (spec_l01In.f (l0_0.length : Int) 1 8).bind fun t14 => if t14 = true then (spec_l01Is.l0 (l0_0.length : Int) 0 l0_0) else (some false) := by kernel_rfl
set_option maxRecDepth 100000 in
theorem spec_l01Is.l0_eq (x3 : Int) (x4 : Int) (b0_0 : List (List Int)) : spec_l01Is.l0 x3 x4 b0_0 = if x4 < x3 then (if 0 ≤ x4 then (if x4 < (b0_0.length : Int) then (if ((row b0_0 x4).length : Int) = x3 then (spec_l01Is.l1 x3 x4 0 b0_0) else (some false)) else none) else none) else (spec_l01Is.l2 x3 0 b0_0) := (loop_unfold _ _ _ _).trans (by kernel_rfl)
set_option maxRecDepth 100000 in
theorem spec_l01Is.l1_eq (x3 : Int) (x4 : Int) (x5 : Int) (b0_0 : List (List Int)) : spec_l01Is.l1 x3 x4 x5 b0_0 = if x5 < x3 then (if 0 ≤ x4 then (if x4 < (b0_0.length : Int) then (if 0 ≤ x5 then (if x5 < ((row b0_0 x4).length : Int) then ((spec_l01In.f (T b0_0 x4 x5) 0 (wrapI (x3 - 1))).bind fun t44 => if t44 = true then (spec_l01Is.l1 x3 x4 (wrapI (x5 + 1)) b0_0) else (some false)) else none) else none) else none) else none) else (spec_l01Is.l0 x3 (wrapI (x4 + 1)) b0_0) := (loop_unfold _ _ _ _).trans (by kernel_rfl)
set_option maxRecDepth 100000 in
theorem spec_l01Is.l2_eq (x3 : Int) (x6 : Int) (b0_0 : List (List Int)) : spec_l01Is.l2 x3 x6 b0_0 = if x6 < x3 then (if 0 < (b0_0.length : Int) then (if 0 ≤ x6 then (if x6 < ((row b0_0 0).length : Int) then (if (T b0_0 0 x6) = x6 then (if 0 ≤ x6 then (if x6 < (b0_0.length : Int) then (if 0 < ((row b0_0 x6).length : Int) then (if (T b0_0 x6 0) = x6 then (spec_l01Is.l3 x3 x6 false 0 b0_0) else (some false)) else none) else none) else none) else (some false)) else none) else none) else none) else (some true) := (loop_unfold _ _ _ _).trans (by kernel_rfl)
set_option maxRecDepth 100000 in
theorem spec_l01Is.l3_eq (x3 : Int) (x6 : Int) (x7 : Bool) (x8 : Int) (b0_0 : List (List Int)) : spec_l01Is.l3 x3 x6 x7 x8 b0_0 = if x8 < x3 then (if x7 = true then (spec_l01Is.l4 x3 x6 true x8 0 b0_0) else (if 0 ≤ x6 then (if x6 < (b0_0.length : Int) then (if 0 ≤ x8 then (if x8 < ((row b0_0 x6).length : Int) then (if (T b0_0 x6 x8) = 0 then (if 0 ≤ x8 then (if x8 < (b0_0.length : Int) then (if 0 ≤ x6 then (if x6 < ((row b0_0 x8).length : Int) then (spec_l01Is.l4 x3 x6 (decide ((T b0_0 x8 x6) = 0)) x8 0 b0_0) else none) else none) else none) else none) else (spec_l01Is.l4 x3 x6 false x8 0 b0_0)) else none) else none) else none) else none)) else (if x7 = true then (spec_l01Is.l2 x3 (wrapI (x6 + 1)) b0_0) else (some false)) := (loop_unfold _ _ _ _).trans (by kernel_rfl)
set_option maxRecDepth 100000 in
theorem spec_l01Is.l4_eq (x3 : Int) (x6 : Int) (x7 : Bool) (x8 : Int) (x9 : Int) (b0_0 : List (List Int)) : spec_l01Is.l4 x3 x6 x7 x8 x9 b0_0 = if x9 < x3 then (if 0 ≤ x6 then (if x6 < (b0_0.length : Int) then (if 0 ≤ x8 then (if x8 < ((row b0_0 x6).length : Int) then (if 0 ≤ T b0_0 x6 x8 then (if T b0_0 x6 x8 < (b0_0.length : Int) then (if 0 ≤ x9 then (if x9 < ((row b0_0 (T b0_0 x6 x8)).length : Int) then (if 0 ≤ x6 then (if x6 < (b0_0.length : Int) then (if 0 ≤ x8 then (if x8 < (b0_0.length : Int) then (if 0 ≤ x9 then (if x9 < ((row b0_0 x8).length : Int) then (if 0 ≤ T b0_0 x8 x9 then (if T b0_0 x8 x9 < ((row b0_0 x6).length : Int) then (if (T b0_0 (T b0_0 x6 x8) x9) = (T b0_0 x6 (T b0_0 x8 x9)) then (spec_l01Is.l4 x3 x6 x7 x8 (wrapI (x9 + 1)) b0_0) else (some false)) else none) else none) else none) else none) else none) else none) else none) else none) else none) else none) else none) else none) else none) else none) else none) else none) else (spec_l01Is.l3 x3 x6 x7 (wrapI (x8 + 1)) b0_0) := (loop_unfold _ _ _ _).trans (by kernel_rfl)
noncomputable def spec_l01Is.con : Con := ⟨spec_l01Is.fn.ins, spec_l01Is.fn.outs, Bool, fun x => spec_l01Is.f x.1, fun r => ((r, ()), (()))⟩
theorem spec_l01Is.valid : Valid Try.prog 116 spec_l01Is.con := fn_valid (f := spec_l01Is.fn) (E := spec_l01Is.E) (enc := spec_l01Is.enc) ⟨ttOk, (conCons spec_l01In.valid conNil)⟩ (Checked.mixed Try.checked) ⟨Try.func116, by kernel_rfl, by kernel_rfl, by kernel_rfl, by kernel_rfl, by decide, by kernel_rfl, by kernel_rfl⟩ (fun _ => rfl)
end Go.Proofs.Ytpppnoliogdkiaa.P
set_option linter.unusedVariables false
namespace Go.Proofs.Ytpppnoliogdkiaa.P
open Go Go.RowKit Go.Proofs.Ytpppnoliogdkiaa.D
noncomputable def spec_l01Gcd.E : Env := { tt := TT, con := [], frz := [], rows := [], live := [(1, [0, 1])], n := 17, pin := 0, nils := [] }
noncomputable def spec_l01Gcd.fn : D.Fn := { body := Try.f163.body.getD .skip, res := Try.f163.results.toList, ins := [.one (.v (.int .i64)), .one (.v (.int .i64))], outs := [.one (.v (.int .i64))] }
def spec_l01Gcd.enc (y : lsd (flats spec_l01Gcd.fn.outs) × lsd (ios spec_l01Gcd.fn.ins)) : Int := y.1.1
noncomputable def spec_l01Gcd.f (a0 : Int) (a1 : Int) : Option Int := denF spec_l01Gcd.E spec_l01Gcd.fn spec_l01Gcd.enc (a0, a1, ())
noncomputable def spec_l01Gcd.l0 (x0 : Int) (x1 : Int) : Option Int := denAt spec_l01Gcd.E spec_l01Gcd.fn spec_l01Gcd.enc [1, 0, 0] { fr := [(0, .lf (.int .i64 x0)), (1, .lf (.int .i64 x1))], ob := [], nx := 0 }
set_option maxRecDepth 100000 in
theorem spec_l01Gcd.f_eq (a0 : Int) (a1 : Int) : spec_l01Gcd.f a0 a1 = spec_l01Gcd.l0 a0 a1 := by kernel_rfl
set_option maxRecDepth 100000 in
theorem spec_l01Gcd.l0_eq (x0 : Int) (x1 : Int) : spec_l01Gcd.l0 x0 x1 = if x1 = 0 then (some (if (wrapI (0 - x0)) > x0 then (wrapI (0 - x0)) else x0)) else (if x1 = 0 then none else (spec_l01Gcd.l0 x1 ((x0 : Int).tmod x1))) := (loop_unfold _ _ _ _).trans (by kernel_rfl)
noncomputable def spec_l01Gcd.con : Con := ⟨spec_l01Gcd.fn.ins, spec_l01Gcd.fn.outs, Int, fun x => spec_l01Gcd.f x.1 x.2.1, fun r => ((r, ()), (()))⟩
theorem spec_l01Gcd.valid : Valid Try.prog 163 spec_l01Gcd.con := fn_valid (f := spec_l01Gcd.fn) (E := spec_l01Gcd.E) (enc := spec_l01Gcd.enc) ⟨ttOk, conNil⟩ (Checked.mixed Try.checked) ⟨Try.func163, by kernel_rfl, by kernel_rfl, by kernel_rfl, by kernel_rfl, by decide, by kernel_rfl, by kernel_rfl⟩ (fun _ => rfl)
end Go.Proofs.Ytpppnoliogdkiaa.P
set_option linter.unusedVariables false
namespace Go.Proofs.Ytpppnoliogdkiaa.P
open Go Go.RowKit Go.Proofs.Ytpppnoliogdkiaa.D
noncomputable def spec_l02Is.E : Env := { tt := TT, con := [(125, spec_l01In.con), (163, spec_l01Gcd.con)], frz := [], rows := [], live := [(4, [2, 3, 5]), (9, [2, 3, 6]), (12, [2, 3, 6, 7])], n := 90, pin := 0, nils := [] }
noncomputable def spec_l02Is.fn : D.Fn := { body := Try.f117.body.getD .skip, res := Try.f117.results.toList, ins := [.agg [.v (.sl 25 (.sl 2 (.int .i64)))], .agg [.v (.int .i64), .v (.sl 2 (.int .i64))]], outs := [.one (.v .bool)] }
def spec_l02Is.enc (y : lsd (flats spec_l02Is.fn.outs) × lsd (ios spec_l02Is.fn.ins)) : Bool := y.1.1
noncomputable def spec_l02Is.f (l0_0 : List (List Int)) (a1_0 : Int) (l1_1 : List Int) : Option Bool := denF spec_l02Is.E spec_l02Is.fn spec_l02Is.enc (l0_0, a1_0, l1_1, ())
noncomputable def spec_l02Is.l0 (x5 : Int) (b0_0 : List (List Int)) (b1_0 : Int) (b1_1 : List Int) : Option Bool := denAt spec_l02Is.E spec_l02Is.fn spec_l02Is.enc [1, 1, 0, 1, 0] { fr := [(2, .lf (.box 0 0)), (3, .lf (.box 1 0)), (5, .lf (.int .i64 x5))], ob := [(0, .box 32 false [.sl (.sl 2 (.int .i64)) b0_0]), (1, .box 34 false [.int .i64 b1_0, .sl (.int .i64) b1_1])], nx := 2 }
noncomputable def spec_l02Is.l1 (x6 : Int) (b0_0 : List (List Int)) (b1_0 : Int) (b1_1 : List Int) : Option Bool := denAt spec_l02Is.E spec_l02Is.fn spec_l02Is.enc [1, 1, 1, 0, 1, 0] { fr := [(2, .lf (.box 0 0)), (3, .lf (.box 1 0)), (6, .lf (.int .i64 x6))], ob := [(0, .box 32 false [.sl (.sl 2 (.int .i64)) b0_0]), (1, .box 34 false [.int .i64 b1_0, .sl (.int .i64) b1_1])], nx := 2 }
noncomputable def spec_l02Is.l2 (x6 : Int) (x7 : Int) (b0_0 : List (List Int)) (b1_0 : Int) (b1_1 : List Int) : Option Bool := denAt spec_l02Is.E spec_l02Is.fn spec_l02Is.enc [1, 1, 1, 0, 1, 0, 0, 1, 0, 0, 1, 0] { fr := [(2, .lf (.box 0 0)), (3, .lf (.box 1 0)), (6, .lf (.int .i64 x6)), (7, .lf (.int .i64 x7))], ob := [(0, .box 32 false [.sl (.sl 2 (.int .i64)) b0_0]), (1, .box 34 false [.int .i64 b1_0, .sl (.int .i64) b1_1])], nx := 2 }
set_option maxRecDepth 100000 in
theorem spec_l02Is.f_eq (l0_0 : List (List Int)) (a1_0 : Int) (l1_1 : List Int) : spec_l02Is.f l0_0 a1_0 l1_1 = (spec_l01In.f a1_0 2 12).bind fun t10 => if t10 = true then (if (l1_1.length : Int) = (l0_0.length : Int) then (spec_l02Is.l0 0 l0_0 a1_0 l1_1) else (some false)) else (some false) := by kernel_rfl
set_option maxRecDepth 100000 in
theorem spec_l02Is.l0_eq (x5 : Int) (b0_0 : List (List Int)) (b1_0 : Int) (b1_1 : List Int) : spec_l02Is.l0 x5 b0_0 b1_0 b1_1 = if x5 < (b1_1.length : Int) then (if 0 ≤ x5 then (if x5 < (b1_1.length : Int) then ((spec_l01In.f (rd b1_1 x5) 1 (wrapI (b1_0 - 1))).bind fun t36 => if t36 = true then (if 0 ≤ x5 then (if x5 < (b1_1.length : Int) then ((spec_l01Gcd.f (rd b1_1 x5) b1_0).bind fun t46 => if t46 = 1 then (spec_l02Is.l0 (wrapI (x5 + 1)) b0_0 b1_0 b1_1) else (some false)) else none) else none) else (some false)) else none) else none) else (spec_l02Is.l1 0 b0_0 b1_0 b1_1) := (loop_unfold _ _ _ _).trans (by kernel_rfl)
set_option maxRecDepth 100000 in
theorem spec_l02Is.l1_eq (x6 : Int) (b0_0 : List (List Int)) (b1_0 : Int) (b1_1 : List Int) : spec_l02Is.l1 x6 b0_0 b1_0 b1_1 = if x6 < (b1_1.length : Int) then (spec_l02Is.l2 x6 0 b0_0 b1_0 b1_1) else (some true) := (loop_unfold _ _ _ _).trans (by kernel_rfl)
set_option maxRecDepth 100000 in
theorem spec_l02Is.l2_eq (x6 : Int) (x7 : Int) (b0_0 : List (List Int)) (b1_0 : Int) (b1_1 : List Int) : spec_l02Is.l2 x6 x7 b0_0 b1_0 b1_1 = if x7 < (b1_1.length : Int) then (if 0 ≤ x6 then (if x6 < (b0_0.length : Int) then (if 0 ≤ x7 then (if x7 < ((row b0_0 x6).length : Int) then (if 0 ≤ T b0_0 x6 x7 then (if T b0_0 x6 x7 < (b1_1.length : Int) then (if 0 ≤ x6 then (if x6 < (b1_1.length : Int) then (if 0 ≤ x7 then (if x7 < (b1_1.length : Int) then (if b1_0 = 0 then none else (if (rd b1_1 (T b0_0 x6 x7)) = ((wrapI ((rd b1_1 x6) * (rd b1_1 x7)) : Int).tmod b1_0) then (spec_l02Is.l2 x6 (wrapI (x7 + 1)) b0_0 b1_0 b1_1) else (some false))) else none) else none) else none) else none) else none) else none) else none) else none) else none) else none) else (spec_l02Is.l1 (wrapI (x6 + 1)) b0_0 b1_0 b1_1) := (loop_unfold _ _ _ _).trans (by kernel_rfl)
noncomputable def spec_l02Is.con : Con := ⟨spec_l02Is.fn.ins, spec_l02Is.fn.outs, Bool, fun x => spec_l02Is.f x.1 x.2.1 x.2.2.1, fun r => ((r, ()), (()))⟩
theorem spec_l02Is.valid : Valid Try.prog 117 spec_l02Is.con := fn_valid (f := spec_l02Is.fn) (E := spec_l02Is.E) (enc := spec_l02Is.enc) ⟨ttOk, (conCons spec_l01In.valid (conCons spec_l01Gcd.valid conNil))⟩ (Checked.mixed Try.checked) ⟨Try.func117, by kernel_rfl, by kernel_rfl, by kernel_rfl, by kernel_rfl, by decide, by kernel_rfl, by kernel_rfl⟩ (fun _ => rfl)
end Go.Proofs.Ytpppnoliogdkiaa.P
set_option linter.unusedVariables false
namespace Go.Proofs.Ytpppnoliogdkiaa.P
open Go Go.RowKit Go.Proofs.Ytpppnoliogdkiaa.D
noncomputable def spec_l05Numbers.E : Env := { tt := TT, con := [(125, spec_l01In.con)], frz := [], rows := [], live := [(2, [2, 3, 4, 7])], n := 29, pin := 0, nils := [] }
noncomputable def spec_l05Numbers.fn : D.Fn := { body := Try.f192.body.getD .skip, res := Try.f192.results.toList, ins := [.agg [.v (.sl 25 (.sl 2 (.int .i64)))], .agg [.v (.int .i64), .v (.sl 2 (.int .i64))], .one (.v (.sl 2 (.int .i64)))], outs := [.one (.v .bool)] }
def spec_l05Numbers.enc (y : lsd (flats spec_l05Numbers.fn.outs) × lsd (ios spec_l05Numbers.fn.ins)) : Bool := y.1.1
noncomputable def spec_l05Numbers.f (l0_0 : List (List Int)) (a1_0 : Int) (l1_1 : List Int) (l2 : List Int) : Option Bool := denF spec_l05Numbers.E spec_l05Numbers.fn spec_l05Numbers.enc (l0_0, a1_0, l1_1, l2, ())
noncomputable def spec_l05Numbers.l0 (x2 : List Int) (x7 : Int) (b0_0 : List (List Int)) (b1_0 : Int) (b1_1 : List Int) : Option Bool := denAt spec_l05Numbers.E spec_l05Numbers.fn spec_l05Numbers.enc [1, 0, 1, 0] { fr := [(2, .lf (.sl (.int .i64) x2)), (3, .lf (.box 0 0)), (4, .lf (.box 1 0)), (7, .lf (.int .i64 x7))], ob := [(0, .box 32 false [.sl (.sl 2 (.int .i64)) b0_0]), (1, .box 34 false [.int .i64 b1_0, .sl (.int .i64) b1_1])], nx := 2 }
set_option maxRecDepth 100000 in
theorem spec_l05Numbers.f_eq (l0_0 : List (List Int)) (a1_0 : Int) (l1_1 : List Int) (l2 : List Int) : spec_l05Numbers.f l0_0 a1_0 l1_1 l2 = spec_l05Numbers.l0 l2 0 l0_0 a1_0 l1_1 := by kernel_rfl
set_option maxRecDepth 100000 in
theorem spec_l05Numbers.l0_eq (x2 : List Int) (x7 : Int) (b0_0 : List (List Int)) (b1_0 : Int) (b1_1 : List Int) : spec_l05Numbers.l0 x2 x7 b0_0 b1_0 b1_1 = if x7 < (x2.length : Int) then (if 0 ≤ x7 then (if x7 < (x2.length : Int) then ((spec_l01In.f (rd x2 x7) 0 (wrapI (b1_0 - 1))).bind fun t21 => if t21 = true then (spec_l05Numbers.l0 x2 (wrapI (x7 + 1)) b0_0 b1_0 b1_1) else (some false)) else none) else none) else (some (decide ((x2.length : Int) = (b0_0.length : Int)))) := (loop_unfold _ _ _ _).trans (by kernel_rfl)
noncomputable def spec_l05Numbers.con : Con := ⟨spec_l05Numbers.fn.ins, spec_l05Numbers.fn.outs, Bool, fun x => spec_l05Numbers.f x.1 x.2.1 x.2.2.1 x.2.2.2.1, fun r => ((r, ()), (()))⟩
theorem spec_l05Numbers.valid : Valid Try.prog 192 spec_l05Numbers.con := fn_valid (f := spec_l05Numbers.fn) (E := spec_l05Numbers.E) (enc := spec_l05Numbers.enc) ⟨ttOk, (conCons spec_l01In.valid conNil)⟩ (Checked.mixed Try.checked) ⟨Try.func192, by kernel_rfl, by kernel_rfl, by kernel_rfl, by kernel_rfl, by decide, by kernel_rfl, by kernel_rfl⟩ (fun _ => rfl)
end Go.Proofs.Ytpppnoliogdkiaa.P
set_option linter.unusedVariables false
namespace Go.Proofs.Ytpppnoliogdkiaa.P
open Go Go.RowKit Go.Proofs.Ytpppnoliogdkiaa.D
noncomputable def spec_l05Code.E : Env := { tt := TT, con := [(116, spec_l01Is.con), (117, spec_l02Is.con), (192, spec_l05Numbers.con)], frz := [], rows := [], live := [], n := 23, pin := 0, nils := [] }
noncomputable def spec_l05Code.fn : D.Fn := { body := Try.f171.body.getD .skip, res := Try.f171.results.toList, ins := [.agg [.v (.sl 25 (.sl 2 (.int .i64)))], .agg [.v (.int .i64), .v (.sl 2 (.int .i64))], .one (.v (.sl 2 (.int .i64)))], outs := [.one (.v (.int .i64))] }
def spec_l05Code.enc (y : lsd (flats spec_l05Code.fn.outs) × lsd (ios spec_l05Code.fn.ins)) : Int := y.1.1
noncomputable def spec_l05Code.f (l0_0 : List (List Int)) (a1_0 : Int) (l1_1 : List Int) (l2 : List Int) : Option Int := denF spec_l05Code.E spec_l05Code.fn spec_l05Code.enc (l0_0, a1_0, l1_1, l2, ())
set_option maxRecDepth 100000 in
theorem spec_l05Code.f_eq (l0_0 : List (List Int)) (a1_0 : Int) (l1_1 : List Int) (l2 : List Int) : spec_l05Code.f l0_0 a1_0 l1_1 l2 = (spec_l01Is.f l0_0).bind fun t9 => if t9 = true then ((spec_l02Is.f l0_0 a1_0 l1_1).bind fun t14 => if t14 = true then ((spec_l05Numbers.f l0_0 a1_0 l1_1 l2).bind fun t21 => if t21 = true then (some 0) else (some 2)) else (some 1)) else (some 1) := by kernel_rfl
noncomputable def spec_l05Code.con : Con := ⟨spec_l05Code.fn.ins, spec_l05Code.fn.outs, Int, fun x => spec_l05Code.f x.1 x.2.1 x.2.2.1 x.2.2.2.1, fun r => ((r, ()), (()))⟩
theorem spec_l05Code.valid : Valid Try.prog 171 spec_l05Code.con := fn_valid (f := spec_l05Code.fn) (E := spec_l05Code.E) (enc := spec_l05Code.enc) ⟨ttOk, (conCons spec_l01Is.valid (conCons spec_l02Is.valid (conCons spec_l05Numbers.valid conNil)))⟩ (Checked.mixed Try.checked) ⟨Try.func171, by kernel_rfl, by kernel_rfl, by kernel_rfl, by kernel_rfl, by decide, by kernel_rfl, by kernel_rfl⟩ (fun _ => rfl)
end Go.Proofs.Ytpppnoliogdkiaa.P
set_option linter.unusedVariables false
namespace Go.Proofs.Ytpppnoliogdkiaa.P
open Go Go.RowKit Go.Proofs.Ytpppnoliogdkiaa.D
noncomputable def spec_l01Mod.E : Env := { tt := TT, con := [], frz := [], rows := [], live := [], n := 12, pin := 0, nils := [] }
noncomputable def spec_l01Mod.fn : D.Fn := { body := Try.f97.body.getD .skip, res := Try.f97.results.toList, ins := [.one (.v (.int .i64)), .one (.v (.int .i64))], outs := [.one (.v (.int .i64))] }
def spec_l01Mod.enc (y : lsd (flats spec_l01Mod.fn.outs) × lsd (ios spec_l01Mod.fn.ins)) : Int := y.1.1
noncomputable def spec_l01Mod.f (a0 : Int) (a1 : Int) : Option Int := denF spec_l01Mod.E spec_l01Mod.fn spec_l01Mod.enc (a0, a1, ())
set_option maxRecDepth 100000 in
theorem spec_l01Mod.f_eq (a0 : Int) (a1 : Int) : spec_l01Mod.f a0 a1 = if a1 = 0 then none else (if a1 = 0 then none else (some ((wrapI (((a0 : Int).tmod a1) + a1) : Int).tmod a1))) := by kernel_rfl
noncomputable def spec_l01Mod.con : Con := ⟨spec_l01Mod.fn.ins, spec_l01Mod.fn.outs, Int, fun x => spec_l01Mod.f x.1 x.2.1, fun r => ((r, ()), (()))⟩
theorem spec_l01Mod.valid : Valid Try.prog 97 spec_l01Mod.con := fn_valid (f := spec_l01Mod.fn) (E := spec_l01Mod.E) (enc := spec_l01Mod.enc) ⟨ttOk, conNil⟩ (Checked.mixed Try.checked) ⟨Try.func97, by kernel_rfl, by kernel_rfl, by kernel_rfl, by kernel_rfl, by decide, by kernel_rfl, by kernel_rfl⟩ (fun _ => rfl)
end Go.Proofs.Ytpppnoliogdkiaa.P
set_option linter.unusedVariables false
namespace Go.Proofs.Ytpppnoliogdkiaa.P
open Go Go.RowKit Go.Proofs.Ytpppnoliogdkiaa.D
noncomputable def spec_l01N.E : Env := { tt := TT, con := [], frz := [], rows := [], live := [], n := 6, pin := 0, nils := [] }
noncomputable def spec_l01N.fn : D.Fn := { body := Try.f131.body.getD .skip, res := Try.f131.results.toList, ins := [.agg [.v (.sl 25 (.sl 2 (.int .i64)))]], outs := [.one (.v (.int .i64))] }
def spec_l01N.enc (y : lsd (flats spec_l01N.fn.outs) × lsd (ios spec_l01N.fn.ins)) : Int := y.1.1
noncomputable def spec_l01N.f (l0_0 : List (List Int)) : Option Int := denF spec_l01N.E spec_l01N.fn spec_l01N.enc (l0_0, ())
set_option maxRecDepth 100000 in
theorem spec_l01N.f_eq (l0_0 : List (List Int)) : spec_l01N.f l0_0 = some (l0_0.length : Int) := by kernel_rfl
noncomputable def spec_l01N.con : Con := ⟨spec_l01N.fn.ins, spec_l01N.fn.outs, Int, fun x => spec_l01N.f x.1, fun r => ((r, ()), (()))⟩
theorem spec_l01N.valid : Valid Try.prog 131 spec_l01N.con := fn_valid (f := spec_l01N.fn) (E := spec_l01N.E) (enc := spec_l01N.enc) ⟨ttOk, conNil⟩ (Checked.mixed Try.checked) ⟨Try.func131, by kernel_rfl, by kernel_rfl, by kernel_rfl, by kernel_rfl, by decide, by kernel_rfl, by kernel_rfl⟩ (fun _ => rfl)
end Go.Proofs.Ytpppnoliogdkiaa.P
set_option linter.unusedVariables false
namespace Go.Proofs.Ytpppnoliogdkiaa.P
open Go Go.RowKit Go.Proofs.Ytpppnoliogdkiaa.D
noncomputable def spec_l05Crossed.E : Env := { tt := TT, con := [(131, spec_l01N.con), (97, spec_l01Mod.con)], frz := [], rows := [], live := [(2, [2, 3, 4, 7]), (5, [2, 3, 4, 7, 8])], n := 51, pin := 0, nils := [] }
noncomputable def spec_l05Crossed.fn : D.Fn := { body := Try.f172.body.getD .skip, res := Try.f172.results.toList, ins := [.agg [.v (.sl 25 (.sl 2 (.int .i64)))], .agg [.v (.int .i64), .v (.sl 2 (.int .i64))], .one (.v (.sl 2 (.int .i64)))], outs := [.one (.v .bool)] }
def spec_l05Crossed.enc (y : lsd (flats spec_l05Crossed.fn.outs) × lsd (ios spec_l05Crossed.fn.ins)) : Bool := y.1.1
noncomputable def spec_l05Crossed.f (l0_0 : List (List Int)) (a1_0 : Int) (l1_1 : List Int) (l2 : List Int) : Option Bool := denF spec_l05Crossed.E spec_l05Crossed.fn spec_l05Crossed.enc (l0_0, a1_0, l1_1, l2, ())
noncomputable def spec_l05Crossed.l0 (x2 : List Int) (x7 : Int) (b0_0 : List (List Int)) (b1_0 : Int) (b1_1 : List Int) : Option Bool := denAt spec_l05Crossed.E spec_l05Crossed.fn spec_l05Crossed.enc [1, 0, 1, 0] { fr := [(2, .lf (.sl (.int .i64) x2)), (3, .lf (.box 0 0)), (4, .lf (.box 1 0)), (7, .lf (.int .i64 x7))], ob := [(0, .box 32 false [.sl (.sl 2 (.int .i64)) b0_0]), (1, .box 34 false [.int .i64 b1_0, .sl (.int .i64) b1_1])], nx := 2 }
noncomputable def spec_l05Crossed.l1 (x2 : List Int) (x7 : Int) (x8 : Int) (b0_0 : List (List Int)) (b1_0 : Int) (b1_1 : List Int) : Option Bool := denAt spec_l05Crossed.E spec_l05Crossed.fn spec_l05Crossed.enc [1, 0, 1, 0, 0, 1, 0, 0, 1, 0] { fr := [(2, .lf (.sl (.int .i64) x2)), (3, .lf (.box 0 0)), (4, .lf (.box 1 0)), (7, .lf (.int .i64 x7)), (8, .lf (.int .i64 x8))], ob := [(0, .box 32 false [.sl (.sl 2 (.int .i64)) b0_0]), (1, .box 34 false [.int .i64 b1_0, .sl (.int .i64) b1_1])], nx := 2 }
set_option maxRecDepth 100000 in
theorem spec_l05Crossed.f_eq (l0_0 : List (List Int)) (a1_0 : Int) (l1_1 : List Int) (l2 : List Int) : spec_l05Crossed.f l0_0 a1_0 l1_1 l2 = spec_l05Crossed.l0 l2 0 l0_0 a1_0 l1_1 := by kernel_rfl
set_option maxRecDepth 100000 in
theorem spec_l05Crossed.l0_eq (x2 : List Int) (x7 : Int) (b0_0 : List (List Int)) (b1_0 : Int) (b1_1 : List Int) : spec_l05Crossed.l0 x2 x7 b0_0 b1_0 b1_1 = (spec_l01N.f b0_0).bind fun t11 => if x7 < t11 then (spec_l05Crossed.l1 x2 x7 0 b0_0 b1_0 b1_1) else (some true) := (loop_unfold _ _ _ _).trans (by kernel_rfl)
set_option maxRecDepth 100000 in
theorem spec_l05Crossed.l1_eq (x2 : List Int) (x7 : Int) (x8 : Int) (b0_0 : List (List Int)) (b1_0 : Int) (b1_1 : List Int) : spec_l05Crossed.l1 x2 x7 x8 b0_0 b1_0 b1_1 = (spec_l01N.f b0_0).bind fun t17 => if x8 < t17 then (if 0 ≤ x7 then (if x7 < (b0_0.length : Int) then (if 0 ≤ x8 then (if x8 < ((row b0_0 x7).length : Int) then (if 0 ≤ T b0_0 x7 x8 then (if T b0_0 x7 x8 < (x2.length : Int) then (if 0 ≤ x7 then (if x7 < (x2.length : Int) then (if 0 ≤ x7 then (if x7 < (b1_1.length : Int) then (if 0 ≤ x8 then (if x8 < (x2.length : Int) then ((spec_l01Mod.f (wrapI ((rd x2 x7) + (wrapI ((rd b1_1 x7) * (rd x2 x8))))) b1_0).bind fun t49 => if (rd x2 (T b0_0 x7 x8)) = t49 then (spec_l05Crossed.l1 x2 x7 (wrapI (x8 + 1)) b0_0 b1_0 b1_1) else (some false)) else none) else none) else none) else none) else none) else none) else none) else none) else none) else none) else none) else none) else (spec_l05Crossed.l0 x2 (wrapI (x7 + 1)) b0_0 b1_0 b1_1) := (loop_unfold _ _ _ _).trans (by kernel_rfl)
noncomputable def spec_l05Crossed.con : Con := ⟨spec_l05Crossed.fn.ins, spec_l05Crossed.fn.outs, Bool, fun x => spec_l05Crossed.f x.1 x.2.1 x.2.2.1 x.2.2.2.1, fun r => ((r, ()), (()))⟩
theorem spec_l05Crossed.valid : Valid Try.prog 172 spec_l05Crossed.con := fn_valid (f := spec_l05Crossed.fn) (E := spec_l05Crossed.E) (enc := spec_l05Crossed.enc) ⟨ttOk, (conCons spec_l01N.valid (conCons spec_l01Mod.valid conNil))⟩ (Checked.mixed Try.checked) ⟨Try.func172, by kernel_rfl, by kernel_rfl, by kernel_rfl, by kernel_rfl, by decide, by kernel_rfl, by kernel_rfl⟩ (fun _ => rfl)
end Go.Proofs.Ytpppnoliogdkiaa.P
set_option linter.unusedVariables false
namespace Go.Proofs.Ytpppnoliogdkiaa.P
open Go Go.RowKit Go.Proofs.Ytpppnoliogdkiaa.D
noncomputable def spec_l05Given.E : Env := { tt := TT, con := [(171, spec_l05Code.con), (172, spec_l05Crossed.con)], frz := [], rows := [], live := [], n := 22, pin := 0, nils := [] }
noncomputable def spec_l05Given.fn : D.Fn := { body := Try.f121.body.getD .skip, res := Try.f121.results.toList, ins := [.agg [.v (.sl 25 (.sl 2 (.int .i64)))], .agg [.v (.int .i64), .v (.sl 2 (.int .i64))], .one (.v (.sl 2 (.int .i64)))], outs := [.one (.v (.int .i64))] }
def spec_l05Given.enc (y : lsd (flats spec_l05Given.fn.outs) × lsd (ios spec_l05Given.fn.ins)) : Int := y.1.1
noncomputable def spec_l05Given.f (l0_0 : List (List Int)) (a1_0 : Int) (l1_1 : List Int) (l2 : List Int) : Option Int := denF spec_l05Given.E spec_l05Given.fn spec_l05Given.enc (l0_0, a1_0, l1_1, l2, ())
set_option maxRecDepth 100000 in
theorem spec_l05Given.f_eq (l0_0 : List (List Int)) (a1_0 : Int) (l1_1 : List Int) (l2 : List Int) : spec_l05Given.f l0_0 a1_0 l1_1 l2 = (spec_l05Code.f l0_0 a1_0 l1_1 l2).bind fun t11 => if t11 = 0 then ((spec_l05Crossed.f l0_0 a1_0 l1_1 l2).bind fun t18 => if t18 = true then (some t11) else (some 5)) else (some t11) := by kernel_rfl
noncomputable def spec_l05Given.con : Con := ⟨spec_l05Given.fn.ins, spec_l05Given.fn.outs, Int, fun x => spec_l05Given.f x.1 x.2.1 x.2.2.1 x.2.2.2.1, fun r => ((r, ()), (()))⟩
theorem spec_l05Given.valid : Valid Try.prog 121 spec_l05Given.con := fn_valid (f := spec_l05Given.fn) (E := spec_l05Given.E) (enc := spec_l05Given.enc) ⟨ttOk, (conCons spec_l05Code.valid (conCons spec_l05Crossed.valid conNil))⟩ (Checked.mixed Try.checked) ⟨Try.func121, by kernel_rfl, by kernel_rfl, by kernel_rfl, by kernel_rfl, by decide, by kernel_rfl, by kernel_rfl⟩ (fun _ => rfl)
end Go.Proofs.Ytpppnoliogdkiaa.P
set_option linter.unusedVariables false
namespace Go.Proofs.Ytpppnoliogdkiaa.P
open Go Go.RowKit Go.Proofs.Ytpppnoliogdkiaa.D
noncomputable def spec_l01Own.E : Env := { tt := TT, con := [], frz := [], rows := [], live := [], n := 6, pin := 0, nils := [] }
noncomputable def spec_l01Own.fn : D.Fn := { body := Try.f96.body.getD .skip, res := Try.f96.results.toList, ins := [.one (.v (.sl 2 (.int .i64)))], outs := [.one (.own 2 true (.int .i64))] }
def spec_l01Own.enc (y : lsd (flats spec_l01Own.fn.outs) × lsd (ios spec_l01Own.fn.ins)) : (List Int) := y.1.1
noncomputable def spec_l01Own.f (l0 : List Int) : Option (List Int) := denF spec_l01Own.E spec_l01Own.fn spec_l01Own.enc (l0, ())
set_option maxRecDepth 100000 in
theorem spec_l01Own.f_eq (l0 : List Int) : spec_l01Own.f l0 = if ([] : List Int).length + l0.length ≤ 17592186044416 then (some (([] : List Int) ++ l0)) else none := by kernel_rfl
noncomputable def spec_l01Own.con : Con := ⟨spec_l01Own.fn.ins, spec_l01Own.fn.outs, (List Int), fun x => spec_l01Own.f x.1, fun r => ((r, ()), (()))⟩
theorem spec_l01Own.valid : Valid Try.prog 96 spec_l01Own.con := fn_valid (f := spec_l01Own.fn) (E := spec_l01Own.E) (enc := spec_l01Own.enc) ⟨ttOk, conNil⟩ (Checked.mixed Try.checked) ⟨Try.func96, by kernel_rfl, by kernel_rfl, by kernel_rfl, by kernel_rfl, by decide, by kernel_rfl, by kernel_rfl⟩ (fun _ => rfl)
end Go.Proofs.Ytpppnoliogdkiaa.P
set_option linter.unusedVariables false
namespace Go.Proofs.Ytpppnoliogdkiaa.P
open Go Go.RowKit Go.Proofs.Ytpppnoliogdkiaa.D
noncomputable def spec_l05Principal.E : Env := { tt := TT, con := [(131, spec_l01N.con), (97, spec_l01Mod.con)], frz := [], rows := [], live := [(3, [2, 3, 4, 7, 8])], n := 32, pin := 0, nils := [] }
noncomputable def spec_l05Principal.fn : D.Fn := { body := Try.f165.body.getD .skip, res := Try.f165.results.toList, ins := [.agg [.v (.sl 25 (.sl 2 (.int .i64)))], .agg [.v (.int .i64), .v (.sl 2 (.int .i64))], .one (.v (.int .i64))], outs := [.one (.own 2 true (.int .i64))] }
def spec_l05Principal.enc (y : lsd (flats spec_l05Principal.fn.outs) × lsd (ios spec_l05Principal.fn.ins)) : (List Int) := y.1.1
noncomputable def spec_l05Principal.f (l0_0 : List (List Int)) (a1_0 : Int) (l1_1 : List Int) (a2 : Int) : Option (List Int) := denF spec_l05Principal.E spec_l05Principal.fn spec_l05Principal.enc (l0_0, a1_0, l1_1, a2, ())
noncomputable def spec_l05Principal.l0 (x2 : Int) (x8 : Int) (b0_0 : List (List Int)) (b1_0 : Int) (b1_1 : List Int) (r2 : List Int) : Option (List Int) := denAt spec_l05Principal.E spec_l05Principal.fn spec_l05Principal.enc [1, 1, 0, 1, 0] { fr := [(2, .lf (.int .i64 x2)), (3, .lf (.box 0 0)), (4, .lf (.box 1 0)), (7, .lf (.own 2)), (8, .lf (.int .i64 x8))], ob := [(0, .box 32 false [.sl (.sl 2 (.int .i64)) b0_0]), (1, .box 34 false [.int .i64 b1_0, .sl (.int .i64) b1_1]), (2, .row 2 true (.int .i64) r2)], nx := 3 }
set_option maxRecDepth 100000 in
theorem spec_l05Principal.f_eq (l0_0 : List (List Int)) (a1_0 : Int) (l1_1 : List Int) (a2 : Int) : spec_l05Principal.f l0_0 a1_0 l1_1 a2 = spec_l05Principal.l0 a2 0 l0_0 a1_0 l1_1 ([] : List Int) := by kernel_rfl
set_option maxRecDepth 100000 in
theorem spec_l05Principal.l0_eq (x2 : Int) (x8 : Int) (b0_0 : List (List Int)) (b1_0 : Int) (b1_1 : List Int) (r2 : List Int) : spec_l05Principal.l0 x2 x8 b0_0 b1_0 b1_1 r2 = (spec_l01N.f b0_0).bind fun t12 => if x8 < t12 then (if 0 ≤ x8 then (if x8 < (b1_1.length : Int) then ((spec_l01Mod.f (wrapI ((wrapI ((rd b1_1 x8) * x2)) - x2)) b1_0).bind fun t28 => if r2.length + ([t28] : List Int).length ≤ 17592186044416 then (spec_l05Principal.l0 x2 (wrapI (x8 + 1)) b0_0 b1_0 b1_1 (r2 ++ ([t28] : List Int))) else none) else none) else none) else (some r2) := (loop_unfold _ _ _ _).trans (by kernel_rfl)
noncomputable def spec_l05Principal.con : Con := ⟨spec_l05Principal.fn.ins, spec_l05Principal.fn.outs, (List Int), fun x => spec_l05Principal.f x.1 x.2.1 x.2.2.1 x.2.2.2.1, fun r => ((r, ()), (()))⟩
theorem spec_l05Principal.valid : Valid Try.prog 165 spec_l05Principal.con := fn_valid (f := spec_l05Principal.fn) (E := spec_l05Principal.E) (enc := spec_l05Principal.enc) ⟨ttOk, (conCons spec_l01N.valid (conCons spec_l01Mod.valid conNil))⟩ (Checked.mixed Try.checked) ⟨Try.func165, by kernel_rfl, by kernel_rfl, by kernel_rfl, by kernel_rfl, by decide, by kernel_rfl, by kernel_rfl⟩ (fun _ => rfl)
end Go.Proofs.Ytpppnoliogdkiaa.P
set_option linter.unusedVariables false
namespace Go.Proofs.Ytpppnoliogdkiaa.P
open Go Go.RowKit Go.Proofs.Ytpppnoliogdkiaa.D
noncomputable def spec_l01Before.E : Env := { tt := TT, con := [], frz := [], rows := [], live := [(4, [0, 1, 5])], n := 40, pin := 0, nils := [] }
noncomputable def spec_l01Before.fn : D.Fn := { body := Try.f173.body.getD .skip, res := Try.f173.results.toList, ins := [.one (.v (.sl 2 (.int .i64))), .one (.v (.sl 2 (.int .i64)))], outs := [.one (.v .bool)] }
def spec_l01Before.enc (y : lsd (flats spec_l01Before.fn.outs) × lsd (ios spec_l01Before.fn.ins)) : Bool := y.1.1
noncomputable def spec_l01Before.f (l0 : List Int) (l1 : List Int) : Option Bool := denF spec_l01Before.E spec_l01Before.fn spec_l01Before.enc (l0, l1, ())
noncomputable def spec_l01Before.l0 (x0 : List Int) (x1 : List Int) (x5 : Int) : Option Bool := denAt spec_l01Before.E spec_l01Before.fn spec_l01Before.enc [1, 1, 0, 1, 0] { fr := [(0, .lf (.sl (.int .i64) x0)), (1, .lf (.sl (.int .i64) x1)), (5, .lf (.int .i64 x5))], ob := [], nx := 0 }
set_option maxRecDepth 100000 in
theorem spec_l01Before.f_eq (l0 : List Int) (l1 : List Int) : spec_l01Before.f l0 l1 = if (l0.length : Int) = (l1.length : Int) then (spec_l01Before.l0 l0 l1 0) else (some (decide ((l0.length : Int) < (l1.length : Int)))) := by kernel_rfl
set_option maxRecDepth 100000 in
theorem spec_l01Before.l0_eq (x0 : List Int) (x1 : List Int) (x5 : Int) : spec_l01Before.l0 x0 x1 x5 = if x5 < (x0.length : Int) then (if 0 ≤ x5 then (if x5 < (x0.length : Int) then (if 0 ≤ x5 then (if x5 < (x1.length : Int) then (if (rd x0 x5) = (rd x1 x5) then (spec_l01Before.l0 x0 x1 (wrapI (x5 + 1))) else (if 0 ≤ x5 then (if x5 < (x0.length : Int) then (if 0 ≤ x5 then (if x5 < (x1.length : Int) then (some (decide ((rd x0 x5) < (rd x1 x5)))) else none) else none) else none) else none)) else none) else none) else none) else none) else (some false) := (loop_unfold _ _ _ _).trans (by kernel_rfl)
noncomputable def spec_l01Before.con : Con := ⟨spec_l01Before.fn.ins, spec_l01Before.fn.outs, Bool, fun x => spec_l01Before.f x.1 x.2.1, fun r => ((r, ()), (()))⟩
theorem spec_l01Before.valid : Valid Try.prog 173 spec_l01Before.con := fn_valid (f := spec_l01Before.fn) (E := spec_l01Before.E) (enc := spec_l01Before.enc) ⟨ttOk, conNil⟩ (Checked.mixed Try.checked) ⟨Try.func173, by kernel_rfl, by kernel_rfl, by kernel_rfl, by kernel_rfl, by decide, by kernel_rfl, by kernel_rfl⟩ (fun _ => rfl)
end Go.Proofs.Ytpppnoliogdkiaa.P
set_option linter.unusedVariables false
namespace Go.Proofs.Ytpppnoliogdkiaa.P
open Go Go.RowKit Go.Proofs.Ytpppnoliogdkiaa.D
noncomputable def spec_l05Class.E : Env := { tt := TT, con := [(96, spec_l01Own.con), (165, spec_l05Principal.con), (97, spec_l01Mod.con), (173, spec_l01Before.con)], frz := [], rows := [], live := [(3, [2, 3, 4, 7, 8]), (7, [2, 3, 4, 7, 8, 9, 10, 11])], n := 51, pin := 0, nils := [] }
noncomputable def spec_l05Class.fn : D.Fn := { body := Try.f122.body.getD .skip, res := Try.f122.results.toList, ins := [.agg [.v (.sl 25 (.sl 2 (.int .i64)))], .agg [.v (.int .i64), .v (.sl 2 (.int .i64))], .one (.v (.sl 2 (.int .i64)))], outs := [.one (.own 2 true (.int .i64))] }
def spec_l05Class.enc (y : lsd (flats spec_l05Class.fn.outs) × lsd (ios spec_l05Class.fn.ins)) : (List Int) := y.1.1
noncomputable def spec_l05Class.f (l0_0 : List (List Int)) (a1_0 : Int) (l1_1 : List Int) (l2 : List Int) : Option (List Int) := denF spec_l05Class.E spec_l05Class.fn spec_l05Class.enc (l0_0, a1_0, l1_1, l2, ())
noncomputable def spec_l05Class.l0 (x2 : List Int) (x8 : Int) (b0_0 : List (List Int)) (b1_0 : Int) (b1_1 : List Int) (r2 : List Int) : Option (List Int) := denAt spec_l05Class.E spec_l05Class.fn spec_l05Class.enc [1, 1, 0, 1, 0] { fr := [(2, .lf (.sl (.int .i64) x2)), (3, .lf (.box 0 0)), (4, .lf (.box 1 0)), (7, .lf (.own 2)), (8, .lf (.int .i64 x8))], ob := [(0, .box 32 false [.sl (.sl 2 (.int .i64)) b0_0]), (1, .box 34 false [.int .i64 b1_0, .sl (.int .i64) b1_1]), (2, .row 2 true (.int .i64) r2)], nx := 3 }
noncomputable def spec_l05Class.l1 (x2 : List Int) (x8 : Int) (x11 : Int) (b0_0 : List (List Int)) (b1_0 : Int) (b1_1 : List Int) (r2 : List Int) (r3 : List Int) (r4 : List Int) : Option (List Int) := denAt spec_l05Class.E spec_l05Class.fn spec_l05Class.enc [1, 1, 0, 1, 0, 0, 1, 0, 0, 1, 0, 1, 0] { fr := [(2, .lf (.sl (.int .i64) x2)), (3, .lf (.box 0 0)), (4, .lf (.box 1 0)), (7, .lf (.own 2)), (8, .lf (.int .i64 x8)), (9, .lf (.own 3)), (10, .lf (.own 4)), (11, .lf (.int .i64 x11))], ob := [(0, .box 32 false [.sl (.sl 2 (.int .i64)) b0_0]), (1, .box 34 false [.int .i64 b1_0, .sl (.int .i64) b1_1]), (2, .row 2 true (.int .i64) r2), (3, .row 2 true (.int .i64) r3), (4, .row 2 true (.int .i64) r4)], nx := 5 }
set_option maxRecDepth 100000 in
theorem spec_l05Class.f_eq (l0_0 : List (List Int)) (a1_0 : Int) (l1_1 : List Int) (l2 : List Int) : spec_l05Class.f l0_0 a1_0 l1_1 l2 = (spec_l01Own.f l2).bind fun t13 => spec_l05Class.l0 l2 0 l0_0 a1_0 l1_1 t13 := by kernel_rfl
set_option maxRecDepth 100000 in
theorem spec_l05Class.l0_eq (x2 : List Int) (x8 : Int) (b0_0 : List (List Int)) (b1_0 : Int) (b1_1 : List Int) (r2 : List Int) : spec_l05Class.l0 x2 x8 b0_0 b1_0 b1_1 r2 = if x8 < b1_0 then ((spec_l05Principal.f b0_0 b1_0 b1_1 x8).bind fun t23 => spec_l05Class.l1 x2 x8 0 b0_0 b1_0 b1_1 r2 t23 ([] : List Int)) else (some r2) := (loop_unfold _ _ _ _).trans (by kernel_rfl)
set_option maxRecDepth 100000 in
theorem spec_l05Class.l1_eq (x2 : List Int) (x8 : Int) (x11 : Int) (b0_0 : List (List Int)) (b1_0 : Int) (b1_1 : List Int) (r2 : List Int) (r3 : List Int) (r4 : List Int) : spec_l05Class.l1 x2 x8 x11 b0_0 b1_0 b1_1 r2 r3 r4 = if x11 < (x2.length : Int) then (if 0 ≤ x11 then (if x11 < (x2.length : Int) then (if 0 ≤ x11 then (if x11 < (r3.length : Int) then (if 0 ≤ x11 then (if x11 < (r3.length : Int) then ((spec_l01Mod.f (wrapI ((rd x2 x11) + (rd r3 x11))) b1_0).bind fun t43 => if r4.length + ([t43] : List Int).length ≤ 17592186044416 then (spec_l05Class.l1 x2 x8 (wrapI (x11 + 1)) b0_0 b1_0 b1_1 r2 r3 (r4 ++ ([t43] : List Int))) else none) else none) else none) else none) else none) else none) else none) else ((spec_l01Before.f r4 r2).bind fun t48 => if t48 = true then (spec_l05Class.l0 x2 (wrapI (x8 + 1)) b0_0 b1_0 b1_1 r4) else (spec_l05Class.l0 x2 (wrapI (x8 + 1)) b0_0 b1_0 b1_1 r2)) := (loop_unfold _ _ _ _).trans (by kernel_rfl)
noncomputable def spec_l05Class.con : Con := ⟨spec_l05Class.fn.ins, spec_l05Class.fn.outs, (List Int), fun x => spec_l05Class.f x.1 x.2.1 x.2.2.1 x.2.2.2.1, fun r => ((r, ()), (()))⟩
theorem spec_l05Class.valid : Valid Try.prog 122 spec_l05Class.con := fn_valid (f := spec_l05Class.fn) (E := spec_l05Class.E) (enc := spec_l05Class.enc) ⟨ttOk, (conCons spec_l01Own.valid (conCons spec_l05Principal.valid (conCons spec_l01Mod.valid (conCons spec_l01Before.valid conNil))))⟩ (Checked.mixed Try.checked) ⟨Try.func122, by kernel_rfl, by kernel_rfl, by kernel_rfl, by kernel_rfl, by decide, by kernel_rfl, by kernel_rfl⟩ (fun _ => rfl)
end Go.Proofs.Ytpppnoliogdkiaa.P
set_option linter.unusedVariables false
namespace Go.Proofs.Ytpppnoliogdkiaa.P
open Go Go.RowKit Go.Proofs.Ytpppnoliogdkiaa.D
noncomputable def spec_ClassOfCrossed.E : Env := { tt := TT, con := [(121, spec_l05Given.con), (122, spec_l05Class.con)], frz := [], rows := [], live := [], n := 20, pin := 0, nils := [] }
noncomputable def spec_ClassOfCrossed.fn : D.Fn := { body := Try.f66.body.getD .skip, res := Try.f66.results.toList, ins := [.agg [.v (.sl 25 (.sl 2 (.int .i64)))], .agg [.v (.int .i64), .v (.sl 2 (.int .i64))], .one (.v (.sl 2 (.int .i64)))], outs := [.one (.own 2 true (.int .i64)), .one (.v (.int .i64))] }
def spec_ClassOfCrossed.enc (y : lsd (flats spec_ClassOfCrossed.fn.outs) × lsd (ios spec_ClassOfCrossed.fn.ins)) : (List Int) × Int := (y.1.1, y.1.2.1)
noncomputable def spec_ClassOfCrossed.f (l0_0 : List (List Int)) (a1_0 : Int) (l1_1 : List Int) (l2 : List Int) : Option ((List Int) × Int) := denF spec_ClassOfCrossed.E spec_ClassOfCrossed.fn spec_ClassOfCrossed.enc (l0_0, a1_0, l1_1, l2, ())
set_option maxRecDepth 100000 in
theorem spec_ClassOfCrossed.f_eq (l0_0 : List (List Int)) (a1_0 : Int) (l1_1 : List Int) (l2 : List Int) : spec_ClassOfCrossed.f l0_0 a1_0 l1_1 l2 = (spec_l05Given.f l0_0 a1_0 l1_1 l2).bind fun t12 => if t12 = 0 then ((spec_l05Class.f l0_0 a1_0 l1_1 l2).bind fun t19 => some (t19, 0)) else (some (([] : List Int), t12)) := by kernel_rfl
noncomputable def spec_ClassOfCrossed.con : Con := ⟨spec_ClassOfCrossed.fn.ins, spec_ClassOfCrossed.fn.outs, (List Int) × Int, fun x => spec_ClassOfCrossed.f x.1 x.2.1 x.2.2.1 x.2.2.2.1, fun r => ((r.1, r.2, ()), (()))⟩
theorem spec_ClassOfCrossed.valid : Valid Try.prog 66 spec_ClassOfCrossed.con := fn_valid (f := spec_ClassOfCrossed.fn) (E := spec_ClassOfCrossed.E) (enc := spec_ClassOfCrossed.enc) ⟨ttOk, (conCons spec_l05Given.valid (conCons spec_l05Class.valid conNil))⟩ (Checked.mixed Try.checked) ⟨Try.func66, by kernel_rfl, by kernel_rfl, by kernel_rfl, by kernel_rfl, by decide, by kernel_rfl, by kernel_rfl⟩ (fun _ => rfl)
end Go.Proofs.Ytpppnoliogdkiaa.P
set_option linter.unusedVariables false
namespace Go.Proofs.Ytpppnoliogdkiaa.P
open Go Go.RowKit Go.Proofs.Ytpppnoliogdkiaa.D
noncomputable def impl_mapped.E : Env := { tt := TT, con := [], frz := [], rows := [], live := [(3, [1, 5, 9, 10, 11])], n := 23, pin := 0, nils := [] }
noncomputable def impl_mapped.fn : D.Fn := { body := Try.f187.body.getD .skip, res := Try.f187.results.toList, ins := [.one (.v (.sl 2 (.int .i64))), .one (.fn [(.int .i64)] (.int .i64))], outs := [.one (.own 2 true (.int .i64))] }
def impl_mapped.enc (y : lsd (flats impl_mapped.fn.outs) × lsd (ios impl_mapped.fn.ins)) : (List Int) := y.1.1
noncomputable def impl_mapped.f (l0 : List Int) (f1 : Int → Option Int) : Option (List Int) := denF impl_mapped.E impl_mapped.fn impl_mapped.enc (l0, fun x => f1 x.1, ())
noncomputable def impl_mapped.l0 (fx1 : Int → Option Int) (x9 : List Int) (x10 : Int) (x11 : Int) (r0 : List Int) : Option (List Int) := denAt impl_mapped.E impl_mapped.fn impl_mapped.enc [1, 1, 0, 1, 0] { fr := [(1, .lf (.fn [(.int .i64)] (.int .i64) (fun x => fx1 x.1))), (5, .lf (.own 0)), (9, .lf (.sl (.int .i64) x9)), (10, .lf (.int .i64 x10)), (11, .lf (.int .i64 x11))], ob := [(0, .row 2 true (.int .i64) r0)], nx := 1 }
set_option maxRecDepth 100000 in
theorem impl_mapped.f_eq (l0 : List Int) (f1 : Int → Option Int) : impl_mapped.f l0 f1 = impl_mapped.l0 f1 l0 (l0.length : Int) 0 ([] : List Int) := by kernel_rfl
set_option maxRecDepth 100000 in
theorem impl_mapped.l0_eq (fx1 : Int → Option Int) (x9 : List Int) (x10 : Int) (x11 : Int) (r0 : List Int) : impl_mapped.l0 fx1 x9 x10 x11 r0 = if x11 < x10 then (if 0 ≤ x11 then (if x11 < (x9.length : Int) then ((fx1 (rd x9 x11)).bind fun t18 => if r0.length + ([t18] : List Int).length ≤ 17592186044416 then (impl_mapped.l0 fx1 x9 x10 (wrapI (x11 + 1)) (r0 ++ ([t18] : List Int))) else none) else none) else none) else (some r0) := (loop_unfold _ _ _ _).trans (by kernel_rfl)
noncomputable def impl_mapped.con : Con := ⟨impl_mapped.fn.ins, impl_mapped.fn.outs, (List Int), fun x => impl_mapped.f x.1 (fun z0 => x.2.1 (z0, ())), fun r => ((r, ()), (()))⟩
theorem impl_mapped.valid : Valid Try.prog 187 impl_mapped.con := fn_valid (f := impl_mapped.fn) (E := impl_mapped.E) (enc := impl_mapped.enc) ⟨ttOk, conNil⟩ (Checked.mixed Try.checked) ⟨Try.func187, by kernel_rfl, by kernel_rfl, by kernel_rfl, by kernel_rfl, by decide, by kernel_rfl, by kernel_rfl⟩ (fun _ => rfl)
end Go.Proofs.Ytpppnoliogdkiaa.P
set_option linter.unusedVariables false
namespace Go.Proofs.Ytpppnoliogdkiaa.P
open Go Go.RowKit Go.Proofs.Ytpppnoliogdkiaa.D
noncomputable def impl_principalMap_1.E : Env := { tt := TT, con := [], frz := [], rows := [], live := [], n := 16, pin := 0, nils := [] }
noncomputable def impl_principalMap_1.fn : D.Fn := { body := Try.f188.body.getD .skip, res := Try.f188.results.toList, ins := [.one (.v (.int .i64)), .ptr true 2 [.v (.int .i64)], .ptr true 34 [.v (.int .i64), .v (.sl 2 (.int .i64))]], outs := [.one (.v (.int .i64))] }
def impl_principalMap_1.enc (y : lsd (flats impl_principalMap_1.fn.outs) × lsd (ios impl_principalMap_1.fn.ins)) : Int := y.1.1
noncomputable def impl_principalMap_1.f (a0 : Int) (a1 : Int) (a2_0 : Int) (l2_1 : List Int) : Option Int := denF impl_principalMap_1.E impl_principalMap_1.fn impl_principalMap_1.enc (a0, a1, a2_0, l2_1, ())
set_option maxRecDepth 100000 in
theorem impl_principalMap_1.f_eq (a0 : Int) (a1 : Int) (a2_0 : Int) (l2_1 : List Int) : impl_principalMap_1.f a0 a1 a2_0 l2_1 = if a2_0 = 0 then none else (some ((wrapI ((wrapI ((wrapI (a0 * a1)) + a2_0)) - a1) : Int).tmod a2_0)) := by kernel_rfl
noncomputable def impl_principalMap_1.con : Con := ⟨impl_principalMap_1.fn.ins, impl_principalMap_1.fn.outs, Int, fun x => impl_principalMap_1.f x.1 x.2.1 x.2.2.1 x.2.2.2.1, fun r => ((r, ()), (()))⟩
theorem impl_principalMap_1.valid : Valid Try.prog 188 impl_principalMap_1.con := fn_valid (f := impl_principalMap_1.fn) (E := impl_principalMap_1.E) (enc := impl_principalMap_1.enc) ⟨ttOk, conNil⟩ (Checked.mixed Try.checked) ⟨Try.func188, by kernel_rfl, by kernel_rfl, by kernel_rfl, by kernel_rfl, by decide, by kernel_rfl, by kernel_rfl⟩ (fun _ => rfl)
end Go.Proofs.Ytpppnoliogdkiaa.P
set_option linter.unusedVariables false
namespace Go.Proofs.Ytpppnoliogdkiaa.P
open Go Go.RowKit Go.Proofs.Ytpppnoliogdkiaa.D
noncomputable def impl_principalMap.E : Env := { tt := TT, con := [(187, impl_mapped.con), (188, impl_principalMap_1.con)], frz := [], rows := [], live := [], n := 9, pin := 0, nils := [] }
noncomputable def impl_principalMap.fn : D.Fn := { body := Try.f166.body.getD .skip, res := Try.f166.results.toList, ins := [.agg [.v (.int .i64), .v (.sl 2 (.int .i64))], .one (.v (.int .i64))], outs := [.one (.own 2 true (.int .i64))] }
def impl_principalMap.enc (y : lsd (flats impl_principalMap.fn.outs) × lsd (ios impl_principalMap.fn.ins)) : (List Int) := y.1.1
noncomputable def impl_principalMap.f (a0_0 : Int) (l0_1 : List Int) (a1 : Int) : Option (List Int) := denF impl_principalMap.E impl_principalMap.fn impl_principalMap.enc (a0_0, l0_1, a1, ())
set_option maxRecDepth 100000 in
theorem impl_principalMap.f_eq (a0_0 : Int) (l0_1 : List Int) (a1 : Int) : impl_principalMap.f a0_0 l0_1 a1 = (impl_mapped.f l0_1 (fun z0 => (impl_principalMap_1.f z0 a1 a0_0 l0_1).map fun z => z)).bind fun t8 => some t8 := by kernel_rfl
noncomputable def impl_principalMap.con : Con := ⟨impl_principalMap.fn.ins, impl_principalMap.fn.outs, (List Int), fun x => impl_principalMap.f x.1 x.2.1 x.2.2.1, fun r => ((r, ()), (()))⟩
theorem impl_principalMap.valid : Valid Try.prog 166 impl_principalMap.con := fn_valid (f := impl_principalMap.fn) (E := impl_principalMap.E) (enc := impl_principalMap.enc) ⟨ttOk, (conCons impl_mapped.valid (conCons impl_principalMap_1.valid conNil))⟩ (Checked.mixed Try.checked) ⟨Try.func166, by kernel_rfl, by kernel_rfl, by kernel_rfl, by kernel_rfl, by decide, by kernel_rfl, by kernel_rfl⟩ (fun _ => rfl)
end Go.Proofs.Ytpppnoliogdkiaa.P
set_option linter.unusedVariables false
namespace Go.Proofs.Ytpppnoliogdkiaa.P
open Go Go.RowKit Go.Proofs.Ytpppnoliogdkiaa.D
noncomputable def slices_insertionSortCmpFunc_int64.E : Env := { tt := TT, con := [], frz := [], rows := [], live := [(1, [0, 1, 2, 3, 8]), (4, [0, 1, 2, 3, 8, 9])], n := 53, pin := 1, nils := [] }
noncomputable def slices_insertionSortCmpFunc_int64.fn : D.Fn := { body := Try.f197.body.getD .skip, res := Try.f197.results.toList, ins := [.one (.own 25 false (.sl 2 (.int .i64))), .one (.v (.int .i64)), .one (.v (.int .i64)), .one (.fn [(.sl 2 (.int .i64)), (.sl 2 (.int .i64))] (.int .i64))], outs := [] }
def slices_insertionSortCmpFunc_int64.enc (y : lsd (flats slices_insertionSortCmpFunc_int64.fn.outs) × lsd (ios slices_insertionSortCmpFunc_int64.fn.ins)) : (List (List Int)) := y.2.1
noncomputable def slices_insertionSortCmpFunc_int64.f (l0 : List (List Int)) (a1 : Int) (a2 : Int) (f3 : (List Int) → (List Int) → Option Int) : Option (List (List Int)) := denF slices_insertionSortCmpFunc_int64.E slices_insertionSortCmpFunc_int64.fn slices_insertionSortCmpFunc_int64.enc (l0, a1, a2, fun x => f3 x.1 x.2.1, ())
noncomputable def slices_insertionSortCmpFunc_int64.l0 (x1 : Int) (x2 : Int) (fx3 : (List Int) → (List Int) → Option Int) (x8 : Int) (r0 : List (List Int)) : Option (List (List Int)) := denAt slices_insertionSortCmpFunc_int64.E slices_insertionSortCmpFunc_int64.fn slices_insertionSortCmpFunc_int64.enc [1, 0] { fr := [(0, .lf (.own 0)), (1, .lf (.int .i64 x1)), (2, .lf (.int .i64 x2)), (3, .lf (.fn [(.sl 2 (.int .i64)), (.sl 2 (.int .i64))] (.int .i64) (fun x => fx3 x.1 x.2.1))), (8, .lf (.int .i64 x8))], ob := [(0, .row 25 false (.sl 2 (.int .i64)) r0)], nx := 1 }
noncomputable def slices_insertionSortCmpFunc_int64.l1 (x1 : Int) (x2 : Int) (fx3 : (List Int) → (List Int) → Option Int) (x8 : Int) (x9 : Int) (r0 : List (List Int)) : Option (List (List Int)) := denAt slices_insertionSortCmpFunc_int64.E slices_insertionSortCmpFunc_int64.fn slices_insertionSortCmpFunc_int64.enc [1, 0, 0, 1, 0, 0, 1, 0] { fr := [(0, .lf (.own 0)), (1, .lf (.int .i64 x1)), (2, .lf (.int .i64 x2)), (3, .lf (.fn [(.sl 2 (.int .i64)), (.sl 2 (.int .i64))] (.int .i64) (fun x => fx3 x.1 x.2.1))), (8, .lf (.int .i64 x8)), (9, .lf (.int .i64 x9))], ob := [(0, .row 25 false (.sl 2 (.int .i64)) r0)], nx := 1 }
set_option maxRecDepth 100000 in
theorem slices_insertionSortCmpFunc_int64.f_eq (l0 : List (List Int)) (a1 : Int) (a2 : Int) (f3 : (List Int) → (List Int) → Option Int) : slices_insertionSortCmpFunc_int64.f l0 a1 a2 f3 = slices_insertionSortCmpFunc_int64.l0 a1 a2 f3 (wrapI (a1 + 1)) l0 := by kernel_rfl
set_option maxRecDepth 100000 in
theorem slices_insertionSortCmpFunc_int64.l0_eq (x1 : Int) (x2 : Int) (fx3 : (List Int) → (List Int) → Option Int) (x8 : Int) (r0 : List (List Int)) : slices_insertionSortCmpFunc_int64.l0 x1 x2 fx3 x8 r0 = if x8 < x2 then (slices_insertionSortCmpFunc_int64.l1 x1 x2 fx3 x8 x8 r0) else (some r0) := (loop_unfold _ _ _ _).trans (by kernel_rfl)
set_option maxRecDepth 100000 in
theorem slices_insertionSortCmpFunc_int64.l1_eq (x1 : Int) (x2 : Int) (fx3 : (List Int) → (List Int) → Option Int) (x8 : Int) (x9 : Int) (r0 : List (List Int)) : slices_insertionSortCmpFunc_int64.l1 x1 x2 fx3 x8 x9 r0 = if x9 > x1 then (if 0 ≤ x9 then (if x9 < (r0.length : Int) then (if 0 ≤ x9 then (if x9 < (r0.length : Int) then (if 0 ≤ wrapI (x9 - 1) then (if wrapI (x9 - 1) < (r0.length : Int) then (if 0 ≤ wrapI (x9 - 1) then (if wrapI (x9 - 1) < (r0.length : Int) then ((fx3 (row r0 x9) (row r0 (wrapI (x9 - 1)))).bind fun t32 => if t32 < 0 then (if 0 ≤ wrapI (x9 - 1) then (if wrapI (x9 - 1) < (r0.length : Int) then (if 0 ≤ wrapI (x9 - 1) then (if wrapI (x9 - 1) < (r0.length : Int) then (if 0 ≤ x9 then (if x9 < (r0.length : Int) then (if 0 ≤ x9 then (if x9 < (r0.length : Int) then (if 0 ≤ x9 then (if x9 < (r0.length : Int) then (if 0 ≤ x9 then (if x9 < (r0.length : Int) then (if 0 ≤ wrapI (x9 - 1) then (if wrapI (x9 - 1) < ((r0.set (x9 : Int).toNat (row r0 (wrapI (x9 - 1)))).length : Int) then (if 0 ≤ wrapI (x9 - 1) then (if wrapI (x9 - 1) < ((r0.set (x9 : Int).toNat (row r0 (wrapI (x9 - 1)))).length : Int) then (slices_insertionSortCmpFunc_int64.l1 x1 x2 fx3 x8 (wrapI (x9 - 1)) ((r0.set (x9 : Int).toNat (row r0 (wrapI (x9 - 1)))).set (wrapI (x9 - 1) : Int).toNat (row r0 x9))) else none) else none) else none) else none) else none) else none) else none) else none) else none) else none) else none) else none) else none) else none) else none) else none) else (slices_insertionSortCmpFunc_int64.l0 x1 x2 fx3 (wrapI (x8 + 1)) r0)) else none) else none) else none) else none) else none) else none) else none) else none) else (slices_insertionSortCmpFunc_int64.l0 x1 x2 fx3 (wrapI (x8 + 1)) r0) := (loop_unfold _ _ _ _).trans (by kernel_rfl)
noncomputable def slices_insertionSortCmpFunc_int64.con : Con := ⟨slices_insertionSortCmpFunc_int64.fn.ins, slices_insertionSortCmpFunc_int64.fn.outs, (List (List Int)), fun x => slices_insertionSortCmpFunc_int64.f x.1 x.2.1 x.2.2.1 (fun z0 z1 => x.2.2.2.1 (z0, z1, ())), fun r => ((()), (r, ()))⟩
theorem slices_insertionSortCmpFunc_int64.valid : Valid Try.prog 197 slices_insertionSortCmpFunc_int64.con := fn_valid (f := slices_insertionSortCmpFunc_int64.fn) (E := slices_insertionSortCmpFunc_int64.E) (enc := slices_insertionSortCmpFunc_int64.enc) ⟨ttOk, conNil⟩ (Checked.mixed Try.checked) ⟨Try.func197, by kernel_rfl, by kernel_rfl, by kernel_rfl, by kernel_rfl, by decide, by kernel_rfl, by kernel_rfl⟩ (fun _ => rfl)
end Go.Proofs.Ytpppnoliogdkiaa.P
set_option linter.unusedVariables false
namespace Go.Proofs.Ytpppnoliogdkiaa.P
open Go Go.RowKit Go.Proofs.Ytpppnoliogdkiaa.D
noncomputable def slices_pdqsortCmpFunc_int64.E : Env := { tt := TT, con := [(197, slices_insertionSortCmpFunc_int64.con)], frz := [], rows := [], live := [(2, [0, 1, 2, 3, 4, 10, 11])], n := 148, pin := 1, nils := [10, 11] }
noncomputable def slices_pdqsortCmpFunc_int64.fn : D.Fn := { body := Try.f189.body.getD .skip, res := Try.f189.results.toList, ins := [.one (.own 25 false (.sl 2 (.int .i64))), .one (.v (.int .i64)), .one (.v (.int .i64)), .one (.v (.int .i64)), .one (.fn [(.sl 2 (.int .i64)), (.sl 2 (.int .i64))] (.int .i64))], outs := [] }
def slices_pdqsortCmpFunc_int64.enc (y : lsd (flats slices_pdqsortCmpFunc_int64.fn.outs) × lsd (ios slices_pdqsortCmpFunc_int64.fn.ins)) : (List (List Int)) := y.2.1
noncomputable def slices_pdqsortCmpFunc_int64.f (l0 : List (List Int)) (a1 : Int) (a2 : Int) (a3 : Int) (f4 : (List Int) → (List Int) → Option Int) : Option (List (List Int)) := denF slices_pdqsortCmpFunc_int64.E slices_pdqsortCmpFunc_int64.fn slices_pdqsortCmpFunc_int64.enc (l0, a1, a2, a3, fun x => f4 x.1 x.2.1, ())
noncomputable def slices_pdqsortCmpFunc_int64.l0 (x1 : Int) (x2 : Int) (x3 : Int) (fx4 : (List Int) → (List Int) → Option Int) (x10 : Bool) (x11 : Bool) (r0 : List (List Int)) : Option (List (List Int)) := denAt slices_pdqsortCmpFunc_int64.E slices_pdqsortCmpFunc_int64.fn slices_pdqsortCmpFunc_int64.enc [1, 1, 0] { fr := [(0, .lf (.own 0)), (1, .lf (.int .i64 x1)), (2, .lf (.int .i64 x2)), (3, .lf (.int .i64 x3)), (4, .lf (.fn [(.sl 2 (.int .i64)), (.sl 2 (.int .i64))] (.int .i64) (fun x => fx4 x.1 x.2.1))), (10, .lf (boolLf x10)), (11, .lf (boolLf x11))], ob := [(0, .row 25 false (.sl 2 (.int .i64)) r0)], nx := 1 }
set_option maxRecDepth 100000 in
theorem slices_pdqsortCmpFunc_int64.f_eq (l0 : List (List Int)) (a1 : Int) (a2 : Int) (a3 : Int) (f4 : (List Int) → (List Int) → Option Int) : slices_pdqsortCmpFunc_int64.f l0 a1 a2 a3 f4 = slices_pdqsortCmpFunc_int64.l0 a1 a2 a3 f4 true true l0 := by kernel_rfl
set_option maxRecDepth 100000 in
theorem slices_pdqsortCmpFunc_int64.l0_eq (x1 : Int) (x2 : Int) (x3 : Int) (fx4 : (List Int) → (List Int) → Option Int) (x10 : Bool) (x11 : Bool) (r0 : List (List Int)) : slices_pdqsortCmpFunc_int64.l0 x1 x2 x3 fx4 x10 x11 r0 = if (wrapI (x2 - x1)) ≤ 12 then ((slices_insertionSortCmpFunc_int64.f r0 x1 x2 (fun z0 z1 => (fx4 z0 z1).map fun z => z)).bind fun t30 => some t30) else (if x3 = 0 then none else (if x10 = true then none else none)) := (loop_unfold _ _ _ _).trans (by kernel_rfl)
noncomputable def slices_pdqsortCmpFunc_int64.con : Con := ⟨slices_pdqsortCmpFunc_int64.fn.ins, slices_pdqsortCmpFunc_int64.fn.outs, (List (List Int)), fun x => slices_pdqsortCmpFunc_int64.f x.1 x.2.1 x.2.2.1 x.2.2.2.1 (fun z0 z1 => x.2.2.2.2.1 (z0, z1, ())), fun r => ((()), (r, ()))⟩
theorem slices_pdqsortCmpFunc_int64.valid : Valid Try.prog 189 slices_pdqsortCmpFunc_int64.con := fn_valid (f := slices_pdqsortCmpFunc_int64.fn) (E := slices_pdqsortCmpFunc_int64.E) (enc := slices_pdqsortCmpFunc_int64.enc) ⟨ttOk, (conCons slices_insertionSortCmpFunc_int64.valid conNil)⟩ (Checked.mixed Try.checked) ⟨Try.func189, by kernel_rfl, by kernel_rfl, by kernel_rfl, by kernel_rfl, by decide, by kernel_rfl, by kernel_rfl⟩ (fun _ => rfl)
end Go.Proofs.Ytpppnoliogdkiaa.P
