/- What the proof of the law CochainText stands on, part 4: words, each Go function's Lean function, and that the Go code comes to its answers; no condition. (Packed by wip/myprint/pack.py out of what the kit's printer wrote, its words among it, partly by our patches of it, and out of texts of this session.) -/
import Derived.ChangeSlices
import Derived.ChangeSame
import Derived.Deep.Matrix
import Derived.Lib.SmallJoins
import Derived.Test.YtacipknfhoadoaaDoorKCochainText3
set_option linter.unusedVariables false
namespace Go.Proofs.YtacipknfhoadoaaDoor.P
open Go Go.RowKit Go.Proofs.YtacipknfhoadoaaDoor.D
noncomputable def spec_l01Is.E : Env := { tt := TT, con := [(54, spec_l01In.con)], frz := [], rows := [], live := [(5, [1, 3, 4]), (10, [1, 3, 4, 5]), (15, [1, 3, 6]), (21, [1, 3, 6, 7, 8]), (25, [1, 3, 6, 7, 8, 9])], n := 137, pin := 0, nils := [7] }
noncomputable def spec_l01Is.fn : D.Fn := { body := Tryd.f39.body.getD .skip, res := Tryd.f39.results.toList, ins := [.agg [.v (.sl 25 (.sl 2 (.int .i64)))]], outs := [.one (.v .bool)] }
def spec_l01Is.enc (y : lsd (flats spec_l01Is.fn.outs) × lsd (ios spec_l01Is.fn.ins)) : Bool := y.1.1
noncomputable def spec_l01Is.f (l0_0 : List (List Int)) : Option Bool := denF spec_l01Is.E spec_l01Is.fn spec_l01Is.enc (l0_0, ())
noncomputable def spec_l01Is.l0 (x3 : Int) (x4 : Int) (b0_0 : List (List Int)) : Option Bool := denAt spec_l01Is.E spec_l01Is.fn spec_l01Is.enc [1, 1, 1, 0, 1, 0] { fr := [(1, .lf (.box 0 0)), (3, .lf (.int .i64 x3)), (4, .lf (.int .i64 x4))], ob := [(0, .box 35 false [.sl (.sl 2 (.int .i64)) b0_0])], nx := 1 }
noncomputable def spec_l01Is.l1 (x3 : Int) (x4 : Int) (x5 : Int) (b0_0 : List (List Int)) : Option Bool := denAt spec_l01Is.E spec_l01Is.fn spec_l01Is.enc [1, 1, 1, 0, 1, 0, 0, 1, 0, 0, 1, 1, 0] { fr := [(1, .lf (.box 0 0)), (3, .lf (.int .i64 x3)), (4, .lf (.int .i64 x4)), (5, .lf (.int .i64 x5))], ob := [(0, .box 35 false [.sl (.sl 2 (.int .i64)) b0_0])], nx := 1 }
noncomputable def spec_l01Is.l2 (x3 : Int) (x6 : Int) (b0_0 : List (List Int)) : Option Bool := denAt spec_l01Is.E spec_l01Is.fn spec_l01Is.enc [1, 1, 1, 1, 0, 1, 0] { fr := [(1, .lf (.box 0 0)), (3, .lf (.int .i64 x3)), (6, .lf (.int .i64 x6))], ob := [(0, .box 35 false [.sl (.sl 2 (.int .i64)) b0_0])], nx := 1 }
noncomputable def spec_l01Is.l3 (x3 : Int) (x6 : Int) (x7 : Bool) (x8 : Int) (b0_0 : List (List Int)) : Option Bool := denAt spec_l01Is.E spec_l01Is.fn spec_l01Is.enc [1, 1, 1, 1, 0, 1, 0, 0, 1, 0, 0, 1, 1, 0, 1, 0] { fr := [(1, .lf (.box 0 0)), (3, .lf (.int .i64 x3)), (6, .lf (.int .i64 x6)), (7, .lf (boolLf x7)), (8, .lf (.int .i64 x8))], ob := [(0, .box 35 false [.sl (.sl 2 (.int .i64)) b0_0])], nx := 1 }
noncomputable def spec_l01Is.l4 (x3 : Int) (x6 : Int) (x7 : Bool) (x8 : Int) (x9 : Int) (b0_0 : List (List Int)) : Option Bool := denAt spec_l01Is.E spec_l01Is.fn spec_l01Is.enc [1, 1, 1, 1, 0, 1, 0, 0, 1, 0, 0, 1, 1, 0, 1, 0, 0, 1, 0, 0, 1, 1, 0] { fr := [(1, .lf (.box 0 0)), (3, .lf (.int .i64 x3)), (6, .lf (.int .i64 x6)), (7, .lf (boolLf x7)), (8, .lf (.int .i64 x8)), (9, .lf (.int .i64 x9))], ob := [(0, .box 35 false [.sl (.sl 2 (.int .i64)) b0_0])], nx := 1 }
set_option maxRecDepth 100000 in
theorem spec_l01Is.f_eq (l0_0 : List (List Int)) : spec_l01Is.f l0_0 = (spec_l01In.f (l0_0.length : Int) 1 8).bind fun t14 => if t14 = true then (spec_l01Is.l0 (l0_0.length : Int) 0 l0_0) else (some false) := by kernel_rfl
set_option maxRecDepth 100000 in
theorem spec_l01Is.l0_eq (x3 : Int) (x4 : Int) (b0_0 : List (List Int)) : spec_l01Is.l0 x3 x4 b0_0 = if x4 < x3 then (if 0 ≤ x4 then (if x4 < (b0_0.length : Int) then (if ((row b0_0 x4).length : Int) = x3 then (spec_l01Is.l1 x3 x4 0 b0_0) else (some false)) else none) else none) else (spec_l01Is.l2 x3 0 b0_0) := (loop_unfold _ _ _ _).trans (by kernel_rfl)
set_option maxRecDepth 100000 in
theorem spec_l01Is.l1_eq (x3 : Int) (x4 : Int) (x5 : Int) (b0_0 : List (List Int)) : spec_l01Is.l1 x3 x4 x5 b0_0 = if x5 < x3 then (if 0 ≤ x4 then (if x4 < (b0_0.length : Int) then (if 0 ≤ x5 then (if x5 < ((row b0_0 x4).length : Int) then ((spec_l01In.f (T b0_0 x4 x5) 0 (wrapI (x3 - 1))).bind fun t44 => if t44 = true then (spec_l01Is.l1 x3 x4 (wrapI (x5 + 1)) b0_0) else (some false)) else none) else none) else none) else none) else (spec_l01Is.l0 x3 (wrapI (x4 + 1)) b0_0) := (loop_unfold _ _ _ _).trans (by kernel_rfl)
set_option maxRecDepth 100000 in
theorem spec_l01Is.l2_eq (x3 : Int) (x6 : Int) (b0_0 : List (List Int)) : spec_l01Is.l2 x3 x6 b0_0 = if x6 < x3 then (if 0 < (b0_0.length : Int) then (if 0 ≤ x6 then (if x6 < ((row b0_0 0).length : Int) then (if (T b0_0 0 x6) = x6 then (if 0 ≤ x6 then (if x6 < (b0_0.length : Int) then (if 0 < ((row b0_0 x6).length : Int) then (if (T b0_0 x6 0) = x6 then (spec_l01Is.l3 x3 x6 false 0 b0_0) else (some false)) else none) else none) else none) else (some false)) else none) else none) else none) else (some true) := (loop_unfold _ _ _ _).trans (by kernel_rfl)
set_option maxRecDepth 100000 in
theorem spec_l01Is.l3_eq (x3 : Int) (x6 : Int) (x7 : Bool) (x8 : Int) (b0_0 : List (List Int)) : spec_l01Is.l3 x3 x6 x7 x8 b0_0 = if x8 < x3 then (if x7 = true then (spec_l01Is.l4 x3 x6 true x8 0 b0_0) else (if 0 ≤ x6 then (if x6 < (b0_0.length : Int) then (if 0 ≤ x8 then (if x8 < ((row b0_0 x6).length : Int) then (if (T b0_0 x6 x8) = 0 then (if 0 ≤ x8 then (if x8 < (b0_0.length : Int) then (if 0 ≤ x6 then (if x6 < ((row b0_0 x8).length : Int) then (spec_l01Is.l4 x3 x6 (decide ((T b0_0 x8 x6) = 0)) x8 0 b0_0) else none) else none) else none) else none) else (spec_l01Is.l4 x3 x6 false x8 0 b0_0)) else none) else none) else none) else none)) else (if x7 = true then (spec_l01Is.l2 x3 (wrapI (x6 + 1)) b0_0) else (some false)) := (loop_unfold _ _ _ _).trans (by kernel_rfl)
set_option maxRecDepth 100000 in
theorem spec_l01Is.l4_eq (x3 : Int) (x6 : Int) (x7 : Bool) (x8 : Int) (x9 : Int) (b0_0 : List (List Int)) : spec_l01Is.l4 x3 x6 x7 x8 x9 b0_0 = if x9 < x3 then (if 0 ≤ x6 then (if x6 < (b0_0.length : Int) then (if 0 ≤ x8 then (if x8 < ((row b0_0 x6).length : Int) then (if 0 ≤ T b0_0 x6 x8 then (if T b0_0 x6 x8 < (b0_0.length : Int) then (if 0 ≤ x9 then (if x9 < ((row b0_0 (T b0_0 x6 x8)).length : Int) then (if 0 ≤ x6 then (if x6 < (b0_0.length : Int) then (if 0 ≤ x8 then (if x8 < (b0_0.length : Int) then (if 0 ≤ x9 then (if x9 < ((row b0_0 x8).length : Int) then (if 0 ≤ T b0_0 x8 x9 then (if T b0_0 x8 x9 < ((row b0_0 x6).length : Int) then (if (T b0_0 (T b0_0 x6 x8) x9) = (T b0_0 x6 (T b0_0 x8 x9)) then (spec_l01Is.l4 x3 x6 x7 x8 (wrapI (x9 + 1)) b0_0) else (some false)) else none) else none) else none) else none) else none) else none) else none) else none) else none) else none) else none) else none) else none) else none) else none) else none) else (spec_l01Is.l3 x3 x6 x7 (wrapI (x8 + 1)) b0_0) := (loop_unfold _ _ _ _).trans (by kernel_rfl)
noncomputable def spec_l01Is.con : Con := ⟨spec_l01Is.fn.ins, spec_l01Is.fn.outs, Bool, fun x => spec_l01Is.f x.1, fun r => ((r, ()), (()))⟩
theorem spec_l01Is.valid : Valid Tryd.prog 39 spec_l01Is.con := fn_valid (f := spec_l01Is.fn) (E := spec_l01Is.E) (enc := spec_l01Is.enc) ⟨ttOk, (conCons spec_l01In.valid conNil)⟩ (Checked.mixed Tryd.checked) ⟨Tryd.func39, by kernel_rfl, by kernel_rfl, by kernel_rfl, by kernel_rfl, by decide, by kernel_rfl, by kernel_rfl⟩ (fun _ => rfl)
end Go.Proofs.YtacipknfhoadoaaDoor.P
set_option linter.unusedVariables false
namespace Go.Proofs.YtacipknfhoadoaaDoor.P
open Go Go.RowKit Go.Proofs.YtacipknfhoadoaaDoor.D
noncomputable def spec_l01Gcd.E : Env := { tt := TT, con := [], frz := [], rows := [], live := [(1, [0, 1])], n := 17, pin := 0, nils := [] }
noncomputable def spec_l01Gcd.fn : D.Fn := { body := Tryd.f55.body.getD .skip, res := Tryd.f55.results.toList, ins := [.one (.v (.int .i64)), .one (.v (.int .i64))], outs := [.one (.v (.int .i64))] }
def spec_l01Gcd.enc (y : lsd (flats spec_l01Gcd.fn.outs) × lsd (ios spec_l01Gcd.fn.ins)) : Int := y.1.1
noncomputable def spec_l01Gcd.f (a0 : Int) (a1 : Int) : Option Int := denF spec_l01Gcd.E spec_l01Gcd.fn spec_l01Gcd.enc (a0, a1, ())
noncomputable def spec_l01Gcd.l0 (x0 : Int) (x1 : Int) : Option Int := denAt spec_l01Gcd.E spec_l01Gcd.fn spec_l01Gcd.enc [1, 0, 0] { fr := [(0, .lf (.int .i64 x0)), (1, .lf (.int .i64 x1))], ob := [], nx := 0 }
set_option maxRecDepth 100000 in
theorem spec_l01Gcd.f_eq (a0 : Int) (a1 : Int) : spec_l01Gcd.f a0 a1 = spec_l01Gcd.l0 a0 a1 := by kernel_rfl
set_option maxRecDepth 100000 in
theorem spec_l01Gcd.l0_eq (x0 : Int) (x1 : Int) : spec_l01Gcd.l0 x0 x1 = if x1 = 0 then (some (if (wrapI (0 - x0)) > x0 then (wrapI (0 - x0)) else x0)) else (if x1 = 0 then none else (spec_l01Gcd.l0 x1 ((x0 : Int).tmod x1))) := (loop_unfold _ _ _ _).trans (by kernel_rfl)
noncomputable def spec_l01Gcd.con : Con := ⟨spec_l01Gcd.fn.ins, spec_l01Gcd.fn.outs, Int, fun x => spec_l01Gcd.f x.1 x.2.1, fun r => ((r, ()), (()))⟩
theorem spec_l01Gcd.valid : Valid Tryd.prog 55 spec_l01Gcd.con := fn_valid (f := spec_l01Gcd.fn) (E := spec_l01Gcd.E) (enc := spec_l01Gcd.enc) ⟨ttOk, conNil⟩ (Checked.mixed Tryd.checked) ⟨Tryd.func55, by kernel_rfl, by kernel_rfl, by kernel_rfl, by kernel_rfl, by decide, by kernel_rfl, by kernel_rfl⟩ (fun _ => rfl)
end Go.Proofs.YtacipknfhoadoaaDoor.P
set_option linter.unusedVariables false
namespace Go.Proofs.YtacipknfhoadoaaDoor.P
open Go Go.RowKit Go.Proofs.YtacipknfhoadoaaDoor.D
noncomputable def spec_l02Is.E : Env := { tt := TT, con := [(54, spec_l01In.con), (55, spec_l01Gcd.con)], frz := [], rows := [], live := [(4, [2, 3, 5]), (9, [2, 3, 6]), (12, [2, 3, 6, 7])], n := 90, pin := 0, nils := [] }
noncomputable def spec_l02Is.fn : D.Fn := { body := Tryd.f40.body.getD .skip, res := Tryd.f40.results.toList, ins := [.agg [.v (.sl 25 (.sl 2 (.int .i64)))], .agg [.v (.int .i64), .v (.sl 2 (.int .i64))]], outs := [.one (.v .bool)] }
def spec_l02Is.enc (y : lsd (flats spec_l02Is.fn.outs) × lsd (ios spec_l02Is.fn.ins)) : Bool := y.1.1
noncomputable def spec_l02Is.f (l0_0 : List (List Int)) (a1_0 : Int) (l1_1 : List Int) : Option Bool := denF spec_l02Is.E spec_l02Is.fn spec_l02Is.enc (l0_0, a1_0, l1_1, ())
noncomputable def spec_l02Is.l0 (x5 : Int) (b0_0 : List (List Int)) (b1_0 : Int) (b1_1 : List Int) : Option Bool := denAt spec_l02Is.E spec_l02Is.fn spec_l02Is.enc [1, 1, 0, 1, 0] { fr := [(2, .lf (.box 0 0)), (3, .lf (.box 1 0)), (5, .lf (.int .i64 x5))], ob := [(0, .box 35 false [.sl (.sl 2 (.int .i64)) b0_0]), (1, .box 37 false [.int .i64 b1_0, .sl (.int .i64) b1_1])], nx := 2 }
noncomputable def spec_l02Is.l1 (x6 : Int) (b0_0 : List (List Int)) (b1_0 : Int) (b1_1 : List Int) : Option Bool := denAt spec_l02Is.E spec_l02Is.fn spec_l02Is.enc [1, 1, 1, 0, 1, 0] { fr := [(2, .lf (.box 0 0)), (3, .lf (.box 1 0)), (6, .lf (.int .i64 x6))], ob := [(0, .box 35 false [.sl (.sl 2 (.int .i64)) b0_0]), (1, .box 37 false [.int .i64 b1_0, .sl (.int .i64) b1_1])], nx := 2 }
noncomputable def spec_l02Is.l2 (x6 : Int) (x7 : Int) (b0_0 : List (List Int)) (b1_0 : Int) (b1_1 : List Int) : Option Bool := denAt spec_l02Is.E spec_l02Is.fn spec_l02Is.enc [1, 1, 1, 0, 1, 0, 0, 1, 0, 0, 1, 0] { fr := [(2, .lf (.box 0 0)), (3, .lf (.box 1 0)), (6, .lf (.int .i64 x6)), (7, .lf (.int .i64 x7))], ob := [(0, .box 35 false [.sl (.sl 2 (.int .i64)) b0_0]), (1, .box 37 false [.int .i64 b1_0, .sl (.int .i64) b1_1])], nx := 2 }
set_option maxRecDepth 100000 in
theorem spec_l02Is.f_eq (l0_0 : List (List Int)) (a1_0 : Int) (l1_1 : List Int) : spec_l02Is.f l0_0 a1_0 l1_1 = (spec_l01In.f a1_0 2 12).bind fun t10 => if t10 = true then (if (l1_1.length : Int) = (l0_0.length : Int) then (spec_l02Is.l0 0 l0_0 a1_0 l1_1) else (some false)) else (some false) := by kernel_rfl
set_option maxRecDepth 100000 in
theorem spec_l02Is.l0_eq (x5 : Int) (b0_0 : List (List Int)) (b1_0 : Int) (b1_1 : List Int) : spec_l02Is.l0 x5 b0_0 b1_0 b1_1 = if x5 < (b1_1.length : Int) then (if 0 ≤ x5 then (if x5 < (b1_1.length : Int) then ((spec_l01In.f (rd b1_1 x5) 1 (wrapI (b1_0 - 1))).bind fun t36 => if t36 = true then (if 0 ≤ x5 then (if x5 < (b1_1.length : Int) then ((spec_l01Gcd.f (rd b1_1 x5) b1_0).bind fun t46 => if t46 = 1 then (spec_l02Is.l0 (wrapI (x5 + 1)) b0_0 b1_0 b1_1) else (some false)) else none) else none) else (some false)) else none) else none) else (spec_l02Is.l1 0 b0_0 b1_0 b1_1) := (loop_unfold _ _ _ _).trans (by kernel_rfl)
set_option maxRecDepth 100000 in
theorem spec_l02Is.l1_eq (x6 : Int) (b0_0 : List (List Int)) (b1_0 : Int) (b1_1 : List Int) : spec_l02Is.l1 x6 b0_0 b1_0 b1_1 = if x6 < (b1_1.length : Int) then (spec_l02Is.l2 x6 0 b0_0 b1_0 b1_1) else (some true) := (loop_unfold _ _ _ _).trans (by kernel_rfl)
set_option maxRecDepth 100000 in
theorem spec_l02Is.l2_eq (x6 : Int) (x7 : Int) (b0_0 : List (List Int)) (b1_0 : Int) (b1_1 : List Int) : spec_l02Is.l2 x6 x7 b0_0 b1_0 b1_1 = if x7 < (b1_1.length : Int) then (if 0 ≤ x6 then (if x6 < (b0_0.length : Int) then (if 0 ≤ x7 then (if x7 < ((row b0_0 x6).length : Int) then (if 0 ≤ T b0_0 x6 x7 then (if T b0_0 x6 x7 < (b1_1.length : Int) then (if 0 ≤ x6 then (if x6 < (b1_1.length : Int) then (if 0 ≤ x7 then (if x7 < (b1_1.length : Int) then (if b1_0 = 0 then none else (if (rd b1_1 (T b0_0 x6 x7)) = ((wrapI ((rd b1_1 x6) * (rd b1_1 x7)) : Int).tmod b1_0) then (spec_l02Is.l2 x6 (wrapI (x7 + 1)) b0_0 b1_0 b1_1) else (some false))) else none) else none) else none) else none) else none) else none) else none) else none) else none) else none) else (spec_l02Is.l1 (wrapI (x6 + 1)) b0_0 b1_0 b1_1) := (loop_unfold _ _ _ _).trans (by kernel_rfl)
noncomputable def spec_l02Is.con : Con := ⟨spec_l02Is.fn.ins, spec_l02Is.fn.outs, Bool, fun x => spec_l02Is.f x.1 x.2.1 x.2.2.1, fun r => ((r, ()), (()))⟩
theorem spec_l02Is.valid : Valid Tryd.prog 40 spec_l02Is.con := fn_valid (f := spec_l02Is.fn) (E := spec_l02Is.E) (enc := spec_l02Is.enc) ⟨ttOk, (conCons spec_l01In.valid (conCons spec_l01Gcd.valid conNil))⟩ (Checked.mixed Tryd.checked) ⟨Tryd.func40, by kernel_rfl, by kernel_rfl, by kernel_rfl, by kernel_rfl, by decide, by kernel_rfl, by kernel_rfl⟩ (fun _ => rfl)
end Go.Proofs.YtacipknfhoadoaaDoor.P
set_option linter.unusedVariables false
namespace Go.Proofs.YtacipknfhoadoaaDoor.P
open Go Go.RowKit Go.Proofs.YtacipknfhoadoaaDoor.D
noncomputable def spec_l01N.E : Env := { tt := TT, con := [], frz := [], rows := [], live := [], n := 6, pin := 0, nils := [] }
noncomputable def spec_l01N.fn : D.Fn := { body := Tryd.f65.body.getD .skip, res := Tryd.f65.results.toList, ins := [.agg [.v (.sl 25 (.sl 2 (.int .i64)))]], outs := [.one (.v (.int .i64))] }
def spec_l01N.enc (y : lsd (flats spec_l01N.fn.outs) × lsd (ios spec_l01N.fn.ins)) : Int := y.1.1
noncomputable def spec_l01N.f (l0_0 : List (List Int)) : Option Int := denF spec_l01N.E spec_l01N.fn spec_l01N.enc (l0_0, ())
set_option maxRecDepth 100000 in
theorem spec_l01N.f_eq (l0_0 : List (List Int)) : spec_l01N.f l0_0 = some (l0_0.length : Int) := by kernel_rfl
noncomputable def spec_l01N.con : Con := ⟨spec_l01N.fn.ins, spec_l01N.fn.outs, Int, fun x => spec_l01N.f x.1, fun r => ((r, ()), (()))⟩
theorem spec_l01N.valid : Valid Tryd.prog 65 spec_l01N.con := fn_valid (f := spec_l01N.fn) (E := spec_l01N.E) (enc := spec_l01N.enc) ⟨ttOk, conNil⟩ (Checked.mixed Tryd.checked) ⟨Tryd.func65, by kernel_rfl, by kernel_rfl, by kernel_rfl, by kernel_rfl, by decide, by kernel_rfl, by kernel_rfl⟩ (fun _ => rfl)
end Go.Proofs.YtacipknfhoadoaaDoor.P
set_option linter.unusedVariables false
namespace Go.Proofs.YtacipknfhoadoaaDoor.P
open Go Go.RowKit Go.Proofs.YtacipknfhoadoaaDoor.D
noncomputable def spec_l03Cells.E : Env := { tt := TT, con := [(65, spec_l01N.con)], frz := [], rows := [], live := [(2, [1, 2, 5])], n := 16, pin := 0, nils := [] }
noncomputable def spec_l03Cells.fn : D.Fn := { body := Tryd.f56.body.getD .skip, res := Tryd.f56.results.toList, ins := [.agg [.v (.sl 25 (.sl 2 (.int .i64)))], .one (.v (.int .i64))], outs := [.one (.v (.int .i64))] }
def spec_l03Cells.enc (y : lsd (flats spec_l03Cells.fn.outs) × lsd (ios spec_l03Cells.fn.ins)) : Int := y.1.1
noncomputable def spec_l03Cells.f (l0_0 : List (List Int)) (a1 : Int) : Option Int := denF spec_l03Cells.E spec_l03Cells.fn spec_l03Cells.enc (l0_0, a1, ())
noncomputable def spec_l03Cells.l0 (x1 : Int) (x5 : Int) (b0_0 : List (List Int)) : Option Int := denAt spec_l03Cells.E spec_l03Cells.fn spec_l03Cells.enc [1, 1, 0, 0] { fr := [(1, .lf (.int .i64 x1)), (2, .lf (.box 0 0)), (5, .lf (.int .i64 x5))], ob := [(0, .box 35 false [.sl (.sl 2 (.int .i64)) b0_0])], nx := 1 }
set_option maxRecDepth 100000 in
theorem spec_l03Cells.f_eq (l0_0 : List (List Int)) (a1 : Int) : spec_l03Cells.f l0_0 a1 = spec_l03Cells.l0 a1 1 l0_0 := by kernel_rfl
set_option maxRecDepth 100000 in
theorem spec_l03Cells.l0_eq (x1 : Int) (x5 : Int) (b0_0 : List (List Int)) : spec_l03Cells.l0 x1 x5 b0_0 = if x1 > 0 then ((spec_l01N.f b0_0).bind fun t12 => spec_l03Cells.l0 (wrapI (x1 - 1)) (wrapI (x5 * (wrapI (t12 - 1)))) b0_0) else (some x5) := (loop_unfold _ _ _ _).trans (by kernel_rfl)
noncomputable def spec_l03Cells.con : Con := ⟨spec_l03Cells.fn.ins, spec_l03Cells.fn.outs, Int, fun x => spec_l03Cells.f x.1 x.2.1, fun r => ((r, ()), (()))⟩
theorem spec_l03Cells.valid : Valid Tryd.prog 56 spec_l03Cells.con := fn_valid (f := spec_l03Cells.fn) (E := spec_l03Cells.E) (enc := spec_l03Cells.enc) ⟨ttOk, (conCons spec_l01N.valid conNil)⟩ (Checked.mixed Tryd.checked) ⟨Tryd.func56, by kernel_rfl, by kernel_rfl, by kernel_rfl, by kernel_rfl, by decide, by kernel_rfl, by kernel_rfl⟩ (fun _ => rfl)
end Go.Proofs.YtacipknfhoadoaaDoor.P
set_option linter.unusedVariables false
namespace Go.Proofs.YtacipknfhoadoaaDoor.P
open Go Go.RowKit Go.Proofs.YtacipknfhoadoaaDoor.D
noncomputable def spec_l03Is.E : Env := { tt := TT, con := [(54, spec_l01In.con), (56, spec_l03Cells.con)], frz := [], rows := [], live := [(4, [4, 5, 7])], n := 39, pin := 0, nils := [] }
noncomputable def spec_l03Is.fn : D.Fn := { body := Tryd.f41.body.getD .skip, res := Tryd.f41.results.toList, ins := [.agg [.v (.sl 25 (.sl 2 (.int .i64)))], .agg [.v (.int .i64), .v (.sl 2 (.int .i64))], .agg [.v (.int .i64), .v (.sl 2 (.int .i64))]], outs := [.one (.v .bool)] }
def spec_l03Is.enc (y : lsd (flats spec_l03Is.fn.outs) × lsd (ios spec_l03Is.fn.ins)) : Bool := y.1.1
noncomputable def spec_l03Is.f (l0_0 : List (List Int)) (a1_0 : Int) (l1_1 : List Int) (a2_0 : Int) (l2_1 : List Int) : Option Bool := denF spec_l03Is.E spec_l03Is.fn spec_l03Is.enc (l0_0, a1_0, l1_1, a2_0, l2_1, ())
noncomputable def spec_l03Is.l0 (x7 : Int) (b0_0 : Int) (b0_1 : List Int) (b1_0 : Int) (b1_1 : List Int) : Option Bool := denAt spec_l03Is.E spec_l03Is.fn spec_l03Is.enc [1, 1, 0, 1, 0] { fr := [(4, .lf (.box 0 0)), (5, .lf (.box 1 0)), (7, .lf (.int .i64 x7))], ob := [(0, .box 37 false [.int .i64 b0_0, .sl (.int .i64) b0_1]), (1, .box 39 false [.int .i64 b1_0, .sl (.int .i64) b1_1])], nx := 2 }
set_option maxRecDepth 100000 in
theorem spec_l03Is.f_eq (l0_0 : List (List Int)) (a1_0 : Int) (l1_1 : List Int) (a2_0 : Int) (l2_1 : List Int) : spec_l03Is.f l0_0 a1_0 l1_1 a2_0 l2_1 = (spec_l01In.f a2_0 0 3).bind fun t10 => if t10 = true then ((spec_l03Cells.f l0_0 a2_0).bind fun t19 => if (l2_1.length : Int) = t19 then (spec_l03Is.l0 0 a1_0 l1_1 a2_0 l2_1) else (some false)) else (some false) := by kernel_rfl
set_option maxRecDepth 100000 in
theorem spec_l03Is.l0_eq (x7 : Int) (b0_0 : Int) (b0_1 : List Int) (b1_0 : Int) (b1_1 : List Int) : spec_l03Is.l0 x7 b0_0 b0_1 b1_0 b1_1 = if x7 < (b1_1.length : Int) then (if 0 ≤ x7 then (if x7 < (b1_1.length : Int) then ((spec_l01In.f (rd b1_1 x7) 0 (wrapI (b0_0 - 1))).bind fun t37 => if t37 = true then (spec_l03Is.l0 (wrapI (x7 + 1)) b0_0 b0_1 b1_0 b1_1) else (some false)) else none) else none) else (some true) := (loop_unfold _ _ _ _).trans (by kernel_rfl)
noncomputable def spec_l03Is.con : Con := ⟨spec_l03Is.fn.ins, spec_l03Is.fn.outs, Bool, fun x => spec_l03Is.f x.1 x.2.1 x.2.2.1 x.2.2.2.1 x.2.2.2.2.1, fun r => ((r, ()), (()))⟩
theorem spec_l03Is.valid : Valid Tryd.prog 41 spec_l03Is.con := fn_valid (f := spec_l03Is.fn) (E := spec_l03Is.E) (enc := spec_l03Is.enc) ⟨ttOk, (conCons spec_l01In.valid (conCons spec_l03Cells.valid conNil))⟩ (Checked.mixed Tryd.checked) ⟨Tryd.func41, by kernel_rfl, by kernel_rfl, by kernel_rfl, by kernel_rfl, by decide, by kernel_rfl, by kernel_rfl⟩ (fun _ => rfl)
end Go.Proofs.YtacipknfhoadoaaDoor.P
set_option linter.unusedVariables false
namespace Go.Proofs.YtacipknfhoadoaaDoor.P
open Go Go.RowKit Go.Proofs.YtacipknfhoadoaaDoor.D
noncomputable def spec_l03Code.E : Env := { tt := TT, con := [(39, spec_l01Is.con), (40, spec_l02Is.con), (41, spec_l03Is.con)], frz := [], rows := [], live := [(4, [2, 3, 4, 7])], n := 31, pin := 0, nils := [] }
noncomputable def spec_l03Code.fn : D.Fn := { body := Tryd.f24.body.getD .skip, res := Tryd.f24.results.toList, ins := [.agg [.v (.sl 25 (.sl 2 (.int .i64)))], .agg [.v (.int .i64), .v (.sl 2 (.int .i64))], .one (.v (.sl 39 (.pr (.int .i64) (.sl 2 (.int .i64)))))], outs := [.one (.v (.int .i64))] }
def spec_l03Code.enc (y : lsd (flats spec_l03Code.fn.outs) × lsd (ios spec_l03Code.fn.ins)) : Int := y.1.1
noncomputable def spec_l03Code.f (l0_0 : List (List Int)) (a1_0 : Int) (l1_1 : List Int) (l2 : List (Int × (List Int))) : Option Int := denF spec_l03Code.E spec_l03Code.fn spec_l03Code.enc (l0_0, a1_0, l1_1, l2, ())
noncomputable def spec_l03Code.l0 (x2 : List (Int × (List Int))) (x7 : Int) (b0_0 : List (List Int)) (b1_0 : Int) (b1_1 : List Int) : Option Int := denAt spec_l03Code.E spec_l03Code.fn spec_l03Code.enc [1, 1, 0, 1, 0] { fr := [(2, .lf (.sl (.pr (.int .i64) (.sl 2 (.int .i64))) x2)), (3, .lf (.box 0 0)), (4, .lf (.box 1 0)), (7, .lf (.int .i64 x7))], ob := [(0, .box 35 false [.sl (.sl 2 (.int .i64)) b0_0]), (1, .box 37 false [.int .i64 b1_0, .sl (.int .i64) b1_1])], nx := 2 }
set_option maxRecDepth 100000 in
theorem spec_l03Code.f_eq (l0_0 : List (List Int)) (a1_0 : Int) (l1_1 : List Int) (l2 : List (Int × (List Int))) : spec_l03Code.f l0_0 a1_0 l1_1 l2 = (spec_l01Is.f l0_0).bind fun t9 => if t9 = true then ((spec_l02Is.f l0_0 a1_0 l1_1).bind fun t14 => if t14 = true then (spec_l03Code.l0 l2 0 l0_0 a1_0 l1_1) else (some 1)) else (some 1) := by kernel_rfl
set_option maxRecDepth 100000 in
theorem spec_l03Code.l0_eq (x2 : List (Int × (List Int))) (x7 : Int) (b0_0 : List (List Int)) (b1_0 : Int) (b1_1 : List Int) : spec_l03Code.l0 x2 x7 b0_0 b1_0 b1_1 = if x7 < (x2.length : Int) then (if 0 ≤ x7 then (if x7 < (x2.length : Int) then ((spec_l03Is.f b0_0 b1_0 b1_1 ((Ty.rd (.pr (.int .i64) (.sl 2 (.int .i64))) x2 x7).1) ((Ty.rd (.pr (.int .i64) (.sl 2 (.int .i64))) x2 x7).2)).bind fun t29 => if t29 = true then (spec_l03Code.l0 x2 (wrapI (x7 + 1)) b0_0 b1_0 b1_1) else (some 1)) else none) else none) else (some 0) := (loop_unfold _ _ _ _).trans (by kernel_rfl)
noncomputable def spec_l03Code.con : Con := ⟨spec_l03Code.fn.ins, spec_l03Code.fn.outs, Int, fun x => spec_l03Code.f x.1 x.2.1 x.2.2.1 x.2.2.2.1, fun r => ((r, ()), (()))⟩
theorem spec_l03Code.valid : Valid Tryd.prog 24 spec_l03Code.con := fn_valid (f := spec_l03Code.fn) (E := spec_l03Code.E) (enc := spec_l03Code.enc) ⟨ttOk, (conCons spec_l01Is.valid (conCons spec_l02Is.valid (conCons spec_l03Is.valid conNil)))⟩ (Checked.mixed Tryd.checked) ⟨Tryd.func24, by kernel_rfl, by kernel_rfl, by kernel_rfl, by kernel_rfl, by decide, by kernel_rfl, by kernel_rfl⟩ (fun _ => rfl)
end Go.Proofs.YtacipknfhoadoaaDoor.P
set_option linter.unusedVariables false
namespace Go.Proofs.YtacipknfhoadoaaDoor.D
open Go Go.RowKit
theorem valid_view {P : Program} {g : FuncId} {c : Con} (hv : Valid P g c) {x : lsd (flats c.ins)} {r : c.R} (hx : c.f x = some r) {w : World} {vs : List Value} (ha : ASRs P (fun _ => False) (fun k => k < w.heap.size) w c.ins x vs (fun _ => False)) :
    Calls P g vs.toArray w fun e w' => ∃ u, e = .returned u ∧ Below w.heap.size w w' ∧ ∃ Z' Fo us, u = outV us ∧ ASRs P (fun _ => False) Z' w' c.outs (c.dec r).1 us Fo := by
  refine (hv.2 x r hx (fun k => k < w.heap.size) (fun _ => False) (fun _ => False) w vs ha (fun _ h => h.elim) (fun _ h => h) (fun _ h => h.elim)).mono ?_
  rintro e w' ⟨u, rfl, Z', Fi, Fo, hp⟩
  obtain ⟨us, hu, ho⟩ := hp.out
  exact ⟨u, rfl, ⟨hp.os, hp.tape, hp.output, hp.size, fun k hk => hp.old k hk fun h => h⟩, Z', Fo, us, hu, ho⟩
theorem cell_lt {w : World} {a : Addr} {v : Value} (h : w.cell? a = some v) : a.block < w.heap.size := by
  unfold World.cell? at h
  cases hb : w.heap[a.block]? with
  | none => rw [hb] at h; cases h
  | some o => exact (Array.getElem?_eq_some_iff.1 hb).1
theorem view_raw {α : Type} {w : World} {sz : Nat} {R : α → List Value → Prop} {A : Option Addr} {c : Nat} {xs : List α} (hz : 0 < sz) (hc : xs.length ≤ c) (hm : xs.length ≤ 9223372036854775807)
    (h : 0 < xs.length → ∃ ad, A = some ad ∧ ∀ (j : Nat) (p : α), xs[j]? = some p → ∃ cs, cs.length = sz ∧ R p cs ∧ ∀ (i : Nat) (u : Value), cs[i]? = some u → w.cell? (ad.add (j * sz + i)) = some u) : ViewRep (fun k => k < w.heap.size) w sz R A c xs := by
  refine ⟨hc, hm, fun hl => ?_⟩
  obtain ⟨ad, rfl, hcell⟩ := h hl
  refine ⟨ad, rfl, ?_, hcell⟩
  obtain ⟨cs, h1, h2, h3⟩ := hcell 0 xs[0] (List.getElem?_eq_getElem hl)
  have := cell_lt (h3 0 cs[0] (List.getElem?_eq_getElem (by omega)))
  rwa [add_block] at this
theorem law_true {P : Program} {g : FuncId} {c : Con} (hv : Valid P g c) {x : lsd (flats c.ins)} {r : c.R} (hx : c.f x = some r) {w : World} {vs : List Value} (ha : ASRs P (fun _ => False) (fun k => k < w.heap.size) w c.ins x vs (fun _ => False)) (ho : c.outs = [.one (.v .bool)]) (hr : ∀ y : lsd (flats [.one (.v .bool)]), HEq y (c.dec r).1 → y.1 = true) :
    Calls P g vs.toArray w fun e w' => e = .returned (.bool true) ∧ Below w.heap.size w w' := by
  refine (valid_view hv hx ha).mono ?_
  rintro e w' ⟨u, rfl, hb, Z', Fo, us, rfl, hh⟩
  refine ⟨?_, hb⟩
  obtain ⟨ins, outs, R, f, dec⟩ := c
  have ho : outs = [.one (.v .bool)] := ho
  subst ho
  obtain ⟨v, vs', F0, F1, rfl, h1, h2, _⟩ := hh
  cases h2
  have h1 : [v] = [.bool (dec r).1.1] := h1
  have hb1 : (dec r).1.1 = true := hr _ HEq.rfl
  cases h1
  rw [hb1]
  rfl
end Go.Proofs.YtacipknfhoadoaaDoor.D
set_option linter.unusedVariables false
namespace Go.Proofs.YtacipknfhoadoaaDoor.D
open Go Go.RowKit Go.ChangeShapes Go.WideShapes Go.Joins Go.Deep
section
variable {H : Type} {enc : TypeId × Value → H} {P : Program} {w : World} {base : Nat} {held : Bool}
abbrev Zw (w : World) : Nat → Prop := fun k => k < w.heap.size
abbrev No : Nat → Prop := fun _ => False
theorem rep_ints {q : TypeId} (hn : nf q = false) {k : IntKind} {a : Addr} {len cap : Nat} {zs : List Int} (hl : len ≤ cap) (hm : cap ≤ maxLen) (hz : zs.length = cap) (hc : ∀ i, i < zs.length → w.cell? (a.add i) = some (.int k (zs.getD i 0))) (hw : ∀ n ∈ zs, (Lit.int k n).wf = true) :
    ∃ l : List Int, len = l.length ∧ l.length ≤ maxLen ∧ (∀ x ∈ l, (Lit.int k x).wf = true) ∧ Rep (Zw w) w false (.sl q (.int k)) l [.slice (some a) len cap] No := by
  have hlen : (zs.take len).length = len := by rw [List.length_take]; omega
  refine ⟨zs.take len, hlen.symm, by omega, fun x hx => hw x (List.mem_of_mem_take hx), some a, cap, by rw [hlen], ?_, fun h => by rw [hn] at h; cases h⟩
  refine view_raw Nat.one_pos (by show (zs.take len).length ≤ _; omega) (by show (zs.take len).length ≤ _; simp only [maxLen] at hm; omega) fun _ => ⟨a, rfl, fun j p hj => ?_⟩
  have hj : (zs.take len)[j]? = some p := hj
  have hjl : j < len := by
    have := (List.getElem?_eq_some_iff.1 hj).1
    omega
  refine ⟨[.int k p], rfl, rfl, fun i u hu => ?_⟩
  cases i with
  | zero =>
    simp only [List.getElem?_cons_zero, Option.some.injEq] at hu
    subst hu
    have h := hc j (by omega)
    have hp : zs.getD j 0 = p := by
      rw [List.getElem?_take] at hj
      simp only [hjl, if_true] at hj
      simp [List.getD, hj]
    rw [hp] at h
    simpa [Ty.size] using h
  | succ i => simp at hu
theorem rep_none {q : TypeId} {t : Ty} : Rep (Zw w) w false (.sl q t) ([] : List t.den) [.slice none 0 0] No :=
  ⟨none, 0, rfl, ⟨Nat.le_refl _, Nat.zero_le _, fun h => absurd h (by simp)⟩, fun _ _ => rfl⟩
theorem come_ints {t e : TypeId} {k : IntKind} {fuel : Nat} {v : Value} {x : DataW H × List MemPlace} (ht : P.underlying t = some (.slice e)) (he : P.underlying e = some (.int k)) (hc : P.cellsOf e = 1)
    (h : DataW.trod enc P w base (fun _ => true) held fuel t [v] = some x) (hn : nf e = false := by rfl) :
    ∃ l : List Int, l.length ≤ maxLen ∧ (∀ x ∈ l, (Lit.int k x).wf = true) ∧ Rep (Zw w) w false (.sl e (.int k)) l [v] No := by
  rcases open_ints ht he hc h with ⟨hcs, _⟩ | ⟨a, len, cap, zs, hcs, _, hl, hm, hz, _, hcell, hw⟩
  · refine ⟨[], by simp, by simp, ?_⟩
    rw [hcs]
    exact rep_none
  · simp only [if_true] at hz
    obtain ⟨l, h1, h2, h3, h4⟩ := rep_ints (q := e) hn hl hm hz hcell hw
    exact ⟨l, h2, h3, by rw [hcs]; exact h4⟩
theorem come_rows {t e q : TypeId} {k : IntKind} {fuel : Nat} {v : Value} {x : DataW H × List MemPlace} (ht : P.underlying t = some (.slice e)) (he : P.underlying e = some (.slice q)) (hq : P.underlying q = some (.int k))
    (ce : P.cellsOf e = 1) (cq : P.cellsOf q = 1) (h : DataW.trod enc P w base (fun _ => true) held fuel t [v] = some x) (hne : nf e = false := by rfl) (hn : nf q = false := by rfl) :
    ∃ l : List (List Int), l.length ≤ maxLen ∧ (∀ r ∈ l, r.length ≤ maxLen ∧ ∀ x ∈ r, (Lit.int k x).wf = true) ∧ Rep (Zw w) w false (.sl e (.sl q (.int k))) l [v] No := by
  rcases open_int_rows ht he hq ce cq h with ⟨hcs, _⟩ | ⟨a, len, cap, A, L, C, Z, hcs, _, hl, hm, _, hr⟩
  · refine ⟨[], by simp, by simp, ?_⟩
    rw [hcs]
    exact rep_none
  · have each : ∀ r, r < cap → ∃ y : List Int, y.length ≤ maxLen ∧ (∀ x ∈ y, (Lit.int k x).wf = true) ∧ Rep (Zw w) w false (.sl q (.int k)) y [.slice (A r) (L r) (C r)] No := by
      intro r hrc
      obtain ⟨_, h1, h2, h3, h4, h5, h6⟩ := hr r hrc
      cases hA : A r with
      | none =>
        have hC := h5 hA
        refine ⟨[], by simp, by simp, ?_⟩
        have hL : L r = 0 := by omega
        rw [hL, hC]
        exact rep_none
      | some a' =>
        obtain ⟨l, _, h7, h8, h9⟩ := rep_ints (q := q) hn h1 h2 h3 (fun i hi => (h6 a' hA).2 i (by omega)) h4
        exact ⟨l, h7, h8, h9⟩
    obtain ⟨Y, hY⟩ := choose_lt each
    have hlen : ((List.range len).map Y).length = len := by simp
    refine ⟨(List.range len).map Y, by omega, fun r hr' => ?_, ?_⟩
    · obtain ⟨j, hj, rfl⟩ := List.mem_map.1 hr'
      obtain ⟨h1, h2, _⟩ := hY j (by have := List.mem_range.1 hj; omega)
      exact ⟨h1, h2⟩
    · rw [hcs]
      refine ⟨some a, cap, by rw [hlen], ?_, fun h => by rw [hne] at h; cases h⟩
      refine view_raw Nat.one_pos (by show ((List.range len).map Y).length ≤ _; omega) (by show ((List.range len).map Y).length ≤ _; simp only [maxLen] at hm; omega) fun _ => ⟨a, rfl, fun j p hj => ?_⟩
      have hj : ((List.range len).map Y)[j]? = some p := hj
      have hjl : j < len := by
        have := (List.getElem?_eq_some_iff.1 hj).1
        omega
      have hp : p = Y j := by simpa [hjl] using hj.symm
      subst hp
      obtain ⟨h1, h2, h3⟩ := hY j (by omega)
      refine ⟨[.slice (A j) (L j) (C j)], rfl, h3, fun i u hu => ?_⟩
      cases i with
      | zero =>
        simp only [List.getElem?_cons_zero, Option.some.injEq] at hu
        subst hu
        have := (hr j (by omega)).1
        simpa [Ty.size] using this
      | succ i => simp at hu
theorem come_int {t : TypeId} {k : IntKind} {fuel : Nat} {v : Value} {x : DataW H × List MemPlace} (ht : P.underlying t = some (.int k)) (h : DataW.trod enc P w base (fun _ => true) held fuel t [v] = some x) : ∃ n : Int, (Lit.int k n).wf = true ∧ Rep (Zw w) w false (.int k) n [v] No := by
  obtain ⟨n, h1, _, h2⟩ := DataW.trod_int ht h
  exact ⟨n, h2, h1⟩
theorem open_agg1 {r : Reach} {b0 : Nat} {t : TypeId} {f0 : Field} {v : Value} {d : DataW H} {p : List MemPlace} {spare : Nat → Bool} (hs : P.underlying t = some (.struct #[f0])) (hone : oneCellFields P #[f0] = true) (hC : P.cellsOf t = 1)
    (hv : Value.okWide P w r b0 t v) (h : DataW.Trod enc P w base spare held t v d p) :
    ∃ (v0 : Value) (y0 : DataW H × List MemPlace) (n : Nat), v = .agg #[v0] ∧ DataW.trod enc P w base spare held n f0.type [v0] = some y0 := by
  obtain ⟨cs, rfl, hsz⟩ := okWide_struct hs hv
  have hsz1 : cs.size = 1 := hsz.trans hC
  obtain ⟨c0, rfl⟩ : ∃ c0, cs = #[c0] := by
    obtain ⟨l⟩ := cs
    match l, hsz1 with
    | [c0], _ => exact ⟨c0, rfl⟩
  obtain ⟨fuel, hf⟩ := h
  obtain ⟨y0, n, hx, _, h0⟩ := trod_struct1 hs hf
  obtain ⟨o0, k0⟩ := hone_of hone 0 f0 rfl
  exact ⟨c0, y0, n, rfl, by simpa [Value.cells, o0, k0] using h0⟩
theorem args_nil : ASRs P No (Zw w) w [] () [] No := rfl
theorem args_agg1 {t : Ty} {x : t.den} {v : Value} {ins : List ASh} {y : lsd (flats ins)} {vs : List Value} (h : Rep (Zw w) w false t x [v] No) (hr : ASRs P No (Zw w) w ins y vs No) : ASRs P No (Zw w) w (.agg [.v t] :: ins) (x, y) (.agg #[v] :: vs) No :=
  ⟨.agg #[v], vs, No, No, rfl, ⟨[v], rfl, v, [], No, No, rfl, h, rfl, fun _ h => h, fun _ h => h, fun _ h => h.elim⟩, hr, fun _ h => h, fun _ h => h, fun _ h => h.elim⟩
theorem args_agg2 {t t' : Ty} {x : t.den} {x' : t'.den} {v v' : Value} {ins : List ASh} {y : lsd (flats ins)} {vs : List Value} (h : Rep (Zw w) w false t x [v] No) (h' : Rep (Zw w) w false t' x' [v'] No) (hr : ASRs P No (Zw w) w ins y vs No) : ASRs P No (Zw w) w (.agg [.v t, .v t'] :: ins) (x, x', y) (.agg #[v, v'] :: vs) No :=
  ⟨.agg #[v, v'], vs, No, No, rfl, ⟨[v, v'], rfl, v, [v'], No, No, rfl, h, ⟨v', [], No, No, rfl, h', rfl, fun _ h => h, fun _ h => h, fun _ h => h.elim⟩, fun _ h => h, fun _ h => h, fun _ h => h.elim⟩, hr, fun _ h => h, fun _ h => h, fun _ h => h.elim⟩
end
end Go.Proofs.YtacipknfhoadoaaDoor.D
set_option linter.unusedVariables false
namespace Go.Proofs.YtacipknfhoadoaaDoor.D
open Go Go.RowKit
end Go.Proofs.YtacipknfhoadoaaDoor.D
set_option linter.unusedVariables false
set_option linter.unusedSimpArgs false
namespace Go.Proofs.YtacipknfhoadoaaDoor.D
open Go Go.RowKit
end Go.Proofs.YtacipknfhoadoaaDoor.D
namespace Go.Proofs.YtacipknfhoadoaaDoor.D
noncomputable def fuel : Nat := Classical.choose (⟨64, rfl⟩ : ∃ n, n = 64)
theorem fuel_eq : fuel = 64 := Classical.choose_spec (⟨64, rfl⟩ : ∃ n, n = 64)
theorem valid_none {P : Go.Program} {g : Go.FuncId} (hc : Callable P g) {ins outs : List ASh} {R : Type} {dec : R → lsd (flats outs) × lsd (ios ins)} : Valid P g ⟨ins, outs, R, fun _ => none, dec⟩ := ⟨hc, fun x r h => by cases h⟩
end Go.Proofs.YtacipknfhoadoaaDoor.D
set_option linter.unusedVariables false
namespace Go.Proofs.YtacipknfhoadoaaDoor.P
open Go Go.RowKit Go.Proofs.YtacipknfhoadoaaDoor.D
noncomputable def spec_l01Dec.E (c : Con) : Env := { tt := TT, con := [(42, c)], frz := [], rows := [], live := [], n := 26, pin := 0, nils := [] }
noncomputable def spec_l01Dec.fn : D.Fn := { body := Tryd.f42.body.getD .skip, res := Tryd.f42.results.toList, ins := [.one (.v (.int .i64))], outs := [.one (.v .str)] }
def spec_l01Dec.enc (y : lsd (flats spec_l01Dec.fn.outs) × lsd (ios spec_l01Dec.fn.ins)) : ByteArray := y.1.1
noncomputable def spec_l01Dec.cof (F : lsd (flats spec_l01Dec.fn.ins) → Option ByteArray) : Con := ⟨spec_l01Dec.fn.ins, spec_l01Dec.fn.outs, ByteArray, F, fun r => ((r, ()), (()))⟩
noncomputable def spec_l01Dec.fx : Nat → lsd (flats spec_l01Dec.fn.ins) → Option ByteArray
 | 0 => fun _ => none
 | n + 1 => fun x => denF (spec_l01Dec.E (spec_l01Dec.cof (spec_l01Dec.fx n))) spec_l01Dec.fn spec_l01Dec.enc x
noncomputable def spec_l01Dec.cn (n : Nat) : Con := spec_l01Dec.cof (spec_l01Dec.fx n)
noncomputable def spec_l01Dec.f (n : Nat) (a0 : Int) : Option ByteArray := spec_l01Dec.fx n (a0, ())
set_option maxRecDepth 100000 in
theorem spec_l01Dec.f_eq (n : Nat) (a0 : Int) : spec_l01Dec.f (n + 1) a0 = if a0 < 0 then ((spec_l01Dec.f n (wrapI (0 - a0))).bind fun t7 => if szs (⟨#[45]⟩ : ByteArray) t7 ≤ 9223372036854775807 then (some ((⟨#[45]⟩ : ByteArray) ++ t7)) else none) else (if a0 < 10 then (if 0 < (([wr .u8 (wrapI (48 + a0))] : List Int).length : Int) then (some (bytesOf ([wr .u8 (wrapI (48 + a0))] : List Int))) else none) else ((spec_l01Dec.f n (wrapI ((a0 : Int).tdiv 10))).bind fun t18 => if 0 < (([wr .u8 (wrapI (48 + ((a0 : Int).tmod 10)))] : List Int).length : Int) then (if szs t18 (bytesOf ([wr .u8 (wrapI (48 + ((a0 : Int).tmod 10)))] : List Int)) ≤ 9223372036854775807 then (some (t18 ++ (bytesOf ([wr .u8 (wrapI (48 + ((a0 : Int).tmod 10)))] : List Int)))) else none) else none)) := by kernel_rfl
theorem spec_l01Dec.vn : ∀ n, Valid Tryd.prog 42 (spec_l01Dec.cn n)
 | 0 => valid_none ⟨_, Tryd.func42, by kernel_rfl, by kernel_rfl⟩
 | n + 1 => fn_valid (f := spec_l01Dec.fn) (E := spec_l01Dec.E (spec_l01Dec.cn n)) (enc := spec_l01Dec.enc) ⟨ttOk, (conCons (spec_l01Dec.vn n) conNil)⟩ (Checked.mixed Tryd.checked) ⟨Tryd.func42, by kernel_rfl, by kernel_rfl, by kernel_rfl, by kernel_rfl, of_decide_eq_true (by kernel_rfl), by kernel_rfl, by kernel_rfl⟩ (fun _ => rfl)
noncomputable def spec_l01Dec.con : Con := spec_l01Dec.cn fuel
theorem spec_l01Dec.valid : Valid Tryd.prog 42 spec_l01Dec.con := spec_l01Dec.vn fuel
end Go.Proofs.YtacipknfhoadoaaDoor.P
set_option linter.unusedVariables false
namespace Go.Proofs.YtacipknfhoadoaaDoor.P
open Go Go.RowKit Go.Proofs.YtacipknfhoadoaaDoor.D
noncomputable def spec_l03Text.E : Env := { tt := TT, con := [(42, spec_l01Dec.con)], frz := [], rows := [], live := [(3, [1, 3, 4])], n := 29, pin := 0, nils := [] }
noncomputable def spec_l03Text.fn : D.Fn := { body := Tryd.f25.body.getD .skip, res := Tryd.f25.results.toList, ins := [.agg [.v (.int .i64), .v (.sl 2 (.int .i64))]], outs := [.one (.v .str)] }
def spec_l03Text.enc (y : lsd (flats spec_l03Text.fn.outs) × lsd (ios spec_l03Text.fn.ins)) : ByteArray := y.1.1
noncomputable def spec_l03Text.f (a0_0 : Int) (l0_1 : List Int) : Option ByteArray := denF spec_l03Text.E spec_l03Text.fn spec_l03Text.enc (a0_0, l0_1, ())
noncomputable def spec_l03Text.l0 (x3 : ByteArray) (x4 : Int) (b0_0 : Int) (b0_1 : List Int) : Option ByteArray := denAt spec_l03Text.E spec_l03Text.fn spec_l03Text.enc [1, 1, 0, 1, 0] { fr := [(1, .lf (.box 0 0)), (3, .lf (.str x3)), (4, .lf (.int .i64 x4))], ob := [(0, .box 39 false [.int .i64 b0_0, .sl (.int .i64) b0_1])], nx := 1 }
set_option maxRecDepth 100000 in
theorem spec_l03Text.f_eq (a0_0 : Int) (l0_1 : List Int) : spec_l03Text.f a0_0 l0_1 = (spec_l01Dec.f fuel a0_0).bind fun t7 => if szs t7 (⟨#[58]⟩ : ByteArray) ≤ 9223372036854775807 then (spec_l03Text.l0 (t7 ++ (⟨#[58]⟩ : ByteArray)) 0 a0_0 l0_1) else none := by kernel_rfl
set_option maxRecDepth 100000 in
theorem spec_l03Text.l0_eq (x3 : ByteArray) (x4 : Int) (b0_0 : Int) (b0_1 : List Int) : spec_l03Text.l0 x3 x4 b0_0 b0_1 = if x4 < (b0_1.length : Int) then (if x4 > 0 then (if szs x3 (⟨#[44]⟩ : ByteArray) ≤ 9223372036854775807 then (if 0 ≤ x4 then (if x4 < (b0_1.length : Int) then ((spec_l01Dec.f fuel (rd b0_1 x4)).bind fun t26 => if szs (x3 ++ (⟨#[44]⟩ : ByteArray)) t26 ≤ 9223372036854775807 then (spec_l03Text.l0 ((x3 ++ (⟨#[44]⟩ : ByteArray)) ++ t26) (wrapI (x4 + 1)) b0_0 b0_1) else none) else none) else none) else none) else (if 0 ≤ x4 then (if x4 < (b0_1.length : Int) then ((spec_l01Dec.f fuel (rd b0_1 x4)).bind fun t26 => if szs x3 t26 ≤ 9223372036854775807 then (spec_l03Text.l0 (x3 ++ t26) (wrapI (x4 + 1)) b0_0 b0_1) else none) else none) else none)) else (some x3) := (loop_unfold _ _ _ _).trans (by kernel_rfl)
noncomputable def spec_l03Text.con : Con := ⟨spec_l03Text.fn.ins, spec_l03Text.fn.outs, ByteArray, fun x => spec_l03Text.f x.1 x.2.1, fun r => ((r, ()), (()))⟩
theorem spec_l03Text.valid : Valid Tryd.prog 25 spec_l03Text.con := fn_valid (f := spec_l03Text.fn) (E := spec_l03Text.E) (enc := spec_l03Text.enc) ⟨ttOk, (conCons spec_l01Dec.valid conNil)⟩ (Checked.mixed Tryd.checked) ⟨Tryd.func25, by kernel_rfl, by kernel_rfl, by kernel_rfl, by kernel_rfl, by decide, by kernel_rfl, by kernel_rfl⟩ (fun _ => rfl)
end Go.Proofs.YtacipknfhoadoaaDoor.P
set_option linter.unusedVariables false
namespace Go.Proofs.YtacipknfhoadoaaDoor.P
open Go Go.RowKit Go.Proofs.YtacipknfhoadoaaDoor.D
noncomputable def spec_CochainText.E : Env := { tt := TT, con := [(24, spec_l03Code.con), (25, spec_l03Text.con)], frz := [], rows := [12], live := [], n := 19, pin := 0, nils := [] }
noncomputable def spec_CochainText.fn : D.Fn := { body := Tryd.f8.body.getD .skip, res := Tryd.f8.results.toList, ins := [.agg [.v (.sl 25 (.sl 2 (.int .i64)))], .agg [.v (.int .i64), .v (.sl 2 (.int .i64))], .agg [.v (.int .i64), .v (.sl 2 (.int .i64))]], outs := [.one (.v .str), .one (.v (.int .i64))] }
def spec_CochainText.enc (y : lsd (flats spec_CochainText.fn.outs) × lsd (ios spec_CochainText.fn.ins)) : ByteArray × Int := (y.1.1, y.1.2.1)
noncomputable def spec_CochainText.f (l0_0 : List (List Int)) (a1_0 : Int) (l1_1 : List Int) (a2_0 : Int) (l2_1 : List Int) : Option (ByteArray × Int) := denF spec_CochainText.E spec_CochainText.fn spec_CochainText.enc (l0_0, a1_0, l1_1, a2_0, l2_1, ())
set_option maxRecDepth 100000 in
theorem spec_CochainText.f_eq (l0_0 : List (List Int)) (a1_0 : Int) (l1_1 : List Int) (a2_0 : Int) (l2_1 : List Int) : spec_CochainText.f l0_0 a1_0 l1_1 a2_0 l2_1 = (spec_l03Code.f l0_0 a1_0 l1_1 ([(a2_0, l2_1)] : List (Int × (List Int)))).bind fun t13 => if t13 = 0 then ((spec_l03Text.f a2_0 l2_1).bind fun t18 => some (t18, 0)) else (some ((⟨#[]⟩ : ByteArray), t13)) := by kernel_rfl
noncomputable def spec_CochainText.con : Con := ⟨spec_CochainText.fn.ins, spec_CochainText.fn.outs, ByteArray × Int, fun x => spec_CochainText.f x.1 x.2.1 x.2.2.1 x.2.2.2.1 x.2.2.2.2.1, fun r => ((r.1, r.2, ()), (()))⟩
theorem spec_CochainText.valid : Valid Tryd.prog 8 spec_CochainText.con := fn_valid (f := spec_CochainText.fn) (E := spec_CochainText.E) (enc := spec_CochainText.enc) ⟨ttOk, (conCons spec_l03Code.valid (conCons spec_l03Text.valid conNil))⟩ (Checked.mixed Tryd.checked) ⟨Tryd.func8, by kernel_rfl, by kernel_rfl, by kernel_rfl, by kernel_rfl, by decide, by kernel_rfl, by kernel_rfl⟩ (fun _ => rfl)
end Go.Proofs.YtacipknfhoadoaaDoor.P
set_option linter.unusedVariables false
namespace Go.Proofs.YtacipknfhoadoaaDoor.P
open Go Go.RowKit Go.Proofs.YtacipknfhoadoaaDoor.D
noncomputable def laws_toInt64S.E : Env := { tt := TT, con := [], frz := [], rows := [], live := [(3, [0, 3, 4])], n := 22, pin := 0, nils := [] }
noncomputable def laws_toInt64S.fn : D.Fn := { body := Tryd.f27.body.getD .skip, res := Tryd.f27.results.toList, ins := [.one (.v (.sl 2 (.int .i64)))], outs := [.one (.own 2 true (.int .i64))] }
def laws_toInt64S.enc (y : lsd (flats laws_toInt64S.fn.outs) × lsd (ios laws_toInt64S.fn.ins)) : (List Int) := y.1.1
noncomputable def laws_toInt64S.f (l0 : List Int) : Option (List Int) := denF laws_toInt64S.E laws_toInt64S.fn laws_toInt64S.enc (l0, ())
noncomputable def laws_toInt64S.l0 (x0 : List Int) (x4 : Int) (r0 : List Int) : Option (List Int) := denAt laws_toInt64S.E laws_toInt64S.fn laws_toInt64S.enc [1, 1, 0, 1, 0] { fr := [(0, .lf (.sl (.int .i64) x0)), (3, .lf (.own 0)), (4, .lf (.int .i64 x4))], ob := [(0, .row 2 true (.int .i64) r0)], nx := 1 }
set_option maxRecDepth 100000 in
theorem laws_toInt64S.f_eq (l0 : List Int) : laws_toInt64S.f l0 = if (l0.length : Int) = (l0.length : Int) then (if 0 ≤ (l0.length : Int) then (if ((l0.length : Int) : Int).toNat ≤ 17592186044416 then (laws_toInt64S.l0 l0 0 (List.replicate ((l0.length : Int) : Int).toNat (0 : Int))) else none) else none) else none := by kernel_rfl
set_option maxRecDepth 100000 in
theorem laws_toInt64S.l0_eq (x0 : List Int) (x4 : Int) (r0 : List Int) : laws_toInt64S.l0 x0 x4 r0 = if x4 < (x0.length : Int) then (if 0 ≤ x4 then (if x4 < (x0.length : Int) then (if 0 ≤ x4 then (if x4 < (r0.length : Int) then (if 0 ≤ x4 then (if x4 < (r0.length : Int) then (laws_toInt64S.l0 x0 (wrapI (x4 + 1)) (r0.set (x4 : Int).toNat (rd x0 x4))) else none) else none) else none) else none) else none) else none) else (some r0) := (loop_unfold _ _ _ _).trans (by kernel_rfl)
noncomputable def laws_toInt64S.con : Con := ⟨laws_toInt64S.fn.ins, laws_toInt64S.fn.outs, (List Int), fun x => laws_toInt64S.f x.1, fun r => ((r, ()), (()))⟩
theorem laws_toInt64S.valid : Valid Tryd.prog 27 laws_toInt64S.con := fn_valid (f := laws_toInt64S.fn) (E := laws_toInt64S.E) (enc := laws_toInt64S.enc) ⟨ttOk, conNil⟩ (Checked.mixed Tryd.checked) ⟨Tryd.func27, by kernel_rfl, by kernel_rfl, by kernel_rfl, by kernel_rfl, by decide, by kernel_rfl, by kernel_rfl⟩ (fun _ => rfl)
end Go.Proofs.YtacipknfhoadoaaDoor.P
set_option linter.unusedVariables false
namespace Go.Proofs.YtacipknfhoadoaaDoor.P
open Go Go.RowKit Go.Proofs.YtacipknfhoadoaaDoor.D
noncomputable def laws_toInt64SS.E : Env := { tt := TT, con := [(27, laws_toInt64S.con)], frz := [], rows := [], live := [(3, [0, 3, 4])], n := 23, pin := 0, nils := [] }
noncomputable def laws_toInt64SS.fn : D.Fn := { body := Tryd.f26.body.getD .skip, res := Tryd.f26.results.toList, ins := [.one (.v (.sl 25 (.sl 2 (.int .i64))))], outs := [.one (.own 25 true (.sl 2 (.int .i64)))] }
def laws_toInt64SS.enc (y : lsd (flats laws_toInt64SS.fn.outs) × lsd (ios laws_toInt64SS.fn.ins)) : (List (List Int)) := y.1.1
noncomputable def laws_toInt64SS.f (l0 : List (List Int)) : Option (List (List Int)) := denF laws_toInt64SS.E laws_toInt64SS.fn laws_toInt64SS.enc (l0, ())
noncomputable def laws_toInt64SS.l0 (x0 : List (List Int)) (x4 : Int) (r0 : List (List Int)) : Option (List (List Int)) := denAt laws_toInt64SS.E laws_toInt64SS.fn laws_toInt64SS.enc [1, 1, 0, 1, 0] { fr := [(0, .lf (.sl (.sl 2 (.int .i64)) x0)), (3, .lf (.own 0)), (4, .lf (.int .i64 x4))], ob := [(0, .row 25 true (.sl 2 (.int .i64)) r0)], nx := 1 }
set_option maxRecDepth 100000 in
theorem laws_toInt64SS.f_eq (l0 : List (List Int)) : laws_toInt64SS.f l0 = if (l0.length : Int) = (l0.length : Int) then (if 0 ≤ (l0.length : Int) then (if ((l0.length : Int) : Int).toNat ≤ 5864062014805 then (laws_toInt64SS.l0 l0 0 (List.replicate ((l0.length : Int) : Int).toNat ([] : List Int))) else none) else none) else none := by kernel_rfl
set_option maxRecDepth 100000 in
theorem laws_toInt64SS.l0_eq (x0 : List (List Int)) (x4 : Int) (r0 : List (List Int)) : laws_toInt64SS.l0 x0 x4 r0 = if x4 < (x0.length : Int) then (if 0 ≤ x4 then (if x4 < (x0.length : Int) then ((laws_toInt64S.f (row x0 x4)).bind fun t20 => if 0 ≤ x4 then (if x4 < (r0.length : Int) then (if 0 ≤ x4 then (if x4 < (r0.length : Int) then (laws_toInt64SS.l0 x0 (wrapI (x4 + 1)) (r0.set (x4 : Int).toNat t20)) else none) else none) else none) else none) else none) else none) else (some r0) := (loop_unfold _ _ _ _).trans (by kernel_rfl)
noncomputable def laws_toInt64SS.con : Con := ⟨laws_toInt64SS.fn.ins, laws_toInt64SS.fn.outs, (List (List Int)), fun x => laws_toInt64SS.f x.1, fun r => ((r, ()), (()))⟩
theorem laws_toInt64SS.valid : Valid Tryd.prog 26 laws_toInt64SS.con := fn_valid (f := laws_toInt64SS.fn) (E := laws_toInt64SS.E) (enc := laws_toInt64SS.enc) ⟨ttOk, (conCons laws_toInt64S.valid conNil)⟩ (Checked.mixed Tryd.checked) ⟨Tryd.func26, by kernel_rfl, by kernel_rfl, by kernel_rfl, by kernel_rfl, by decide, by kernel_rfl, by kernel_rfl⟩ (fun _ => rfl)
end Go.Proofs.YtacipknfhoadoaaDoor.P
set_option linter.unusedVariables false
namespace Go.Proofs.YtacipknfhoadoaaDoor.P
open Go Go.RowKit Go.Proofs.YtacipknfhoadoaaDoor.D
noncomputable def laws_toGroup.E : Env := { tt := TT, con := [(26, laws_toInt64SS.con)], frz := [], rows := [], live := [], n := 9, pin := 0, nils := [] }
noncomputable def laws_toGroup.fn : D.Fn := { body := Tryd.f9.body.getD .skip, res := Tryd.f9.results.toList, ins := [.agg [.v (.sl 25 (.sl 2 (.int .i64)))]], outs := [.agg [.own 25 true (.sl 2 (.int .i64))]] }
def laws_toGroup.enc (y : lsd (flats laws_toGroup.fn.outs) × lsd (ios laws_toGroup.fn.ins)) : (List (List Int)) := y.1.1
noncomputable def laws_toGroup.f (l0_0 : List (List Int)) : Option (List (List Int)) := denF laws_toGroup.E laws_toGroup.fn laws_toGroup.enc (l0_0, ())
set_option maxRecDepth 100000 in
theorem laws_toGroup.f_eq (l0_0 : List (List Int)) : laws_toGroup.f l0_0 = (laws_toInt64SS.f l0_0).bind fun t6 => some t6 := by kernel_rfl
noncomputable def laws_toGroup.con : Con := ⟨laws_toGroup.fn.ins, laws_toGroup.fn.outs, (List (List Int)), fun x => laws_toGroup.f x.1, fun r => ((r, ()), (()))⟩
theorem laws_toGroup.valid : Valid Tryd.prog 9 laws_toGroup.con := fn_valid (f := laws_toGroup.fn) (E := laws_toGroup.E) (enc := laws_toGroup.enc) ⟨ttOk, (conCons laws_toInt64SS.valid conNil)⟩ (Checked.mixed Tryd.checked) ⟨Tryd.func9, by kernel_rfl, by kernel_rfl, by kernel_rfl, by kernel_rfl, by decide, by kernel_rfl, by kernel_rfl⟩ (fun _ => rfl)
end Go.Proofs.YtacipknfhoadoaaDoor.P
set_option linter.unusedVariables false
namespace Go.Proofs.YtacipknfhoadoaaDoor.P
open Go Go.RowKit Go.Proofs.YtacipknfhoadoaaDoor.D
noncomputable def laws_toModule.E : Env := { tt := TT, con := [(27, laws_toInt64S.con)], frz := [], rows := [], live := [], n := 12, pin := 0, nils := [] }
noncomputable def laws_toModule.fn : D.Fn := { body := Tryd.f10.body.getD .skip, res := Tryd.f10.results.toList, ins := [.agg [.v (.int .i64), .v (.sl 2 (.int .i64))]], outs := [.agg [.v (.int .i64), .own 2 true (.int .i64)]] }
def laws_toModule.enc (y : lsd (flats laws_toModule.fn.outs) × lsd (ios laws_toModule.fn.ins)) : Int × (List Int) := (y.1.1, y.1.2.1)
noncomputable def laws_toModule.f (a0_0 : Int) (l0_1 : List Int) : Option (Int × (List Int)) := denF laws_toModule.E laws_toModule.fn laws_toModule.enc (a0_0, l0_1, ())
set_option maxRecDepth 100000 in
theorem laws_toModule.f_eq (a0_0 : Int) (l0_1 : List Int) : laws_toModule.f a0_0 l0_1 = (laws_toInt64S.f l0_1).bind fun t9 => some (a0_0, t9) := by kernel_rfl
noncomputable def laws_toModule.con : Con := ⟨laws_toModule.fn.ins, laws_toModule.fn.outs, Int × (List Int), fun x => laws_toModule.f x.1 x.2.1, fun r => ((r.1, r.2, ()), (()))⟩
theorem laws_toModule.valid : Valid Tryd.prog 10 laws_toModule.con := fn_valid (f := laws_toModule.fn) (E := laws_toModule.E) (enc := laws_toModule.enc) ⟨ttOk, (conCons laws_toInt64S.valid conNil)⟩ (Checked.mixed Tryd.checked) ⟨Tryd.func10, by kernel_rfl, by kernel_rfl, by kernel_rfl, by kernel_rfl, by decide, by kernel_rfl, by kernel_rfl⟩ (fun _ => rfl)
end Go.Proofs.YtacipknfhoadoaaDoor.P
set_option linter.unusedVariables false
namespace Go.Proofs.YtacipknfhoadoaaDoor.P
open Go Go.RowKit Go.Proofs.YtacipknfhoadoaaDoor.D
noncomputable def laws_toCochain.E : Env := { tt := TT, con := [(27, laws_toInt64S.con)], frz := [], rows := [], live := [], n := 12, pin := 0, nils := [] }
noncomputable def laws_toCochain.fn : D.Fn := { body := Tryd.f11.body.getD .skip, res := Tryd.f11.results.toList, ins := [.agg [.v (.int .i64), .v (.sl 2 (.int .i64))]], outs := [.agg [.v (.int .i64), .own 2 true (.int .i64)]] }
def laws_toCochain.enc (y : lsd (flats laws_toCochain.fn.outs) × lsd (ios laws_toCochain.fn.ins)) : Int × (List Int) := (y.1.1, y.1.2.1)
noncomputable def laws_toCochain.f (a0_0 : Int) (l0_1 : List Int) : Option (Int × (List Int)) := denF laws_toCochain.E laws_toCochain.fn laws_toCochain.enc (a0_0, l0_1, ())
set_option maxRecDepth 100000 in
theorem laws_toCochain.f_eq (a0_0 : Int) (l0_1 : List Int) : laws_toCochain.f a0_0 l0_1 = (laws_toInt64S.f l0_1).bind fun t9 => some (a0_0, t9) := by kernel_rfl
noncomputable def laws_toCochain.con : Con := ⟨laws_toCochain.fn.ins, laws_toCochain.fn.outs, Int × (List Int), fun x => laws_toCochain.f x.1 x.2.1, fun r => ((r.1, r.2, ()), (()))⟩
theorem laws_toCochain.valid : Valid Tryd.prog 11 laws_toCochain.con := fn_valid (f := laws_toCochain.fn) (E := laws_toCochain.E) (enc := laws_toCochain.enc) ⟨ttOk, (conCons laws_toInt64S.valid conNil)⟩ (Checked.mixed Tryd.checked) ⟨Tryd.func11, by kernel_rfl, by kernel_rfl, by kernel_rfl, by kernel_rfl, by decide, by kernel_rfl, by kernel_rfl⟩ (fun _ => rfl)
end Go.Proofs.YtacipknfhoadoaaDoor.P
set_option linter.unusedVariables false
namespace Go.Proofs.YtacipknfhoadoaaDoor.P
open Go Go.RowKit Go.Proofs.YtacipknfhoadoaaDoor.D
noncomputable def impl_isDegree.E : Env := { tt := TT, con := [], frz := [], rows := [], live := [], n := 9, pin := 0, nils := [] }
noncomputable def impl_isDegree.fn : D.Fn := { body := Tryd.f51.body.getD .skip, res := Tryd.f51.results.toList, ins := [.one (.v (.int .i64))], outs := [.one (.v .bool)] }
def impl_isDegree.enc (y : lsd (flats impl_isDegree.fn.outs) × lsd (ios impl_isDegree.fn.ins)) : Bool := y.1.1
noncomputable def impl_isDegree.f (a0 : Int) : Option Bool := denF impl_isDegree.E impl_isDegree.fn impl_isDegree.enc (a0, ())
set_option maxRecDepth 100000 in
theorem impl_isDegree.f_eq (a0 : Int) : impl_isDegree.f a0 = if a0 ≥ 0 then (some (decide (a0 ≤ 3))) else (some false) := by kernel_rfl
noncomputable def impl_isDegree.con : Con := ⟨impl_isDegree.fn.ins, impl_isDegree.fn.outs, Bool, fun x => impl_isDegree.f x.1, fun r => ((r, ()), (()))⟩
theorem impl_isDegree.valid : Valid Tryd.prog 51 impl_isDegree.con := fn_valid (f := impl_isDegree.fn) (E := impl_isDegree.E) (enc := impl_isDegree.enc) ⟨ttOk, conNil⟩ (Checked.mixed Tryd.checked) ⟨Tryd.func51, by kernel_rfl, by kernel_rfl, by kernel_rfl, by kernel_rfl, by decide, by kernel_rfl, by kernel_rfl⟩ (fun _ => rfl)
end Go.Proofs.YtacipknfhoadoaaDoor.P
set_option linter.unusedVariables false
namespace Go.Proofs.YtacipknfhoadoaaDoor.P
open Go Go.RowKit Go.Proofs.YtacipknfhoadoaaDoor.D
noncomputable def impl_power.E : Env := { tt := TT, con := [], frz := [], rows := [], live := [(3, [0, 5, 6, 7])], n := 14, pin := 0, nils := [] }
noncomputable def impl_power.fn : D.Fn := { body := Tryd.f63.body.getD .skip, res := Tryd.f63.results.toList, ins := [.one (.v (.int .i64)), .one (.v (.int .i64))], outs := [.one (.v (.int .i64))] }
def impl_power.enc (y : lsd (flats impl_power.fn.outs) × lsd (ios impl_power.fn.ins)) : Int := y.1.1
noncomputable def impl_power.f (a0 : Int) (a1 : Int) : Option Int := denF impl_power.E impl_power.fn impl_power.enc (a0, a1, ())
noncomputable def impl_power.l0 (x0 : Int) (x5 : Int) (x6 : Int) (x7 : Int) : Option Int := denAt impl_power.E impl_power.fn impl_power.enc [1, 1, 0, 1, 0] { fr := [(0, .lf (.int .i64 x0)), (5, .lf (.int .i64 x5)), (6, .lf (.int .i64 x6)), (7, .lf (.int .i64 x7))], ob := [], nx := 0 }
set_option maxRecDepth 100000 in
theorem impl_power.f_eq (a0 : Int) (a1 : Int) : impl_power.f a0 a1 = impl_power.l0 a0 1 a1 0 := by kernel_rfl
set_option maxRecDepth 100000 in
theorem impl_power.l0_eq (x0 : Int) (x5 : Int) (x6 : Int) (x7 : Int) : impl_power.l0 x0 x5 x6 x7 = if x7 < x6 then (impl_power.l0 x0 (wrapI (x5 * x0)) x6 (wrapI (x7 + 1))) else (some x5) := (loop_unfold _ _ _ _).trans (by kernel_rfl)
noncomputable def impl_power.con : Con := ⟨impl_power.fn.ins, impl_power.fn.outs, Int, fun x => impl_power.f x.1 x.2.1, fun r => ((r, ()), (()))⟩
theorem impl_power.valid : Valid Tryd.prog 63 impl_power.con := fn_valid (f := impl_power.fn) (E := impl_power.E) (enc := impl_power.enc) ⟨ttOk, conNil⟩ (Checked.mixed Tryd.checked) ⟨Tryd.func63, by kernel_rfl, by kernel_rfl, by kernel_rfl, by kernel_rfl, by decide, by kernel_rfl, by kernel_rfl⟩ (fun _ => rfl)
end Go.Proofs.YtacipknfhoadoaaDoor.P
set_option linter.unusedVariables false
namespace Go.Proofs.YtacipknfhoadoaaDoor.P
open Go Go.RowKit Go.Proofs.YtacipknfhoadoaaDoor.D
noncomputable def impl_order.E : Env := { tt := TT, con := [], frz := [], rows := [], live := [], n := 6, pin := 0, nils := [] }
noncomputable def impl_order.fn : D.Fn := { body := Tryd.f64.body.getD .skip, res := Tryd.f64.results.toList, ins := [.agg [.v (.sl 25 (.sl 2 (.int .i64)))]], outs := [.one (.v (.int .i64))] }
def impl_order.enc (y : lsd (flats impl_order.fn.outs) × lsd (ios impl_order.fn.ins)) : Int := y.1.1
noncomputable def impl_order.f (l0_0 : List (List Int)) : Option Int := denF impl_order.E impl_order.fn impl_order.enc (l0_0, ())
set_option maxRecDepth 100000 in
theorem impl_order.f_eq (l0_0 : List (List Int)) : impl_order.f l0_0 = some (l0_0.length : Int) := by kernel_rfl
noncomputable def impl_order.con : Con := ⟨impl_order.fn.ins, impl_order.fn.outs, Int, fun x => impl_order.f x.1, fun r => ((r, ()), (()))⟩
theorem impl_order.valid : Valid Tryd.prog 64 impl_order.con := fn_valid (f := impl_order.fn) (E := impl_order.E) (enc := impl_order.enc) ⟨ttOk, conNil⟩ (Checked.mixed Tryd.checked) ⟨Tryd.func64, by kernel_rfl, by kernel_rfl, by kernel_rfl, by kernel_rfl, by decide, by kernel_rfl, by kernel_rfl⟩ (fun _ => rfl)
end Go.Proofs.YtacipknfhoadoaaDoor.P
set_option linter.unusedVariables false
namespace Go.Proofs.YtacipknfhoadoaaDoor.P
open Go Go.RowKit Go.Proofs.YtacipknfhoadoaaDoor.D
noncomputable def impl_cells.E : Env := { tt := TT, con := [(64, impl_order.con), (63, impl_power.con)], frz := [], rows := [], live := [], n := 10, pin := 0, nils := [] }
noncomputable def impl_cells.fn : D.Fn := { body := Tryd.f52.body.getD .skip, res := Tryd.f52.results.toList, ins := [.agg [.v (.sl 25 (.sl 2 (.int .i64)))], .one (.v (.int .i64))], outs := [.one (.v (.int .i64))] }
def impl_cells.enc (y : lsd (flats impl_cells.fn.outs) × lsd (ios impl_cells.fn.ins)) : Int := y.1.1
noncomputable def impl_cells.f (l0_0 : List (List Int)) (a1 : Int) : Option Int := denF impl_cells.E impl_cells.fn impl_cells.enc (l0_0, a1, ())
set_option maxRecDepth 100000 in
theorem impl_cells.f_eq (l0_0 : List (List Int)) (a1 : Int) : impl_cells.f l0_0 a1 = (impl_order.f l0_0).bind fun t6 => (impl_power.f (wrapI (t6 - 1)) a1).bind fun t9 => some t9 := by kernel_rfl
noncomputable def impl_cells.con : Con := ⟨impl_cells.fn.ins, impl_cells.fn.outs, Int, fun x => impl_cells.f x.1 x.2.1, fun r => ((r, ()), (()))⟩
theorem impl_cells.valid : Valid Tryd.prog 52 impl_cells.con := fn_valid (f := impl_cells.fn) (E := impl_cells.E) (enc := impl_cells.enc) ⟨ttOk, (conCons impl_order.valid (conCons impl_power.valid conNil))⟩ (Checked.mixed Tryd.checked) ⟨Tryd.func52, by kernel_rfl, by kernel_rfl, by kernel_rfl, by kernel_rfl, by decide, by kernel_rfl, by kernel_rfl⟩ (fun _ => rfl)
end Go.Proofs.YtacipknfhoadoaaDoor.P
set_option linter.unusedVariables false
namespace Go.Proofs.YtacipknfhoadoaaDoor.P
open Go Go.RowKit Go.Proofs.YtacipknfhoadoaaDoor.D
noncomputable def impl_areIn.E : Env := { tt := TT, con := [], frz := [], rows := [], live := [(2, [0, 7, 8, 9])], n := 21, pin := 0, nils := [] }
noncomputable def impl_areIn.fn : D.Fn := { body := Tryd.f53.body.getD .skip, res := Tryd.f53.results.toList, ins := [.one (.v (.int .i64)), .one (.v (.sl 2 (.int .i64)))], outs := [.one (.v .bool)] }
def impl_areIn.enc (y : lsd (flats impl_areIn.fn.outs) × lsd (ios impl_areIn.fn.ins)) : Bool := y.1.1
noncomputable def impl_areIn.f (a0 : Int) (l1 : List Int) : Option Bool := denF impl_areIn.E impl_areIn.fn impl_areIn.enc (a0, l1, ())
noncomputable def impl_areIn.l0 (x0 : Int) (x7 : List Int) (x8 : Int) (x9 : Int) : Option Bool := denAt impl_areIn.E impl_areIn.fn impl_areIn.enc [1, 0, 1, 0] { fr := [(0, .lf (.int .i64 x0)), (7, .lf (.sl (.int .i64) x7)), (8, .lf (.int .i64 x8)), (9, .lf (.int .i64 x9))], ob := [], nx := 0 }
set_option maxRecDepth 100000 in
theorem impl_areIn.f_eq (a0 : Int) (l1 : List Int) : impl_areIn.f a0 l1 = impl_areIn.l0 a0 l1 (l1.length : Int) 0 := by kernel_rfl
set_option maxRecDepth 100000 in
theorem impl_areIn.l0_eq (x0 : Int) (x7 : List Int) (x8 : Int) (x9 : Int) : impl_areIn.l0 x0 x7 x8 x9 = if x9 < x8 then (if 0 ≤ x9 then (if x9 < (x7.length : Int) then (if (rd x7 x9) < 0 then (some false) else (if (rd x7 x9) ≥ x0 then (some false) else (impl_areIn.l0 x0 x7 x8 (wrapI (x9 + 1))))) else none) else none) else (some true) := (loop_unfold _ _ _ _).trans (by kernel_rfl)
noncomputable def impl_areIn.con : Con := ⟨impl_areIn.fn.ins, impl_areIn.fn.outs, Bool, fun x => impl_areIn.f x.1 x.2.1, fun r => ((r, ()), (()))⟩
theorem impl_areIn.valid : Valid Tryd.prog 53 impl_areIn.con := fn_valid (f := impl_areIn.fn) (E := impl_areIn.E) (enc := impl_areIn.enc) ⟨ttOk, conNil⟩ (Checked.mixed Tryd.checked) ⟨Tryd.func53, by kernel_rfl, by kernel_rfl, by kernel_rfl, by kernel_rfl, by decide, by kernel_rfl, by kernel_rfl⟩ (fun _ => rfl)
end Go.Proofs.YtacipknfhoadoaaDoor.P
set_option linter.unusedVariables false
namespace Go.Proofs.YtacipknfhoadoaaDoor.P
open Go Go.RowKit Go.Proofs.YtacipknfhoadoaaDoor.D
noncomputable def impl_isCochain.E : Env := { tt := TT, con := [(51, impl_isDegree.con), (52, impl_cells.con), (53, impl_areIn.con)], frz := [], rows := [], live := [], n := 27, pin := 0, nils := [] }
noncomputable def impl_isCochain.fn : D.Fn := { body := Tryd.f35.body.getD .skip, res := Tryd.f35.results.toList, ins := [.agg [.v (.sl 25 (.sl 2 (.int .i64)))], .agg [.v (.int .i64), .v (.sl 2 (.int .i64))], .agg [.v (.int .i64), .v (.sl 2 (.int .i64))]], outs := [.one (.v .bool)] }
def impl_isCochain.enc (y : lsd (flats impl_isCochain.fn.outs) × lsd (ios impl_isCochain.fn.ins)) : Bool := y.1.1
noncomputable def impl_isCochain.f (l0_0 : List (List Int)) (a1_0 : Int) (l1_1 : List Int) (a2_0 : Int) (l2_1 : List Int) : Option Bool := denF impl_isCochain.E impl_isCochain.fn impl_isCochain.enc (l0_0, a1_0, l1_1, a2_0, l2_1, ())
set_option maxRecDepth 100000 in
theorem impl_isCochain.f_eq (l0_0 : List (List Int)) (a1_0 : Int) (l1_1 : List Int) (a2_0 : Int) (l2_1 : List Int) : impl_isCochain.f l0_0 a1_0 l1_1 a2_0 l2_1 = (impl_isDegree.f a2_0).bind fun t9 => if t9 = true then ((impl_cells.f l0_0 a2_0).bind fun t17 => if (l2_1.length : Int) = t17 then ((impl_areIn.f a1_0 l2_1).bind fun t25 => some (decide (t25 = true))) else (some false)) else (some false) := by kernel_rfl
noncomputable def impl_isCochain.con : Con := ⟨impl_isCochain.fn.ins, impl_isCochain.fn.outs, Bool, fun x => impl_isCochain.f x.1 x.2.1 x.2.2.1 x.2.2.2.1 x.2.2.2.2.1, fun r => ((r, ()), (()))⟩
theorem impl_isCochain.valid : Valid Tryd.prog 35 impl_isCochain.con := fn_valid (f := impl_isCochain.fn) (E := impl_isCochain.E) (enc := impl_isCochain.enc) ⟨ttOk, (conCons impl_isDegree.valid (conCons impl_cells.valid (conCons impl_areIn.valid conNil)))⟩ (Checked.mixed Tryd.checked) ⟨Tryd.func35, by kernel_rfl, by kernel_rfl, by kernel_rfl, by kernel_rfl, by decide, by kernel_rfl, by kernel_rfl⟩ (fun _ => rfl)
end Go.Proofs.YtacipknfhoadoaaDoor.P
set_option linter.unusedVariables false
namespace Go.Proofs.YtacipknfhoadoaaDoor.P
open Go Go.RowKit Go.Proofs.YtacipknfhoadoaaDoor.D
noncomputable def slices_Index_int64.E : Env := { tt := TT, con := [], frz := [], rows := [], live := [(2, [0, 1, 7, 8])], n := 19, pin := 0, nils := [] }
noncomputable def slices_Index_int64.fn : D.Fn := { body := Tryd.f78.body.getD .skip, res := Tryd.f78.results.toList, ins := [.one (.v (.sl 2 (.int .i64))), .one (.v (.int .i64))], outs := [.one (.v (.int .i64))] }
def slices_Index_int64.enc (y : lsd (flats slices_Index_int64.fn.outs) × lsd (ios slices_Index_int64.fn.ins)) : Int := y.1.1
noncomputable def slices_Index_int64.f (l0 : List Int) (a1 : Int) : Option Int := denF slices_Index_int64.E slices_Index_int64.fn slices_Index_int64.enc (l0, a1, ())
noncomputable def slices_Index_int64.l0 (x0 : List Int) (x1 : Int) (x7 : Int) (x8 : Int) : Option Int := denAt slices_Index_int64.E slices_Index_int64.fn slices_Index_int64.enc [1, 0, 1, 0] { fr := [(0, .lf (.sl (.int .i64) x0)), (1, .lf (.int .i64 x1)), (7, .lf (.int .i64 x7)), (8, .lf (.int .i64 x8))], ob := [], nx := 0 }
set_option maxRecDepth 100000 in
theorem slices_Index_int64.f_eq (l0 : List Int) (a1 : Int) : slices_Index_int64.f l0 a1 = slices_Index_int64.l0 l0 a1 (l0.length : Int) 0 := by kernel_rfl
set_option maxRecDepth 100000 in
theorem slices_Index_int64.l0_eq (x0 : List Int) (x1 : Int) (x7 : Int) (x8 : Int) : slices_Index_int64.l0 x0 x1 x7 x8 = if x8 < x7 then (if 0 ≤ x8 then (if x8 < (x0.length : Int) then (if x1 = (rd x0 x8) then (some x8) else (slices_Index_int64.l0 x0 x1 x7 (wrapI (x8 + 1)))) else none) else none) else (some (-1)) := (loop_unfold _ _ _ _).trans (by kernel_rfl)
noncomputable def slices_Index_int64.con : Con := ⟨slices_Index_int64.fn.ins, slices_Index_int64.fn.outs, Int, fun x => slices_Index_int64.f x.1 x.2.1, fun r => ((r, ()), (()))⟩
theorem slices_Index_int64.valid : Valid Tryd.prog 78 slices_Index_int64.con := fn_valid (f := slices_Index_int64.fn) (E := slices_Index_int64.E) (enc := slices_Index_int64.enc) ⟨ttOk, conNil⟩ (Checked.mixed Tryd.checked) ⟨Tryd.func78, by kernel_rfl, by kernel_rfl, by kernel_rfl, by kernel_rfl, by decide, by kernel_rfl, by kernel_rfl⟩ (fun _ => rfl)
end Go.Proofs.YtacipknfhoadoaaDoor.P
set_option linter.unusedVariables false
namespace Go.Proofs.YtacipknfhoadoaaDoor.P
open Go Go.RowKit Go.Proofs.YtacipknfhoadoaaDoor.D
noncomputable def slices_Contains_int64.E : Env := { tt := TT, con := [(78, slices_Index_int64.con)], frz := [], rows := [], live := [], n := 9, pin := 0, nils := [] }
noncomputable def slices_Contains_int64.fn : D.Fn := { body := Tryd.f66.body.getD .skip, res := Tryd.f66.results.toList, ins := [.one (.v (.sl 2 (.int .i64))), .one (.v (.int .i64))], outs := [.one (.v .bool)] }
def slices_Contains_int64.enc (y : lsd (flats slices_Contains_int64.fn.outs) × lsd (ios slices_Contains_int64.fn.ins)) : Bool := y.1.1
noncomputable def slices_Contains_int64.f (l0 : List Int) (a1 : Int) : Option Bool := denF slices_Contains_int64.E slices_Contains_int64.fn slices_Contains_int64.enc (l0, a1, ())
set_option maxRecDepth 100000 in
theorem slices_Contains_int64.f_eq (l0 : List Int) (a1 : Int) : slices_Contains_int64.f l0 a1 = (slices_Index_int64.f l0 a1).bind fun t7 => some (decide (t7 ≥ 0)) := by kernel_rfl
noncomputable def slices_Contains_int64.con : Con := ⟨slices_Contains_int64.fn.ins, slices_Contains_int64.fn.outs, Bool, fun x => slices_Contains_int64.f x.1 x.2.1, fun r => ((r, ()), (()))⟩
theorem slices_Contains_int64.valid : Valid Tryd.prog 66 slices_Contains_int64.con := fn_valid (f := slices_Contains_int64.fn) (E := slices_Contains_int64.E) (enc := slices_Contains_int64.enc) ⟨ttOk, (conCons slices_Index_int64.valid conNil)⟩ (Checked.mixed Tryd.checked) ⟨Tryd.func66, by kernel_rfl, by kernel_rfl, by kernel_rfl, by kernel_rfl, by decide, by kernel_rfl, by kernel_rfl⟩ (fun _ => rfl)
end Go.Proofs.YtacipknfhoadoaaDoor.P
set_option linter.unusedVariables false
namespace Go.Proofs.YtacipknfhoadoaaDoor.P
open Go Go.RowKit Go.Proofs.YtacipknfhoadoaaDoor.D
noncomputable def impl_IsGroup.E : Env := { tt := TT, con := [(64, impl_order.con), (53, impl_areIn.con), (66, slices_Contains_int64.con)], frz := [], rows := [], live := [(5, [1, 3, 18, 19, 20]), (11, [1, 3, 35, 36]), (16, [1, 3, 6, 35, 36, 68, 69]), (19, [1, 3, 6, 7, 35, 36, 68, 69, 72, 73])], n := 110, pin := 0, nils := [] }
noncomputable def impl_IsGroup.fn : D.Fn := { body := Tryd.f57.body.getD .skip, res := Tryd.f57.results.toList, ins := [.agg [.v (.sl 25 (.sl 2 (.int .i64)))]], outs := [.one (.v .bool)] }
def impl_IsGroup.enc (y : lsd (flats impl_IsGroup.fn.outs) × lsd (ios impl_IsGroup.fn.ins)) : Bool := y.1.1
noncomputable def impl_IsGroup.f (l0_0 : List (List Int)) : Option Bool := denF impl_IsGroup.E impl_IsGroup.fn impl_IsGroup.enc (l0_0, ())
noncomputable def impl_IsGroup.l0 (x3 : Int) (x18 : List (List Int)) (x19 : Int) (x20 : Int) (b0_0 : List (List Int)) : Option Bool := denAt impl_IsGroup.E impl_IsGroup.fn impl_IsGroup.enc [1, 1, 1, 0, 1, 0] { fr := [(1, .lf (.box 0 0)), (3, .lf (.int .i64 x3)), (18, .lf (.sl (.sl 2 (.int .i64)) x18)), (19, .lf (.int .i64 x19)), (20, .lf (.int .i64 x20))], ob := [(0, .box 35 false [.sl (.sl 2 (.int .i64)) b0_0])], nx := 1 }
noncomputable def impl_IsGroup.l1 (x3 : Int) (x35 : Int) (x36 : Int) (b0_0 : List (List Int)) : Option Bool := denAt impl_IsGroup.E impl_IsGroup.fn impl_IsGroup.enc [1, 1, 1, 1, 0, 1, 0] { fr := [(1, .lf (.box 0 0)), (3, .lf (.int .i64 x3)), (35, .lf (.int .i64 x35)), (36, .lf (.int .i64 x36))], ob := [(0, .box 35 false [.sl (.sl 2 (.int .i64)) b0_0])], nx := 1 }
noncomputable def impl_IsGroup.l2 (x3 : Int) (x6 : Int) (x35 : Int) (x36 : Int) (x68 : Int) (x69 : Int) (b0_0 : List (List Int)) : Option Bool := denAt impl_IsGroup.E impl_IsGroup.fn impl_IsGroup.enc [1, 1, 1, 1, 0, 1, 0, 0, 1, 1, 0, 0, 1, 1, 1, 0] { fr := [(1, .lf (.box 0 0)), (3, .lf (.int .i64 x3)), (6, .lf (.int .i64 x6)), (35, .lf (.int .i64 x35)), (36, .lf (.int .i64 x36)), (68, .lf (.int .i64 x68)), (69, .lf (.int .i64 x69))], ob := [(0, .box 35 false [.sl (.sl 2 (.int .i64)) b0_0])], nx := 1 }
noncomputable def impl_IsGroup.l3 (x3 : Int) (x6 : Int) (x7 : Int) (x35 : Int) (x36 : Int) (x68 : Int) (x69 : Int) (x72 : Int) (x73 : Int) (b0_0 : List (List Int)) : Option Bool := denAt impl_IsGroup.E impl_IsGroup.fn impl_IsGroup.enc [1, 1, 1, 1, 0, 1, 0, 0, 1, 1, 0, 0, 1, 1, 1, 0, 0, 1, 1, 0, 0, 1, 1, 0] { fr := [(1, .lf (.box 0 0)), (3, .lf (.int .i64 x3)), (6, .lf (.int .i64 x6)), (7, .lf (.int .i64 x7)), (35, .lf (.int .i64 x35)), (36, .lf (.int .i64 x36)), (68, .lf (.int .i64 x68)), (69, .lf (.int .i64 x69)), (72, .lf (.int .i64 x72)), (73, .lf (.int .i64 x73))], ob := [(0, .box 35 false [.sl (.sl 2 (.int .i64)) b0_0])], nx := 1 }
set_option maxRecDepth 100000 in
theorem impl_IsGroup.f_eq (l0_0 : List (List Int)) : impl_IsGroup.f l0_0 = (impl_order.f l0_0).bind fun t10 => if t10 < 1 then (some false) else (if t10 > 8 then (some false) else (impl_IsGroup.l0 t10 l0_0 (l0_0.length : Int) 0 l0_0)) := by kernel_rfl
set_option maxRecDepth 100000 in
theorem impl_IsGroup.l0_eq (x3 : Int) (x18 : List (List Int)) (x19 : Int) (x20 : Int) (b0_0 : List (List Int)) : impl_IsGroup.l0 x3 x18 x19 x20 b0_0 = if x20 < x19 then (if 0 ≤ x20 then (if x20 < (x18.length : Int) then (if ((row x18 x20).length : Int) = x3 then ((impl_areIn.f x3 (row x18 x20)).bind fun t31 => if t31 = true then (impl_IsGroup.l0 x3 x18 x19 (wrapI (x20 + 1)) b0_0) else (some false)) else (some false)) else none) else none) else (impl_IsGroup.l1 x3 x3 0 b0_0) := (loop_unfold _ _ _ _).trans (by kernel_rfl)
set_option maxRecDepth 100000 in
theorem impl_IsGroup.l1_eq (x3 : Int) (x35 : Int) (x36 : Int) (b0_0 : List (List Int)) : impl_IsGroup.l1 x3 x35 x36 b0_0 = if x36 < x35 then (if 0 < (b0_0.length : Int) then (if 0 ≤ x36 then (if x36 < ((row b0_0 0).length : Int) then (if (T b0_0 0 x36) = x36 then (if 0 ≤ x36 then (if x36 < (b0_0.length : Int) then (if 0 < ((row b0_0 x36).length : Int) then (if (T b0_0 x36 0) = x36 then (if 0 ≤ x36 then (if x36 < (b0_0.length : Int) then ((slices_Contains_int64.f (row b0_0 x36) 0).bind fun t65 => if t65 = true then (impl_IsGroup.l2 x3 x36 x35 x36 x3 0 b0_0) else (some false)) else none) else none) else (some false)) else none) else none) else none) else (some false)) else none) else none) else none) else (some true) := (loop_unfold _ _ _ _).trans (by kernel_rfl)
set_option maxRecDepth 100000 in
theorem impl_IsGroup.l2_eq (x3 : Int) (x6 : Int) (x35 : Int) (x36 : Int) (x68 : Int) (x69 : Int) (b0_0 : List (List Int)) : impl_IsGroup.l2 x3 x6 x35 x36 x68 x69 b0_0 = if x69 < x68 then (impl_IsGroup.l3 x3 x6 x69 x35 x36 x68 x69 x3 0 b0_0) else (impl_IsGroup.l1 x3 x35 (wrapI (x36 + 1)) b0_0) := (loop_unfold _ _ _ _).trans (by kernel_rfl)
set_option maxRecDepth 100000 in
theorem impl_IsGroup.l3_eq (x3 : Int) (x6 : Int) (x7 : Int) (x35 : Int) (x36 : Int) (x68 : Int) (x69 : Int) (x72 : Int) (x73 : Int) (b0_0 : List (List Int)) : impl_IsGroup.l3 x3 x6 x7 x35 x36 x68 x69 x72 x73 b0_0 = if x73 < x72 then (if 0 ≤ x6 then (if x6 < (b0_0.length : Int) then (if 0 ≤ x7 then (if x7 < ((row b0_0 x6).length : Int) then (if 0 ≤ T b0_0 x6 x7 then (if T b0_0 x6 x7 < (b0_0.length : Int) then (if 0 ≤ x73 then (if x73 < ((row b0_0 (T b0_0 x6 x7)).length : Int) then (if 0 ≤ x6 then (if x6 < (b0_0.length : Int) then (if 0 ≤ x7 then (if x7 < (b0_0.length : Int) then (if 0 ≤ x73 then (if x73 < ((row b0_0 x7).length : Int) then (if 0 ≤ T b0_0 x7 x73 then (if T b0_0 x7 x73 < ((row b0_0 x6).length : Int) then (if (T b0_0 (T b0_0 x6 x7) x73) = (T b0_0 x6 (T b0_0 x7 x73)) then (impl_IsGroup.l3 x3 x6 x7 x35 x36 x68 x69 x72 (wrapI (x73 + 1)) b0_0) else (some false)) else none) else none) else none) else none) else none) else none) else none) else none) else none) else none) else none) else none) else none) else none) else none) else none) else (impl_IsGroup.l2 x3 x6 x35 x36 x68 (wrapI (x69 + 1)) b0_0) := (loop_unfold _ _ _ _).trans (by kernel_rfl)
noncomputable def impl_IsGroup.con : Con := ⟨impl_IsGroup.fn.ins, impl_IsGroup.fn.outs, Bool, fun x => impl_IsGroup.f x.1, fun r => ((r, ()), (()))⟩
theorem impl_IsGroup.valid : Valid Tryd.prog 57 impl_IsGroup.con := fn_valid (f := impl_IsGroup.fn) (E := impl_IsGroup.E) (enc := impl_IsGroup.enc) ⟨ttOk, (conCons impl_order.valid (conCons impl_areIn.valid (conCons slices_Contains_int64.valid conNil)))⟩ (Checked.mixed Tryd.checked) ⟨Tryd.func57, by kernel_rfl, by kernel_rfl, by kernel_rfl, by kernel_rfl, by decide, by kernel_rfl, by kernel_rfl⟩ (fun _ => rfl)
end Go.Proofs.YtacipknfhoadoaaDoor.P
set_option linter.unusedVariables false
namespace Go.Proofs.YtacipknfhoadoaaDoor.P
open Go Go.RowKit Go.Proofs.YtacipknfhoadoaaDoor.D
noncomputable def impl_isModulus.E : Env := { tt := TT, con := [], frz := [], rows := [], live := [], n := 9, pin := 0, nils := [] }
noncomputable def impl_isModulus.fn : D.Fn := { body := Tryd.f67.body.getD .skip, res := Tryd.f67.results.toList, ins := [.one (.v (.int .i64))], outs := [.one (.v .bool)] }
def impl_isModulus.enc (y : lsd (flats impl_isModulus.fn.outs) × lsd (ios impl_isModulus.fn.ins)) : Bool := y.1.1
noncomputable def impl_isModulus.f (a0 : Int) : Option Bool := denF impl_isModulus.E impl_isModulus.fn impl_isModulus.enc (a0, ())
set_option maxRecDepth 100000 in
theorem impl_isModulus.f_eq (a0 : Int) : impl_isModulus.f a0 = if a0 ≥ 2 then (some (decide (a0 ≤ 12))) else (some false) := by kernel_rfl
noncomputable def impl_isModulus.con : Con := ⟨impl_isModulus.fn.ins, impl_isModulus.fn.outs, Bool, fun x => impl_isModulus.f x.1, fun r => ((r, ()), (()))⟩
theorem impl_isModulus.valid : Valid Tryd.prog 67 impl_isModulus.con := fn_valid (f := impl_isModulus.fn) (E := impl_isModulus.E) (enc := impl_isModulus.enc) ⟨ttOk, conNil⟩ (Checked.mixed Tryd.checked) ⟨Tryd.func67, by kernel_rfl, by kernel_rfl, by kernel_rfl, by kernel_rfl, by decide, by kernel_rfl, by kernel_rfl⟩ (fun _ => rfl)
end Go.Proofs.YtacipknfhoadoaaDoor.P
set_option linter.unusedVariables false
namespace Go.Proofs.YtacipknfhoadoaaDoor.P
open Go Go.RowKit Go.Proofs.YtacipknfhoadoaaDoor.D
noncomputable def impl_gcd.E : Env := { tt := TT, con := [], frz := [], rows := [], live := [(1, [0, 1])], n := 12, pin := 0, nils := [] }
noncomputable def impl_gcd.fn : D.Fn := { body := Tryd.f79.body.getD .skip, res := Tryd.f79.results.toList, ins := [.one (.v (.int .i64)), .one (.v (.int .i64))], outs := [.one (.v (.int .i64))] }
def impl_gcd.enc (y : lsd (flats impl_gcd.fn.outs) × lsd (ios impl_gcd.fn.ins)) : Int := y.1.1
noncomputable def impl_gcd.f (a0 : Int) (a1 : Int) : Option Int := denF impl_gcd.E impl_gcd.fn impl_gcd.enc (a0, a1, ())
noncomputable def impl_gcd.l0 (x0 : Int) (x1 : Int) : Option Int := denAt impl_gcd.E impl_gcd.fn impl_gcd.enc [1, 0, 0] { fr := [(0, .lf (.int .i64 x0)), (1, .lf (.int .i64 x1))], ob := [], nx := 0 }
set_option maxRecDepth 100000 in
theorem impl_gcd.f_eq (a0 : Int) (a1 : Int) : impl_gcd.f a0 a1 = impl_gcd.l0 a0 a1 := by kernel_rfl
set_option maxRecDepth 100000 in
theorem impl_gcd.l0_eq (x0 : Int) (x1 : Int) : impl_gcd.l0 x0 x1 = if x1 = 0 then (some x0) else (if x1 = 0 then none else (impl_gcd.l0 x1 ((x0 : Int).tmod x1))) := (loop_unfold _ _ _ _).trans (by kernel_rfl)
noncomputable def impl_gcd.con : Con := ⟨impl_gcd.fn.ins, impl_gcd.fn.outs, Int, fun x => impl_gcd.f x.1 x.2.1, fun r => ((r, ()), (()))⟩
theorem impl_gcd.valid : Valid Tryd.prog 79 impl_gcd.con := fn_valid (f := impl_gcd.fn) (E := impl_gcd.E) (enc := impl_gcd.enc) ⟨ttOk, conNil⟩ (Checked.mixed Tryd.checked) ⟨Tryd.func79, by kernel_rfl, by kernel_rfl, by kernel_rfl, by kernel_rfl, by decide, by kernel_rfl, by kernel_rfl⟩ (fun _ => rfl)
end Go.Proofs.YtacipknfhoadoaaDoor.P
set_option linter.unusedVariables false
namespace Go.Proofs.YtacipknfhoadoaaDoor.P
open Go Go.RowKit Go.Proofs.YtacipknfhoadoaaDoor.D
noncomputable def impl_isUnit.E : Env := { tt := TT, con := [(79, impl_gcd.con)], frz := [], rows := [], live := [], n := 18, pin := 0, nils := [] }
noncomputable def impl_isUnit.fn : D.Fn := { body := Tryd.f68.body.getD .skip, res := Tryd.f68.results.toList, ins := [.one (.v (.int .i64)), .one (.v (.int .i64))], outs := [.one (.v .bool)] }
def impl_isUnit.enc (y : lsd (flats impl_isUnit.fn.outs) × lsd (ios impl_isUnit.fn.ins)) : Bool := y.1.1
noncomputable def impl_isUnit.f (a0 : Int) (a1 : Int) : Option Bool := denF impl_isUnit.E impl_isUnit.fn impl_isUnit.enc (a0, a1, ())
set_option maxRecDepth 100000 in
theorem impl_isUnit.f_eq (a0 : Int) (a1 : Int) : impl_isUnit.f a0 a1 = if a1 ≥ 1 then (if a1 < a0 then ((impl_gcd.f a0 a1).bind fun t15 => some (decide (t15 = 1))) else (some false)) else (some false) := by kernel_rfl
noncomputable def impl_isUnit.con : Con := ⟨impl_isUnit.fn.ins, impl_isUnit.fn.outs, Bool, fun x => impl_isUnit.f x.1 x.2.1, fun r => ((r, ()), (()))⟩
theorem impl_isUnit.valid : Valid Tryd.prog 68 impl_isUnit.con := fn_valid (f := impl_isUnit.fn) (E := impl_isUnit.E) (enc := impl_isUnit.enc) ⟨ttOk, (conCons impl_gcd.valid conNil)⟩ (Checked.mixed Tryd.checked) ⟨Tryd.func68, by kernel_rfl, by kernel_rfl, by kernel_rfl, by kernel_rfl, by decide, by kernel_rfl, by kernel_rfl⟩ (fun _ => rfl)
end Go.Proofs.YtacipknfhoadoaaDoor.P
set_option linter.unusedVariables false
namespace Go.Proofs.YtacipknfhoadoaaDoor.P
open Go Go.RowKit Go.Proofs.YtacipknfhoadoaaDoor.D
noncomputable def impl_Group_times.E : Env := { tt := TT, con := [], frz := [], rows := [], live := [(3, [2, 5, 8, 9, 10])], n := 24, pin := 0, nils := [] }
noncomputable def impl_Group_times.fn : D.Fn := { body := Tryd.f69.body.getD .skip, res := Tryd.f69.results.toList, ins := [.agg [.v (.sl 25 (.sl 2 (.int .i64)))], .one (.v (.sl 2 (.int .i64)))], outs := [.one (.v (.int .i64))] }
def impl_Group_times.enc (y : lsd (flats impl_Group_times.fn.outs) × lsd (ios impl_Group_times.fn.ins)) : Int := y.1.1
noncomputable def impl_Group_times.f (l0_0 : List (List Int)) (l1 : List Int) : Option Int := denF impl_Group_times.E impl_Group_times.fn impl_Group_times.enc (l0_0, l1, ())
noncomputable def impl_Group_times.l0 (x5 : Int) (x8 : List Int) (x9 : Int) (x10 : Int) (b0_0 : List (List Int)) : Option Int := denAt impl_Group_times.E impl_Group_times.fn impl_Group_times.enc [1, 1, 0, 1, 0] { fr := [(2, .lf (.box 0 0)), (5, .lf (.int .i64 x5)), (8, .lf (.sl (.int .i64) x8)), (9, .lf (.int .i64 x9)), (10, .lf (.int .i64 x10))], ob := [(0, .box 35 false [.sl (.sl 2 (.int .i64)) b0_0])], nx := 1 }
set_option maxRecDepth 100000 in
theorem impl_Group_times.f_eq (l0_0 : List (List Int)) (l1 : List Int) : impl_Group_times.f l0_0 l1 = impl_Group_times.l0 0 l1 (l1.length : Int) 0 l0_0 := by kernel_rfl
set_option maxRecDepth 100000 in
theorem impl_Group_times.l0_eq (x5 : Int) (x8 : List Int) (x9 : Int) (x10 : Int) (b0_0 : List (List Int)) : impl_Group_times.l0 x5 x8 x9 x10 b0_0 = if x10 < x9 then (if 0 ≤ x10 then (if x10 < (x8.length : Int) then (if 0 ≤ x5 then (if x5 < (b0_0.length : Int) then (if 0 ≤ rd x8 x10 then (if rd x8 x10 < ((row b0_0 x5).length : Int) then (impl_Group_times.l0 (T b0_0 x5 (rd x8 x10)) x8 x9 (wrapI (x10 + 1)) b0_0) else none) else none) else none) else none) else none) else none) else (some x5) := (loop_unfold _ _ _ _).trans (by kernel_rfl)
noncomputable def impl_Group_times.con : Con := ⟨impl_Group_times.fn.ins, impl_Group_times.fn.outs, Int, fun x => impl_Group_times.f x.1 x.2.1, fun r => ((r, ()), (()))⟩
theorem impl_Group_times.valid : Valid Tryd.prog 69 impl_Group_times.con := fn_valid (f := impl_Group_times.fn) (E := impl_Group_times.E) (enc := impl_Group_times.enc) ⟨ttOk, conNil⟩ (Checked.mixed Tryd.checked) ⟨Tryd.func69, by kernel_rfl, by kernel_rfl, by kernel_rfl, by kernel_rfl, by decide, by kernel_rfl, by kernel_rfl⟩ (fun _ => rfl)
end Go.Proofs.YtacipknfhoadoaaDoor.P
set_option linter.unusedVariables false
namespace Go.Proofs.YtacipknfhoadoaaDoor.P
open Go Go.RowKit Go.Proofs.YtacipknfhoadoaaDoor.D
noncomputable def impl_isModule.E : Env := { tt := TT, con := [(67, impl_isModulus.con), (64, impl_order.con), (68, impl_isUnit.con), (69, impl_Group_times.con)], frz := [], rows := [], live := [(4, [2, 3, 29, 30, 31]), (10, [2, 3, 42, 43]), (13, [2, 3, 7, 42, 43, 47, 48])], n := 77, pin := 0, nils := [] }
noncomputable def impl_isModule.fn : D.Fn := { body := Tryd.f58.body.getD .skip, res := Tryd.f58.results.toList, ins := [.agg [.v (.sl 25 (.sl 2 (.int .i64)))], .agg [.v (.int .i64), .v (.sl 2 (.int .i64))]], outs := [.one (.v .bool)] }
def impl_isModule.enc (y : lsd (flats impl_isModule.fn.outs) × lsd (ios impl_isModule.fn.ins)) : Bool := y.1.1
noncomputable def impl_isModule.f (l0_0 : List (List Int)) (a1_0 : Int) (l1_1 : List Int) : Option Bool := denF impl_isModule.E impl_isModule.fn impl_isModule.enc (l0_0, a1_0, l1_1, ())
noncomputable def impl_isModule.l0 (x29 : List Int) (x30 : Int) (x31 : Int) (b0_0 : List (List Int)) (b1_0 : Int) (b1_1 : List Int) : Option Bool := denAt impl_isModule.E impl_isModule.fn impl_isModule.enc [1, 1, 0, 1, 0] { fr := [(2, .lf (.box 0 0)), (3, .lf (.box 1 0)), (29, .lf (.sl (.int .i64) x29)), (30, .lf (.int .i64 x30)), (31, .lf (.int .i64 x31))], ob := [(0, .box 35 false [.sl (.sl 2 (.int .i64)) b0_0]), (1, .box 37 false [.int .i64 b1_0, .sl (.int .i64) b1_1])], nx := 2 }
noncomputable def impl_isModule.l1 (x42 : Int) (x43 : Int) (b0_0 : List (List Int)) (b1_0 : Int) (b1_1 : List Int) : Option Bool := denAt impl_isModule.E impl_isModule.fn impl_isModule.enc [1, 1, 1, 0, 1, 0] { fr := [(2, .lf (.box 0 0)), (3, .lf (.box 1 0)), (42, .lf (.int .i64 x42)), (43, .lf (.int .i64 x43))], ob := [(0, .box 35 false [.sl (.sl 2 (.int .i64)) b0_0]), (1, .box 37 false [.int .i64 b1_0, .sl (.int .i64) b1_1])], nx := 2 }
noncomputable def impl_isModule.l2 (x7 : Int) (x42 : Int) (x43 : Int) (x47 : Int) (x48 : Int) (b0_0 : List (List Int)) (b1_0 : Int) (b1_1 : List Int) : Option Bool := denAt impl_isModule.E impl_isModule.fn impl_isModule.enc [1, 1, 1, 0, 1, 0, 0, 1, 1, 0, 0, 1, 1, 0] { fr := [(2, .lf (.box 0 0)), (3, .lf (.box 1 0)), (7, .lf (.int .i64 x7)), (42, .lf (.int .i64 x42)), (43, .lf (.int .i64 x43)), (47, .lf (.int .i64 x47)), (48, .lf (.int .i64 x48))], ob := [(0, .box 35 false [.sl (.sl 2 (.int .i64)) b0_0]), (1, .box 37 false [.int .i64 b1_0, .sl (.int .i64) b1_1])], nx := 2 }
set_option maxRecDepth 100000 in
theorem impl_isModule.f_eq (l0_0 : List (List Int)) (a1_0 : Int) (l1_1 : List Int) : impl_isModule.f l0_0 a1_0 l1_1 = (impl_isModulus.f a1_0).bind fun t11 => if t11 = true then ((impl_order.f l0_0).bind fun t18 => if (l1_1.length : Int) = t18 then (if 0 < (l1_1.length : Int) then (if (rd l1_1 0) = 1 then (impl_isModule.l0 l1_1 (l1_1.length : Int) 0 l0_0 a1_0 l1_1) else (some false)) else none) else (some false)) else (some false) := by kernel_rfl
set_option maxRecDepth 100000 in
theorem impl_isModule.l0_eq (x29 : List Int) (x30 : Int) (x31 : Int) (b0_0 : List (List Int)) (b1_0 : Int) (b1_1 : List Int) : impl_isModule.l0 x29 x30 x31 b0_0 b1_0 b1_1 = if x31 < x30 then (if 0 ≤ x31 then (if x31 < (x29.length : Int) then ((impl_isUnit.f b1_0 (rd x29 x31)).bind fun t38 => if t38 = true then (impl_isModule.l0 x29 x30 (wrapI (x31 + 1)) b0_0 b1_0 b1_1) else (some false)) else none) else none) else ((impl_order.f b0_0).bind fun t42 => impl_isModule.l1 t42 0 b0_0 b1_0 b1_1) := (loop_unfold _ _ _ _).trans (by kernel_rfl)
set_option maxRecDepth 100000 in
theorem impl_isModule.l1_eq (x42 : Int) (x43 : Int) (b0_0 : List (List Int)) (b1_0 : Int) (b1_1 : List Int) : impl_isModule.l1 x42 x43 b0_0 b1_0 b1_1 = if x43 < x42 then ((impl_order.f b0_0).bind fun t47 => impl_isModule.l2 x43 x42 x43 t47 0 b0_0 b1_0 b1_1) else (some true) := (loop_unfold _ _ _ _).trans (by kernel_rfl)
set_option maxRecDepth 100000 in
theorem impl_isModule.l2_eq (x7 : Int) (x42 : Int) (x43 : Int) (x47 : Int) (x48 : Int) (b0_0 : List (List Int)) (b1_0 : Int) (b1_1 : List Int) : impl_isModule.l2 x7 x42 x43 x47 x48 b0_0 b1_0 b1_1 = if x48 < x47 then ((impl_Group_times.f b0_0 ([x7, x48] : List Int)).bind fun t57 => if 0 ≤ t57 then (if t57 < (b1_1.length : Int) then (if 0 ≤ x7 then (if x7 < (b1_1.length : Int) then (if 0 ≤ x48 then (if x48 < (b1_1.length : Int) then (if b1_0 = 0 then none else (if (rd b1_1 t57) = ((wrapI ((rd b1_1 x7) * (rd b1_1 x48)) : Int).tmod b1_0) then (impl_isModule.l2 x7 x42 x43 x47 (wrapI (x48 + 1)) b0_0 b1_0 b1_1) else (some false))) else none) else none) else none) else none) else none) else none) else (impl_isModule.l1 x42 (wrapI (x43 + 1)) b0_0 b1_0 b1_1) := (loop_unfold _ _ _ _).trans (by kernel_rfl)
noncomputable def impl_isModule.con : Con := ⟨impl_isModule.fn.ins, impl_isModule.fn.outs, Bool, fun x => impl_isModule.f x.1 x.2.1 x.2.2.1, fun r => ((r, ()), (()))⟩
theorem impl_isModule.valid : Valid Tryd.prog 58 impl_isModule.con := fn_valid (f := impl_isModule.fn) (E := impl_isModule.E) (enc := impl_isModule.enc) ⟨ttOk, (conCons impl_isModulus.valid (conCons impl_order.valid (conCons impl_isUnit.valid (conCons impl_Group_times.valid conNil))))⟩ (Checked.mixed Tryd.checked) ⟨Tryd.func58, by kernel_rfl, by kernel_rfl, by kernel_rfl, by kernel_rfl, by decide, by kernel_rfl, by kernel_rfl⟩ (fun _ => rfl)
end Go.Proofs.YtacipknfhoadoaaDoor.P
set_option linter.unusedVariables false
namespace Go.Proofs.YtacipknfhoadoaaDoor.P
open Go Go.RowKit Go.Proofs.YtacipknfhoadoaaDoor.D
noncomputable def impl_areModules.E : Env := { tt := TT, con := [(57, impl_IsGroup.con), (58, impl_isModule.con)], frz := [], rows := [], live := [(2, [2, 7, 8, 9])], n := 23, pin := 0, nils := [] }
noncomputable def impl_areModules.fn : D.Fn := { body := Tryd.f43.body.getD .skip, res := Tryd.f43.results.toList, ins := [.agg [.v (.sl 25 (.sl 2 (.int .i64)))], .one (.v (.sl 37 (.pr (.int .i64) (.sl 2 (.int .i64)))))], outs := [.one (.v .bool)] }
def impl_areModules.enc (y : lsd (flats impl_areModules.fn.outs) × lsd (ios impl_areModules.fn.ins)) : Bool := y.1.1
noncomputable def impl_areModules.f (l0_0 : List (List Int)) (l1 : List (Int × (List Int))) : Option Bool := denF impl_areModules.E impl_areModules.fn impl_areModules.enc (l0_0, l1, ())
noncomputable def impl_areModules.l0 (x7 : List (Int × (List Int))) (x8 : Int) (x9 : Int) (b0_0 : List (List Int)) : Option Bool := denAt impl_areModules.E impl_areModules.fn impl_areModules.enc [1, 0, 1, 0] { fr := [(2, .lf (.box 0 0)), (7, .lf (.sl (.pr (.int .i64) (.sl 2 (.int .i64))) x7)), (8, .lf (.int .i64 x8)), (9, .lf (.int .i64 x9))], ob := [(0, .box 35 false [.sl (.sl 2 (.int .i64)) b0_0])], nx := 1 }
set_option maxRecDepth 100000 in
theorem impl_areModules.f_eq (l0_0 : List (List Int)) (l1 : List (Int × (List Int))) : impl_areModules.f l0_0 l1 = impl_areModules.l0 l1 (l1.length : Int) 0 l0_0 := by kernel_rfl
set_option maxRecDepth 100000 in
theorem impl_areModules.l0_eq (x7 : List (Int × (List Int))) (x8 : Int) (x9 : Int) (b0_0 : List (List Int)) : impl_areModules.l0 x7 x8 x9 b0_0 = if x9 < x8 then (if 0 ≤ x9 then (if x9 < (x7.length : Int) then ((impl_IsGroup.f b0_0).bind fun t14 => if t14 = true then ((impl_isModule.f b0_0 ((Ty.rd (.pr (.int .i64) (.sl 2 (.int .i64))) x7 x9).1) ((Ty.rd (.pr (.int .i64) (.sl 2 (.int .i64))) x7 x9).2)).bind fun t19 => if t19 = true then (impl_areModules.l0 x7 x8 (wrapI (x9 + 1)) b0_0) else (some false)) else (some false)) else none) else none) else (some true) := (loop_unfold _ _ _ _).trans (by kernel_rfl)
noncomputable def impl_areModules.con : Con := ⟨impl_areModules.fn.ins, impl_areModules.fn.outs, Bool, fun x => impl_areModules.f x.1 x.2.1, fun r => ((r, ()), (()))⟩
theorem impl_areModules.valid : Valid Tryd.prog 43 impl_areModules.con := fn_valid (f := impl_areModules.fn) (E := impl_areModules.E) (enc := impl_areModules.enc) ⟨ttOk, (conCons impl_IsGroup.valid (conCons impl_isModule.valid conNil))⟩ (Checked.mixed Tryd.checked) ⟨Tryd.func43, by kernel_rfl, by kernel_rfl, by kernel_rfl, by kernel_rfl, by decide, by kernel_rfl, by kernel_rfl⟩ (fun _ => rfl)
end Go.Proofs.YtacipknfhoadoaaDoor.P
set_option linter.unusedVariables false
namespace Go.Proofs.YtacipknfhoadoaaDoor.P
open Go Go.RowKit Go.Proofs.YtacipknfhoadoaaDoor.D
noncomputable def impl_cochainCode.E : Env := { tt := TT, con := [(43, impl_areModules.con), (35, impl_isCochain.con)], frz := [], rows := [11], live := [(4, [3, 4, 14, 15, 16])], n := 26, pin := 0, nils := [] }
noncomputable def impl_cochainCode.fn : D.Fn := { body := Tryd.f28.body.getD .skip, res := Tryd.f28.results.toList, ins := [.agg [.v (.sl 25 (.sl 2 (.int .i64)))], .agg [.v (.int .i64), .v (.sl 2 (.int .i64))], .one (.v (.sl 39 (.pr (.int .i64) (.sl 2 (.int .i64)))))], outs := [.one (.v (.int .i64))] }
def impl_cochainCode.enc (y : lsd (flats impl_cochainCode.fn.outs) × lsd (ios impl_cochainCode.fn.ins)) : Int := y.1.1
noncomputable def impl_cochainCode.f (l0_0 : List (List Int)) (a1_0 : Int) (l1_1 : List Int) (l2 : List (Int × (List Int))) : Option Int := denF impl_cochainCode.E impl_cochainCode.fn impl_cochainCode.enc (l0_0, a1_0, l1_1, l2, ())
noncomputable def impl_cochainCode.l0 (x14 : List (Int × (List Int))) (x15 : Int) (x16 : Int) (b0_0 : List (List Int)) (b1_0 : Int) (b1_1 : List Int) : Option Int := denAt impl_cochainCode.E impl_cochainCode.fn impl_cochainCode.enc [1, 1, 0, 1, 0] { fr := [(3, .lf (.box 0 0)), (4, .lf (.box 1 0)), (14, .lf (.sl (.pr (.int .i64) (.sl 2 (.int .i64))) x14)), (15, .lf (.int .i64 x15)), (16, .lf (.int .i64 x16))], ob := [(0, .box 35 false [.sl (.sl 2 (.int .i64)) b0_0]), (1, .box 37 false [.int .i64 b1_0, .sl (.int .i64) b1_1])], nx := 2 }
set_option maxRecDepth 100000 in
theorem impl_cochainCode.f_eq (l0_0 : List (List Int)) (a1_0 : Int) (l1_1 : List Int) (l2 : List (Int × (List Int))) : impl_cochainCode.f l0_0 a1_0 l1_1 l2 = (impl_areModules.f l0_0 ([(a1_0, l1_1)] : List (Int × (List Int)))).bind fun t12 => if t12 = true then (impl_cochainCode.l0 l2 (l2.length : Int) 0 l0_0 a1_0 l1_1) else (some 1) := by kernel_rfl
set_option maxRecDepth 100000 in
theorem impl_cochainCode.l0_eq (x14 : List (Int × (List Int))) (x15 : Int) (x16 : Int) (b0_0 : List (List Int)) (b1_0 : Int) (b1_1 : List Int) : impl_cochainCode.l0 x14 x15 x16 b0_0 b1_0 b1_1 = if x16 < x15 then (if 0 ≤ x16 then (if x16 < (x14.length : Int) then ((impl_isCochain.f b0_0 b1_0 b1_1 ((Ty.rd (.pr (.int .i64) (.sl 2 (.int .i64))) x14 x16).1) ((Ty.rd (.pr (.int .i64) (.sl 2 (.int .i64))) x14 x16).2)).bind fun t23 => if t23 = true then (impl_cochainCode.l0 x14 x15 (wrapI (x16 + 1)) b0_0 b1_0 b1_1) else (some 1)) else none) else none) else (some 0) := (loop_unfold _ _ _ _).trans (by kernel_rfl)
noncomputable def impl_cochainCode.con : Con := ⟨impl_cochainCode.fn.ins, impl_cochainCode.fn.outs, Int, fun x => impl_cochainCode.f x.1 x.2.1 x.2.2.1 x.2.2.2.1, fun r => ((r, ()), (()))⟩
theorem impl_cochainCode.valid : Valid Tryd.prog 28 impl_cochainCode.con := fn_valid (f := impl_cochainCode.fn) (E := impl_cochainCode.E) (enc := impl_cochainCode.enc) ⟨ttOk, (conCons impl_areModules.valid (conCons impl_isCochain.valid conNil))⟩ (Checked.mixed Tryd.checked) ⟨Tryd.func28, by kernel_rfl, by kernel_rfl, by kernel_rfl, by kernel_rfl, by decide, by kernel_rfl, by kernel_rfl⟩ (fun _ => rfl)
end Go.Proofs.YtacipknfhoadoaaDoor.P
set_option linter.unusedVariables false
namespace Go.Proofs.YtacipknfhoadoaaDoor.P
open Go Go.RowKit Go.Proofs.YtacipknfhoadoaaDoor.D
noncomputable def istrconv_small.E : Env := { tt := TT, con := [], frz := [], rows := [], live := [], n := 15, pin := 0, nils := [] }
noncomputable def istrconv_small.fn : D.Fn := { body := Tryd.f80.body.getD .skip, res := Tryd.f80.results.toList, ins := [.one (.v (.int .i64))], outs := [.one (.v .str)] }
def istrconv_small.enc (y : lsd (flats istrconv_small.fn.outs) × lsd (ios istrconv_small.fn.ins)) : ByteArray := y.1.1
noncomputable def istrconv_small.f (a0 : Int) : Option ByteArray := denF istrconv_small.E istrconv_small.fn istrconv_small.enc (a0, ())
set_option maxRecDepth 100000 in
theorem istrconv_small.f_eq (a0 : Int) : istrconv_small.f a0 = if a0 < 10 then (if 0 ≤ a0 then (if a0 ≤ wrapI (a0 + 1) then (if wrapI (a0 + 1) ≤ ((⟨#[48, 49, 50, 51, 52, 53, 54, 55, 56, 57, 97, 98, 99, 100, 101, 102, 103, 104, 105, 106, 107, 108, 109, 110, 111, 112, 113, 114, 115, 116, 117, 118, 119, 120, 121, 122]⟩ : ByteArray).size : Int) then (some ((⟨#[48, 49, 50, 51, 52, 53, 54, 55, 56, 57, 97, 98, 99, 100, 101, 102, 103, 104, 105, 106, 107, 108, 109, 110, 111, 112, 113, 114, 115, 116, 117, 118, 119, 120, 121, 122]⟩ : ByteArray).extract (a0 : Int).toNat (wrapI (a0 + 1) : Int).toNat)) else none) else none) else none) else (if 0 ≤ wrapI (a0 * 2) then (if wrapI (a0 * 2) ≤ wrapI ((wrapI (a0 * 2)) + 2) then (if wrapI ((wrapI (a0 * 2)) + 2) ≤ ((⟨List.toArray (List.append (List.append ([48, 48, 48, 49, 48, 50, 48, 51, 48, 52, 48, 53, 48, 54, 48, 55, 48, 56, 48, 57, 49, 48, 49, 49, 49, 50, 49, 51, 49, 52, 49, 53, 49, 54, 49, 55, 49, 56, 49, 57, 50, 48, 50, 49, 50, 50, 50, 51, 50, 52] : List UInt8) ([50, 53, 50, 54, 50, 55, 50, 56, 50, 57, 51, 48, 51, 49, 51, 50, 51, 51, 51, 52, 51, 53, 51, 54, 51, 55, 51, 56, 51, 57, 52, 48, 52, 49, 52, 50, 52, 51, 52, 52, 52, 53, 52, 54, 52, 55, 52, 56, 52, 57] : List UInt8)) (List.append ([53, 48, 53, 49, 53, 50, 53, 51, 53, 52, 53, 53, 53, 54, 53, 55, 53, 56, 53, 57, 54, 48, 54, 49, 54, 50, 54, 51, 54, 52, 54, 53, 54, 54, 54, 55, 54, 56, 54, 57, 55, 48, 55, 49, 55, 50, 55, 51, 55, 52] : List UInt8) ([55, 53, 55, 54, 55, 55, 55, 56, 55, 57, 56, 48, 56, 49, 56, 50, 56, 51, 56, 52, 56, 53, 56, 54, 56, 55, 56, 56, 56, 57, 57, 48, 57, 49, 57, 50, 57, 51, 57, 52, 57, 53, 57, 54, 57, 55, 57, 56, 57, 57] : List UInt8)))⟩ : ByteArray).size : Int) then (some ((⟨List.toArray (List.append (List.append ([48, 48, 48, 49, 48, 50, 48, 51, 48, 52, 48, 53, 48, 54, 48, 55, 48, 56, 48, 57, 49, 48, 49, 49, 49, 50, 49, 51, 49, 52, 49, 53, 49, 54, 49, 55, 49, 56, 49, 57, 50, 48, 50, 49, 50, 50, 50, 51, 50, 52] : List UInt8) ([50, 53, 50, 54, 50, 55, 50, 56, 50, 57, 51, 48, 51, 49, 51, 50, 51, 51, 51, 52, 51, 53, 51, 54, 51, 55, 51, 56, 51, 57, 52, 48, 52, 49, 52, 50, 52, 51, 52, 52, 52, 53, 52, 54, 52, 55, 52, 56, 52, 57] : List UInt8)) (List.append ([53, 48, 53, 49, 53, 50, 53, 51, 53, 52, 53, 53, 53, 54, 53, 55, 53, 56, 53, 57, 54, 48, 54, 49, 54, 50, 54, 51, 54, 52, 54, 53, 54, 54, 54, 55, 54, 56, 54, 57, 55, 48, 55, 49, 55, 50, 55, 51, 55, 52] : List UInt8) ([55, 53, 55, 54, 55, 55, 55, 56, 55, 57, 56, 48, 56, 49, 56, 50, 56, 51, 56, 52, 56, 53, 56, 54, 56, 55, 56, 56, 56, 57, 57, 48, 57, 49, 57, 50, 57, 51, 57, 52, 57, 53, 57, 54, 57, 55, 57, 56, 57, 57] : List UInt8)))⟩ : ByteArray).extract (wrapI (a0 * 2) : Int).toNat (wrapI ((wrapI (a0 * 2)) + 2) : Int).toNat)) else none) else none) else none) := by kernel_rfl
noncomputable def istrconv_small.con : Con := ⟨istrconv_small.fn.ins, istrconv_small.fn.outs, ByteArray, fun x => istrconv_small.f x.1, fun r => ((r, ()), (()))⟩
theorem istrconv_small.valid : Valid Tryd.prog 80 istrconv_small.con := fn_valid (f := istrconv_small.fn) (E := istrconv_small.E) (enc := istrconv_small.enc) ⟨ttOk, conNil⟩ (Checked.mixed Tryd.checked) ⟨Tryd.func80, by kernel_rfl, by kernel_rfl, by kernel_rfl, by kernel_rfl, by decide, by kernel_rfl, by kernel_rfl⟩ (fun _ => rfl)
end Go.Proofs.YtacipknfhoadoaaDoor.P
set_option linter.unusedVariables false
namespace Go.Proofs.YtacipknfhoadoaaDoor.P
open Go Go.RowKit Go.Proofs.YtacipknfhoadoaaDoor.D
noncomputable def istrconv_FormatInt.E : Env := { tt := TT, con := [(80, istrconv_small.con)], frz := [], rows := [], live := [], n := 54, pin := 0, nils := [] }
noncomputable def istrconv_FormatInt.fn : D.Fn := { body := Tryd.f70.body.getD .skip, res := Tryd.f70.results.toList, ins := [.one (.v (.int .i64)), .one (.v (.int .i64))], outs := [.one (.v .str)] }
def istrconv_FormatInt.enc (y : lsd (flats istrconv_FormatInt.fn.outs) × lsd (ios istrconv_FormatInt.fn.ins)) : ByteArray := y.1.1
noncomputable def istrconv_FormatInt.f (a0 : Int) (a1 : Int) : Option ByteArray := denF istrconv_FormatInt.E istrconv_FormatInt.fn istrconv_FormatInt.enc (a0, a1, ())
set_option maxRecDepth 100000 in
theorem istrconv_FormatInt.f_eq (a0 : Int) (a1 : Int) : istrconv_FormatInt.f a0 a1 = if a1 = 10 then (if 0 ≤ a0 then (if a0 < 100 then ((istrconv_small.f a0).bind fun t19 => some t19) else none) else none) else none := by kernel_rfl
noncomputable def istrconv_FormatInt.con : Con := ⟨istrconv_FormatInt.fn.ins, istrconv_FormatInt.fn.outs, ByteArray, fun x => istrconv_FormatInt.f x.1 x.2.1, fun r => ((r, ()), (()))⟩
theorem istrconv_FormatInt.valid : Valid Tryd.prog 70 istrconv_FormatInt.con := fn_valid (f := istrconv_FormatInt.fn) (E := istrconv_FormatInt.E) (enc := istrconv_FormatInt.enc) ⟨ttOk, (conCons istrconv_small.valid conNil)⟩ (Checked.mixed Tryd.checked) ⟨Tryd.func70, by kernel_rfl, by kernel_rfl, by kernel_rfl, by kernel_rfl, by decide, by kernel_rfl, by kernel_rfl⟩ (fun _ => rfl)
end Go.Proofs.YtacipknfhoadoaaDoor.P
set_option linter.unusedVariables false
namespace Go.Proofs.YtacipknfhoadoaaDoor.P
open Go Go.RowKit Go.Proofs.YtacipknfhoadoaaDoor.D
noncomputable def strconv_FormatInt.E : Env := { tt := TT, con := [(70, istrconv_FormatInt.con)], frz := [], rows := [], live := [], n := 8, pin := 0, nils := [] }
noncomputable def strconv_FormatInt.fn : D.Fn := { body := Tryd.f59.body.getD .skip, res := Tryd.f59.results.toList, ins := [.one (.v (.int .i64)), .one (.v (.int .i64))], outs := [.one (.v .str)] }
def strconv_FormatInt.enc (y : lsd (flats strconv_FormatInt.fn.outs) × lsd (ios strconv_FormatInt.fn.ins)) : ByteArray := y.1.1
noncomputable def strconv_FormatInt.f (a0 : Int) (a1 : Int) : Option ByteArray := denF strconv_FormatInt.E strconv_FormatInt.fn strconv_FormatInt.enc (a0, a1, ())
set_option maxRecDepth 100000 in
theorem strconv_FormatInt.f_eq (a0 : Int) (a1 : Int) : strconv_FormatInt.f a0 a1 = (istrconv_FormatInt.f a0 a1).bind fun t7 => some t7 := by kernel_rfl
noncomputable def strconv_FormatInt.con : Con := ⟨strconv_FormatInt.fn.ins, strconv_FormatInt.fn.outs, ByteArray, fun x => strconv_FormatInt.f x.1 x.2.1, fun r => ((r, ()), (()))⟩
theorem strconv_FormatInt.valid : Valid Tryd.prog 59 strconv_FormatInt.con := fn_valid (f := strconv_FormatInt.fn) (E := strconv_FormatInt.E) (enc := strconv_FormatInt.enc) ⟨ttOk, (conCons istrconv_FormatInt.valid conNil)⟩ (Checked.mixed Tryd.checked) ⟨Tryd.func59, by kernel_rfl, by kernel_rfl, by kernel_rfl, by kernel_rfl, by decide, by kernel_rfl, by kernel_rfl⟩ (fun _ => rfl)
end Go.Proofs.YtacipknfhoadoaaDoor.P
set_option linter.unusedVariables false
namespace Go.Proofs.YtacipknfhoadoaaDoor.P
open Go Go.RowKit Go.Proofs.YtacipknfhoadoaaDoor.D
noncomputable def impl_decimal.E : Env := { tt := TT, con := [(59, strconv_FormatInt.con)], frz := [], rows := [], live := [], n := 5, pin := 0, nils := [] }
noncomputable def impl_decimal.fn : D.Fn := { body := Tryd.f44.body.getD .skip, res := Tryd.f44.results.toList, ins := [.one (.v (.int .i64))], outs := [.one (.v .str)] }
def impl_decimal.enc (y : lsd (flats impl_decimal.fn.outs) × lsd (ios impl_decimal.fn.ins)) : ByteArray := y.1.1
noncomputable def impl_decimal.f (a0 : Int) : Option ByteArray := denF impl_decimal.E impl_decimal.fn impl_decimal.enc (a0, ())
set_option maxRecDepth 100000 in
theorem impl_decimal.f_eq (a0 : Int) : impl_decimal.f a0 = (strconv_FormatInt.f a0 10).bind fun t4 => some t4 := by kernel_rfl
noncomputable def impl_decimal.con : Con := ⟨impl_decimal.fn.ins, impl_decimal.fn.outs, ByteArray, fun x => impl_decimal.f x.1, fun r => ((r, ()), (()))⟩
theorem impl_decimal.valid : Valid Tryd.prog 44 impl_decimal.con := fn_valid (f := impl_decimal.fn) (E := impl_decimal.E) (enc := impl_decimal.enc) ⟨ttOk, (conCons strconv_FormatInt.valid conNil)⟩ (Checked.mixed Tryd.checked) ⟨Tryd.func44, by kernel_rfl, by kernel_rfl, by kernel_rfl, by kernel_rfl, by decide, by kernel_rfl, by kernel_rfl⟩ (fun _ => rfl)
end Go.Proofs.YtacipknfhoadoaaDoor.P
