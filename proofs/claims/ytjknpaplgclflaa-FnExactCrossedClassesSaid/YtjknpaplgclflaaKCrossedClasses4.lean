/- What the proof of the law CrossedClasses stands on, part 4: words, each Go function's Lean function, and that the Go code comes to its answers; no condition. (Packed by wip/myprint/pack.py out of what the kit's printer wrote, its words among it, partly by our patches of it, and out of texts of this session.) -/
import Derived.ChangeSlices
import Derived.ChangeSame
import Derived.Deep.Matrix
import Derived.Lib.SmallJoins
import Derived.Test.YtjknpaplgclflaaProg
import Derived.Test.YtjknpaplgclflaaChecked
import Derived.KernelRfl
import Derived.Test.YtjknpaplgclflaaKCrossedClasses3
set_option linter.unusedVariables false
set_option linter.unusedSimpArgs false
namespace Go.Proofs.Ytjknpaplgclflaa.P
open Go Go.RowKit Go.Proofs.Ytjknpaplgclflaa.D
noncomputable def laws_markModule.E : Env := { tt := TT, con := [(33, laws_markInt64S.con)], frz := [], rows := [], live := [], n := 10, pin := 1, nils := [] }
noncomputable def laws_markModule.fn : D.Fn := { body := Try.f16.body.getD .skip, res := Try.f16.results.toList, ins := [.agg [.v (.int .i64), .own 2 true (.int .i64)], .one (.v (.int .i64))], outs := [.one (.v (.int .i64))] }
def laws_markModule.enc (y : lsd (flats laws_markModule.fn.outs) × lsd (ios laws_markModule.fn.ins)) : Int × (List Int) := (y.1.1, y.2.1)
noncomputable def laws_markModule.f (a0_0 : Int) (l0_1 : List Int) (a1 : Int) : Option (Int × (List Int)) := denF laws_markModule.E laws_markModule.fn laws_markModule.enc (a0_0, l0_1, a1, ())
set_option maxRecDepth 100000 in
theorem laws_markModule.f_eq (a0_0 : Int) (l0_1 : List Int) (a1 : Int) : laws_markModule.f a0_0 l0_1 a1 = (laws_markInt64S.f l0_1 a1).bind fun t8 => some (t8.1, t8.2) := by kernel_rfl
noncomputable def laws_markModule.con : Con := ⟨laws_markModule.fn.ins, laws_markModule.fn.outs, Int × (List Int), fun x => laws_markModule.f x.1 x.2.1 x.2.2.1, fun r => ((r.1, ()), (r.2, ()))⟩
theorem laws_markModule.valid : Valid Try.prog 16 laws_markModule.con := fn_valid (f := laws_markModule.fn) (E := laws_markModule.E) (enc := laws_markModule.enc) ⟨ttOk, (conCons laws_markInt64S.valid conNil)⟩ (Checked.mixed Try.checked) ⟨Try.func16, by kernel_rfl, by kernel_rfl, by kernel_rfl, by kernel_rfl, by decide, by kernel_rfl, by kernel_rfl⟩ (fun _ => rfl)
end Go.Proofs.Ytjknpaplgclflaa.P
namespace Go.Proofs.Ytjknpaplgclflaa.P
open Go Go.RowKit Go.Proofs.Ytjknpaplgclflaa.D
noncomputable def laws_heldInt64S.E : Env := { tt := TT, con := [], frz := [], rows := [], live := [(2, [0, 1, 5])], n := 21, pin := 0, nils := [] }
noncomputable def laws_heldInt64S.fn : D.Fn := { body := Try.f34.body.getD .skip, res := Try.f34.results.toList, ins := [.one (.v (.sl 2 (.int .i64))), .one (.v (.int .i64))], outs := [.one (.v (.int .i64))] }
def laws_heldInt64S.enc (y : lsd (flats laws_heldInt64S.fn.outs) × lsd (ios laws_heldInt64S.fn.ins)) : Int := y.1.1
noncomputable def laws_heldInt64S.f (l0 : List Int) (a1 : Int) : Option Int := denF laws_heldInt64S.E laws_heldInt64S.fn laws_heldInt64S.enc (l0, a1, ())
noncomputable def laws_heldInt64S.l0 (x0 : List Int) (x1 : Int) (x5 : Int) : Option Int := denAt laws_heldInt64S.E laws_heldInt64S.fn laws_heldInt64S.enc [1, 0, 1, 0] { fr := [(0, .lf (.sl (.int .i64) x0)), (1, .lf (.int .i64 x1)), (5, .lf (.int .i64 x5))], ob := [], nx := 0 }
set_option maxRecDepth 100000 in
theorem laws_heldInt64S.f_eq (l0 : List Int) (a1 : Int) : laws_heldInt64S.f l0 a1 = laws_heldInt64S.l0 l0 a1 0 := by kernel_rfl
set_option maxRecDepth 100000 in
theorem laws_heldInt64S.l0_eq (x0 : List Int) (x1 : Int) (x5 : Int) : laws_heldInt64S.l0 x0 x1 x5 = if x5 < (x0.length : Int) then (if 0 ≤ x5 then (if x5 < (x0.length : Int) then (if (rd x0 x5) = x1 then (laws_heldInt64S.l0 x0 (wrapI (x1 + 1)) (wrapI (x5 + 1))) else (some (-1))) else none) else none) else (some x1) := (loop_unfold _ _ _ _).trans (by kernel_rfl)
noncomputable def laws_heldInt64S.con : Con := ⟨laws_heldInt64S.fn.ins, laws_heldInt64S.fn.outs, Int, fun x => laws_heldInt64S.f x.1 x.2.1, fun r => ((r, ()), (()))⟩
theorem laws_heldInt64S.valid : Valid Try.prog 34 laws_heldInt64S.con := fn_valid (f := laws_heldInt64S.fn) (E := laws_heldInt64S.E) (enc := laws_heldInt64S.enc) ⟨ttOk, conNil⟩ (Checked.mixed Try.checked) ⟨Try.func34, by kernel_rfl, by kernel_rfl, by kernel_rfl, by kernel_rfl, by decide, by kernel_rfl, by kernel_rfl⟩ (fun _ => rfl)
end Go.Proofs.Ytjknpaplgclflaa.P
namespace Go.Proofs.Ytjknpaplgclflaa.P
open Go Go.RowKit Go.Proofs.Ytjknpaplgclflaa.D
noncomputable def laws_heldInt64SS.E : Env := { tt := TT, con := [(34, laws_heldInt64S.con)], frz := [], rows := [], live := [(2, [0, 1, 5])], n := 21, pin := 0, nils := [] }
noncomputable def laws_heldInt64SS.fn : D.Fn := { body := Try.f18.body.getD .skip, res := Try.f18.results.toList, ins := [.one (.v (.sl 25 (.sl 2 (.int .i64)))), .one (.v (.int .i64))], outs := [.one (.v (.int .i64))] }
def laws_heldInt64SS.enc (y : lsd (flats laws_heldInt64SS.fn.outs) × lsd (ios laws_heldInt64SS.fn.ins)) : Int := y.1.1
noncomputable def laws_heldInt64SS.f (l0 : List (List Int)) (a1 : Int) : Option Int := denF laws_heldInt64SS.E laws_heldInt64SS.fn laws_heldInt64SS.enc (l0, a1, ())
noncomputable def laws_heldInt64SS.l0 (x0 : List (List Int)) (x1 : Int) (x5 : Int) : Option Int := denAt laws_heldInt64SS.E laws_heldInt64SS.fn laws_heldInt64SS.enc [1, 0, 1, 0] { fr := [(0, .lf (.sl (.sl 2 (.int .i64)) x0)), (1, .lf (.int .i64 x1)), (5, .lf (.int .i64 x5))], ob := [], nx := 0 }
set_option maxRecDepth 100000 in
theorem laws_heldInt64SS.f_eq (l0 : List (List Int)) (a1 : Int) : laws_heldInt64SS.f l0 a1 = laws_heldInt64SS.l0 l0 a1 0 := by kernel_rfl
set_option maxRecDepth 100000 in
theorem laws_heldInt64SS.l0_eq (x0 : List (List Int)) (x1 : Int) (x5 : Int) : laws_heldInt64SS.l0 x0 x1 x5 = if x5 < (x0.length : Int) then (if 0 ≤ x5 then (if x5 < (x0.length : Int) then ((laws_heldInt64S.f (row x0 x5) x1).bind fun t17 => if t17 < 0 then (some (-1)) else (laws_heldInt64SS.l0 x0 t17 (wrapI (x5 + 1)))) else none) else none) else (some x1) := (loop_unfold _ _ _ _).trans (by kernel_rfl)
noncomputable def laws_heldInt64SS.con : Con := ⟨laws_heldInt64SS.fn.ins, laws_heldInt64SS.fn.outs, Int, fun x => laws_heldInt64SS.f x.1 x.2.1, fun r => ((r, ()), (()))⟩
theorem laws_heldInt64SS.valid : Valid Try.prog 18 laws_heldInt64SS.con := fn_valid (f := laws_heldInt64SS.fn) (E := laws_heldInt64SS.E) (enc := laws_heldInt64SS.enc) ⟨ttOk, (conCons laws_heldInt64S.valid conNil)⟩ (Checked.mixed Try.checked) ⟨Try.func18, by kernel_rfl, by kernel_rfl, by kernel_rfl, by kernel_rfl, by decide, by kernel_rfl, by kernel_rfl⟩ (fun _ => rfl)
end Go.Proofs.Ytjknpaplgclflaa.P
namespace Go.Proofs.Ytjknpaplgclflaa.P
open Go Go.RowKit Go.Proofs.Ytjknpaplgclflaa.D
noncomputable def spec_l01In.E : Env := { tt := TT, con := [], frz := [], rows := [], live := [], n := 15, pin := 0, nils := [] }
noncomputable def spec_l01In.fn : D.Fn := { body := Try.f43.body.getD .skip, res := Try.f43.results.toList, ins := [.one (.v (.int .i64)), .one (.v (.int .i64)), .one (.v (.int .i64))], outs := [.one (.v .bool)] }
def spec_l01In.enc (y : lsd (flats spec_l01In.fn.outs) × lsd (ios spec_l01In.fn.ins)) : Bool := y.1.1
noncomputable def spec_l01In.f (a0 : Int) (a1 : Int) (a2 : Int) : Option Bool := denF spec_l01In.E spec_l01In.fn spec_l01In.enc (a0, a1, a2, ())
set_option maxRecDepth 100000 in
theorem spec_l01In.f_eq (a0 : Int) (a1 : Int) (a2 : Int) : spec_l01In.f a0 a1 a2 = if a0 ≥ a1 then (some (decide (a0 ≤ a2))) else (some false) := by kernel_rfl
noncomputable def spec_l01In.con : Con := ⟨spec_l01In.fn.ins, spec_l01In.fn.outs, Bool, fun x => spec_l01In.f x.1 x.2.1 x.2.2.1, fun r => ((r, ()), (()))⟩
theorem spec_l01In.valid : Valid Try.prog 43 spec_l01In.con := fn_valid (f := spec_l01In.fn) (E := spec_l01In.E) (enc := spec_l01In.enc) ⟨ttOk, conNil⟩ (Checked.mixed Try.checked) ⟨Try.func43, by kernel_rfl, by kernel_rfl, by kernel_rfl, by kernel_rfl, by decide, by kernel_rfl, by kernel_rfl⟩ (fun _ => rfl)
end Go.Proofs.Ytjknpaplgclflaa.P
namespace Go.Proofs.Ytjknpaplgclflaa.P
open Go Go.RowKit Go.Proofs.Ytjknpaplgclflaa.D
noncomputable def spec_l01Is.E : Env := { tt := TT, con := [(43, spec_l01In.con)], frz := [], rows := [], live := [(5, [1, 3, 4]), (10, [1, 3, 4, 5]), (15, [1, 3, 6]), (21, [1, 3, 6, 7, 8]), (25, [1, 3, 6, 7, 8, 9])], n := 137, pin := 0, nils := [7] }
noncomputable def spec_l01Is.fn : D.Fn := { body := Try.f25.body.getD .skip, res := Try.f25.results.toList, ins := [.agg [.v (.sl 25 (.sl 2 (.int .i64)))]], outs := [.one (.v .bool)] }
def spec_l01Is.enc (y : lsd (flats spec_l01Is.fn.outs) × lsd (ios spec_l01Is.fn.ins)) : Bool := y.1.1
noncomputable def spec_l01Is.f (l0_0 : List (List Int)) : Option Bool := denF spec_l01Is.E spec_l01Is.fn spec_l01Is.enc (l0_0, ())
noncomputable def spec_l01Is.l0 (x3 : Int) (x4 : Int) (b0_0 : List (List Int)) : Option Bool := denAt spec_l01Is.E spec_l01Is.fn spec_l01Is.enc [1, 1, 1, 0, 1, 0] { fr := [(1, .lf (.box 0 0)), (3, .lf (.int .i64 x3)), (4, .lf (.int .i64 x4))], ob := [(0, .box 32 false [.sl (.sl 2 (.int .i64)) b0_0])], nx := 1 }
noncomputable def spec_l01Is.l1 (x3 : Int) (x4 : Int) (x5 : Int) (b0_0 : List (List Int)) : Option Bool := denAt spec_l01Is.E spec_l01Is.fn spec_l01Is.enc [1, 1, 1, 0, 1, 0, 0, 1, 0, 0, 1, 1, 0] { fr := [(1, .lf (.box 0 0)), (3, .lf (.int .i64 x3)), (4, .lf (.int .i64 x4)), (5, .lf (.int .i64 x5))], ob := [(0, .box 32 false [.sl (.sl 2 (.int .i64)) b0_0])], nx := 1 }
noncomputable def spec_l01Is.l2 (x3 : Int) (x6 : Int) (b0_0 : List (List Int)) : Option Bool := denAt spec_l01Is.E spec_l01Is.fn spec_l01Is.enc [1, 1, 1, 1, 0, 1, 0] { fr := [(1, .lf (.box 0 0)), (3, .lf (.int .i64 x3)), (6, .lf (.int .i64 x6))], ob := [(0, .box 32 false [.sl (.sl 2 (.int .i64)) b0_0])], nx := 1 }
noncomputable def spec_l01Is.l3 (x3 : Int) (x6 : Int) (x7 : Bool) (x8 : Int) (b0_0 : List (List Int)) : Option Bool := denAt spec_l01Is.E spec_l01Is.fn spec_l01Is.enc [1, 1, 1, 1, 0, 1, 0, 0, 1, 0, 0, 1, 1, 0, 1, 0] { fr := [(1, .lf (.box 0 0)), (3, .lf (.int .i64 x3)), (6, .lf (.int .i64 x6)), (7, .lf (boolLf x7)), (8, .lf (.int .i64 x8))], ob := [(0, .box 32 false [.sl (.sl 2 (.int .i64)) b0_0])], nx := 1 }
noncomputable def spec_l01Is.l4 (x3 : Int) (x6 : Int) (x7 : Bool) (x8 : Int) (x9 : Int) (b0_0 : List (List Int)) : Option Bool := denAt spec_l01Is.E spec_l01Is.fn spec_l01Is.enc [1, 1, 1, 1, 0, 1, 0, 0, 1, 0, 0, 1, 1, 0, 1, 0, 0, 1, 0, 0, 1, 1, 0] { fr := [(1, .lf (.box 0 0)), (3, .lf (.int .i64 x3)), (6, .lf (.int .i64 x6)), (7, .lf (boolLf x7)), (8, .lf (.int .i64 x8)), (9, .lf (.int .i64 x9))], ob := [(0, .box 32 false [.sl (.sl 2 (.int .i64)) b0_0])], nx := 1 }
set_option maxRecDepth 100000 in
theorem spec_l01Is.f_eq (l0_0 : List (List Int)) : spec_l01Is.f l0_0 = (spec_l01In.f (l0_0.length : Int) 1 8).bind fun t14 => if t14 = true then (spec_l01Is.l0 (l0_0.length : Int) 0 l0_0) else (some false) := by kernel_rfl
set_option maxRecDepth 100000 in
theorem spec_l01Is.l0_eq (x3 : Int) (x4 : Int) (b0_0 : List (List Int)) : spec_l01Is.l0 x3 x4 b0_0 = if x4 < x3 then (if 0 ≤ x4 then (if x4 < (b0_0.length : Int) then (if ((row b0_0 x4).length : Int) = x3 then (spec_l01Is.l1 x3 x4 0 b0_0) else (some false)) else none) else none) else (spec_l01Is.l2 x3 0 b0_0) := (loop_unfold _ _ _ _).trans (by kernel_rfl)
set_option maxRecDepth 100000 in
theorem spec_l01Is.l1_eq (x3 : Int) (x4 : Int) (x5 : Int) (b0_0 : List (List Int)) : spec_l01Is.l1 x3 x4 x5 b0_0 = if x5 < x3 then (if 0 ≤ x4 then (if x4 < (b0_0.length : Int) then (if 0 ≤ x5 then (if x5 < ((row b0_0 x4).length : Int) then ((spec_l01In.f (T b0_0 x4 x5) 0 (wrapI (x3 - 1))).bind fun t44 => if t44 = true then (spec_l01Is.l1 x3 x4 (wrapI (x5 + 1)) b0_0) else (some false)) else none) else none) else none) else none) else (spec_l01Is.l0 x3 (wrapI (x4 + 1)) b0_0) := (loop_unfold _ _ _ _).trans (by kernel_rfl)
set_option maxRecDepth 100000 in
theorem spec_l01Is.l2_eq (x3 : Int) (x6 : Int) (b0_0 : List (List Int)) : spec_l01Is.l2 x3 x6 b0_0 = if x6 < x3 then (if 0 < (b0_0.length : Int) then (if 0 ≤ x6 then (if x6 < ((row b0_0 0).length : Int) then (if (T b0_0 0 x6) = x6 then (if 0 ≤ x6 then (if x6 < (b0_0.length : Int) then (if 0 < ((row b0_0 x6).length : Int) then (if (T b0_0 x6 0) = x6 then (spec_l01Is.l3 x3 x6 false 0 b0_0) else (some false)) else none) else none) else none) else (some false)) else none) else none) else none) else (some true) := (loop_unfold _ _ _ _).trans (by kernel_rfl)
set_option maxRecDepth 100000 in
theorem spec_l01Is.l3_eq (x3 : Int) (x6 : Int) (x7 : Bool) (x8 : Int) (b0_0 : List (List Int)) : spec_l01Is.l3 x3 x6 x7 x8 b0_0 = if x8 < x3 then (if x7 = true then (spec_l01Is.l4 x3 x6 true x8 0 b0_0) else (if 0 ≤ x6 then (if x6 < (b0_0.length : Int) then (if 0 ≤ x8 then (if x8 < ((row b0_0 x6).length : Int) then (if (T b0_0 x6 x8) = 0 then (if 0 ≤ x8 then (if x8 < (b0_0.length : Int) then (if 0 ≤ x6 then (if x6 < ((row b0_0 x8).length : Int) then (spec_l01Is.l4 x3 x6 (decide ((T b0_0 x8 x6) = 0)) x8 0 b0_0) else none) else none) else none) else none) else (spec_l01Is.l4 x3 x6 false x8 0 b0_0)) else none) else none) else none) else none)) else (if x7 = true then (spec_l01Is.l2 x3 (wrapI (x6 + 1)) b0_0) else (some false)) := (loop_unfold _ _ _ _).trans (by kernel_rfl)
set_option maxRecDepth 100000 in
theorem spec_l01Is.l4_eq (x3 : Int) (x6 : Int) (x7 : Bool) (x8 : Int) (x9 : Int) (b0_0 : List (List Int)) : spec_l01Is.l4 x3 x6 x7 x8 x9 b0_0 = if x9 < x3 then (if 0 ≤ x6 then (if x6 < (b0_0.length : Int) then (if 0 ≤ x8 then (if x8 < ((row b0_0 x6).length : Int) then (if 0 ≤ T b0_0 x6 x8 then (if T b0_0 x6 x8 < (b0_0.length : Int) then (if 0 ≤ x9 then (if x9 < ((row b0_0 (T b0_0 x6 x8)).length : Int) then (if 0 ≤ x6 then (if x6 < (b0_0.length : Int) then (if 0 ≤ x8 then (if x8 < (b0_0.length : Int) then (if 0 ≤ x9 then (if x9 < ((row b0_0 x8).length : Int) then (if 0 ≤ T b0_0 x8 x9 then (if T b0_0 x8 x9 < ((row b0_0 x6).length : Int) then (if (T b0_0 (T b0_0 x6 x8) x9) = (T b0_0 x6 (T b0_0 x8 x9)) then (spec_l01Is.l4 x3 x6 x7 x8 (wrapI (x9 + 1)) b0_0) else (some false)) else none) else none) else none) else none) else none) else none) else none) else none) else none) else none) else none) else none) else none) else none) else none) else none) else (spec_l01Is.l3 x3 x6 x7 (wrapI (x8 + 1)) b0_0) := (loop_unfold _ _ _ _).trans (by kernel_rfl)
noncomputable def spec_l01Is.con : Con := ⟨spec_l01Is.fn.ins, spec_l01Is.fn.outs, Bool, fun x => spec_l01Is.f x.1, fun r => ((r, ()), (()))⟩
theorem spec_l01Is.valid : Valid Try.prog 25 spec_l01Is.con := fn_valid (f := spec_l01Is.fn) (E := spec_l01Is.E) (enc := spec_l01Is.enc) ⟨ttOk, (conCons spec_l01In.valid conNil)⟩ (Checked.mixed Try.checked) ⟨Try.func25, by kernel_rfl, by kernel_rfl, by kernel_rfl, by kernel_rfl, by decide, by kernel_rfl, by kernel_rfl⟩ (fun _ => rfl)
end Go.Proofs.Ytjknpaplgclflaa.P
namespace Go.Proofs.Ytjknpaplgclflaa.P
open Go Go.RowKit Go.Proofs.Ytjknpaplgclflaa.D
noncomputable def spec_l01Gcd.E : Env := { tt := TT, con := [], frz := [], rows := [], live := [(1, [0, 1])], n := 17, pin := 0, nils := [] }
noncomputable def spec_l01Gcd.fn : D.Fn := { body := Try.f44.body.getD .skip, res := Try.f44.results.toList, ins := [.one (.v (.int .i64)), .one (.v (.int .i64))], outs := [.one (.v (.int .i64))] }
def spec_l01Gcd.enc (y : lsd (flats spec_l01Gcd.fn.outs) × lsd (ios spec_l01Gcd.fn.ins)) : Int := y.1.1
noncomputable def spec_l01Gcd.f (a0 : Int) (a1 : Int) : Option Int := denF spec_l01Gcd.E spec_l01Gcd.fn spec_l01Gcd.enc (a0, a1, ())
noncomputable def spec_l01Gcd.l0 (x0 : Int) (x1 : Int) : Option Int := denAt spec_l01Gcd.E spec_l01Gcd.fn spec_l01Gcd.enc [1, 0, 0] { fr := [(0, .lf (.int .i64 x0)), (1, .lf (.int .i64 x1))], ob := [], nx := 0 }
set_option maxRecDepth 100000 in
theorem spec_l01Gcd.f_eq (a0 : Int) (a1 : Int) : spec_l01Gcd.f a0 a1 = spec_l01Gcd.l0 a0 a1 := by kernel_rfl
set_option maxRecDepth 100000 in
theorem spec_l01Gcd.l0_eq (x0 : Int) (x1 : Int) : spec_l01Gcd.l0 x0 x1 = if x1 = 0 then (some (if (wrapI (0 - x0)) > x0 then (wrapI (0 - x0)) else x0)) else (if x1 = 0 then none else (spec_l01Gcd.l0 x1 ((x0 : Int).tmod x1))) := (loop_unfold _ _ _ _).trans (by kernel_rfl)
noncomputable def spec_l01Gcd.con : Con := ⟨spec_l01Gcd.fn.ins, spec_l01Gcd.fn.outs, Int, fun x => spec_l01Gcd.f x.1 x.2.1, fun r => ((r, ()), (()))⟩
theorem spec_l01Gcd.valid : Valid Try.prog 44 spec_l01Gcd.con := fn_valid (f := spec_l01Gcd.fn) (E := spec_l01Gcd.E) (enc := spec_l01Gcd.enc) ⟨ttOk, conNil⟩ (Checked.mixed Try.checked) ⟨Try.func44, by kernel_rfl, by kernel_rfl, by kernel_rfl, by kernel_rfl, by decide, by kernel_rfl, by kernel_rfl⟩ (fun _ => rfl)
end Go.Proofs.Ytjknpaplgclflaa.P
namespace Go.Proofs.Ytjknpaplgclflaa.P
open Go Go.RowKit Go.Proofs.Ytjknpaplgclflaa.D
noncomputable def spec_l02Is.E : Env := { tt := TT, con := [(43, spec_l01In.con), (44, spec_l01Gcd.con)], frz := [], rows := [], live := [(4, [2, 3, 5]), (9, [2, 3, 6]), (12, [2, 3, 6, 7])], n := 90, pin := 0, nils := [] }
noncomputable def spec_l02Is.fn : D.Fn := { body := Try.f26.body.getD .skip, res := Try.f26.results.toList, ins := [.agg [.v (.sl 25 (.sl 2 (.int .i64)))], .agg [.v (.int .i64), .v (.sl 2 (.int .i64))]], outs := [.one (.v .bool)] }
def spec_l02Is.enc (y : lsd (flats spec_l02Is.fn.outs) × lsd (ios spec_l02Is.fn.ins)) : Bool := y.1.1
noncomputable def spec_l02Is.f (l0_0 : List (List Int)) (a1_0 : Int) (l1_1 : List Int) : Option Bool := denF spec_l02Is.E spec_l02Is.fn spec_l02Is.enc (l0_0, a1_0, l1_1, ())
noncomputable def spec_l02Is.l0 (x5 : Int) (b0_0 : List (List Int)) (b1_0 : Int) (b1_1 : List Int) : Option Bool := denAt spec_l02Is.E spec_l02Is.fn spec_l02Is.enc [1, 1, 0, 1, 0] { fr := [(2, .lf (.box 0 0)), (3, .lf (.box 1 0)), (5, .lf (.int .i64 x5))], ob := [(0, .box 32 false [.sl (.sl 2 (.int .i64)) b0_0]), (1, .box 34 false [.int .i64 b1_0, .sl (.int .i64) b1_1])], nx := 2 }
noncomputable def spec_l02Is.l1 (x6 : Int) (b0_0 : List (List Int)) (b1_0 : Int) (b1_1 : List Int) : Option Bool := denAt spec_l02Is.E spec_l02Is.fn spec_l02Is.enc [1, 1, 1, 0, 1, 0] { fr := [(2, .lf (.box 0 0)), (3, .lf (.box 1 0)), (6, .lf (.int .i64 x6))], ob := [(0, .box 32 false [.sl (.sl 2 (.int .i64)) b0_0]), (1, .box 34 false [.int .i64 b1_0, .sl (.int .i64) b1_1])], nx := 2 }
noncomputable def spec_l02Is.l2 (x6 : Int) (x7 : Int) (b0_0 : List (List Int)) (b1_0 : Int) (b1_1 : List Int) : Option Bool := denAt spec_l02Is.E spec_l02Is.fn spec_l02Is.enc [1, 1, 1, 0, 1, 0, 0, 1, 0, 0, 1, 0] { fr := [(2, .lf (.box 0 0)), (3, .lf (.box 1 0)), (6, .lf (.int .i64 x6)), (7, .lf (.int .i64 x7))], ob := [(0, .box 32 false [.sl (.sl 2 (.int .i64)) b0_0]), (1, .box 34 false [.int .i64 b1_0, .sl (.int .i64) b1_1])], nx := 2 }
set_option maxRecDepth 100000 in
theorem spec_l02Is.f_eq (l0_0 : List (List Int)) (a1_0 : Int) (l1_1 : List Int) : spec_l02Is.f l0_0 a1_0 l1_1 = (spec_l01In.f a1_0 2 12).bind fun t10 => if t10 = true then (if (l1_1.length : Int) = (l0_0.length : Int) then (spec_l02Is.l0 0 l0_0 a1_0 l1_1) else (some false)) else (some false) := by kernel_rfl
set_option maxRecDepth 100000 in
theorem spec_l02Is.l0_eq (x5 : Int) (b0_0 : List (List Int)) (b1_0 : Int) (b1_1 : List Int) : spec_l02Is.l0 x5 b0_0 b1_0 b1_1 = if x5 < (b1_1.length : Int) then (if 0 ≤ x5 then (if x5 < (b1_1.length : Int) then ((spec_l01In.f (rd b1_1 x5) 1 (wrapI (b1_0 - 1))).bind fun t36 => if t36 = true then (if 0 ≤ x5 then (if x5 < (b1_1.length : Int) then ((spec_l01Gcd.f (rd b1_1 x5) b1_0).bind fun t46 => if t46 = 1 then (spec_l02Is.l0 (wrapI (x5 + 1)) b0_0 b1_0 b1_1) else (some false)) else none) else none) else (some false)) else none) else none) else (spec_l02Is.l1 0 b0_0 b1_0 b1_1) := (loop_unfold _ _ _ _).trans (by kernel_rfl)
set_option maxRecDepth 100000 in
theorem spec_l02Is.l1_eq (x6 : Int) (b0_0 : List (List Int)) (b1_0 : Int) (b1_1 : List Int) : spec_l02Is.l1 x6 b0_0 b1_0 b1_1 = if x6 < (b1_1.length : Int) then (spec_l02Is.l2 x6 0 b0_0 b1_0 b1_1) else (some true) := (loop_unfold _ _ _ _).trans (by kernel_rfl)
set_option maxRecDepth 100000 in
theorem spec_l02Is.l2_eq (x6 : Int) (x7 : Int) (b0_0 : List (List Int)) (b1_0 : Int) (b1_1 : List Int) : spec_l02Is.l2 x6 x7 b0_0 b1_0 b1_1 = if x7 < (b1_1.length : Int) then (if 0 ≤ x6 then (if x6 < (b0_0.length : Int) then (if 0 ≤ x7 then (if x7 < ((row b0_0 x6).length : Int) then (if 0 ≤ T b0_0 x6 x7 then (if T b0_0 x6 x7 < (b1_1.length : Int) then (if 0 ≤ x6 then (if x6 < (b1_1.length : Int) then (if 0 ≤ x7 then (if x7 < (b1_1.length : Int) then (if b1_0 = 0 then none else (if (rd b1_1 (T b0_0 x6 x7)) = ((wrapI ((rd b1_1 x6) * (rd b1_1 x7)) : Int).tmod b1_0) then (spec_l02Is.l2 x6 (wrapI (x7 + 1)) b0_0 b1_0 b1_1) else (some false))) else none) else none) else none) else none) else none) else none) else none) else none) else none) else none) else (spec_l02Is.l1 (wrapI (x6 + 1)) b0_0 b1_0 b1_1) := (loop_unfold _ _ _ _).trans (by kernel_rfl)
noncomputable def spec_l02Is.con : Con := ⟨spec_l02Is.fn.ins, spec_l02Is.fn.outs, Bool, fun x => spec_l02Is.f x.1 x.2.1 x.2.2.1, fun r => ((r, ()), (()))⟩
theorem spec_l02Is.valid : Valid Try.prog 26 spec_l02Is.con := fn_valid (f := spec_l02Is.fn) (E := spec_l02Is.E) (enc := spec_l02Is.enc) ⟨ttOk, (conCons spec_l01In.valid (conCons spec_l01Gcd.valid conNil))⟩ (Checked.mixed Try.checked) ⟨Try.func26, by kernel_rfl, by kernel_rfl, by kernel_rfl, by kernel_rfl, by decide, by kernel_rfl, by kernel_rfl⟩ (fun _ => rfl)
end Go.Proofs.Ytjknpaplgclflaa.P
namespace Go.Proofs.Ytjknpaplgclflaa.P
open Go Go.RowKit Go.Proofs.Ytjknpaplgclflaa.D
noncomputable def spec_l01N.E : Env := { tt := TT, con := [], frz := [], rows := [], live := [], n := 6, pin := 0, nils := [] }
noncomputable def spec_l01N.fn : D.Fn := { body := Try.f52.body.getD .skip, res := Try.f52.results.toList, ins := [.agg [.v (.sl 25 (.sl 2 (.int .i64)))]], outs := [.one (.v (.int .i64))] }
def spec_l01N.enc (y : lsd (flats spec_l01N.fn.outs) × lsd (ios spec_l01N.fn.ins)) : Int := y.1.1
noncomputable def spec_l01N.f (l0_0 : List (List Int)) : Option Int := denF spec_l01N.E spec_l01N.fn spec_l01N.enc (l0_0, ())
set_option maxRecDepth 100000 in
theorem spec_l01N.f_eq (l0_0 : List (List Int)) : spec_l01N.f l0_0 = some (l0_0.length : Int) := by kernel_rfl
noncomputable def spec_l01N.con : Con := ⟨spec_l01N.fn.ins, spec_l01N.fn.outs, Int, fun x => spec_l01N.f x.1, fun r => ((r, ()), (()))⟩
theorem spec_l01N.valid : Valid Try.prog 52 spec_l01N.con := fn_valid (f := spec_l01N.fn) (E := spec_l01N.E) (enc := spec_l01N.enc) ⟨ttOk, conNil⟩ (Checked.mixed Try.checked) ⟨Try.func52, by kernel_rfl, by kernel_rfl, by kernel_rfl, by kernel_rfl, by decide, by kernel_rfl, by kernel_rfl⟩ (fun _ => rfl)
end Go.Proofs.Ytjknpaplgclflaa.P
namespace Go.Proofs.Ytjknpaplgclflaa.P
open Go Go.RowKit Go.Proofs.Ytjknpaplgclflaa.D
noncomputable def spec_l01Own.E : Env := { tt := TT, con := [], frz := [], rows := [], live := [], n := 6, pin := 0, nils := [] }
noncomputable def spec_l01Own.fn : D.Fn := { body := Try.f53.body.getD .skip, res := Try.f53.results.toList, ins := [.one (.v (.sl 2 (.int .i64)))], outs := [.one (.own 2 true (.int .i64))] }
def spec_l01Own.enc (y : lsd (flats spec_l01Own.fn.outs) × lsd (ios spec_l01Own.fn.ins)) : (List Int) := y.1.1
noncomputable def spec_l01Own.f (l0 : List Int) : Option (List Int) := denF spec_l01Own.E spec_l01Own.fn spec_l01Own.enc (l0, ())
set_option maxRecDepth 100000 in
theorem spec_l01Own.f_eq (l0 : List Int) : spec_l01Own.f l0 = if ([] : List Int).length + l0.length ≤ 17592186044416 then (some (([] : List Int) ++ l0)) else none := by kernel_rfl
noncomputable def spec_l01Own.con : Con := ⟨spec_l01Own.fn.ins, spec_l01Own.fn.outs, (List Int), fun x => spec_l01Own.f x.1, fun r => ((r, ()), (()))⟩
theorem spec_l01Own.valid : Valid Try.prog 53 spec_l01Own.con := fn_valid (f := spec_l01Own.fn) (E := spec_l01Own.E) (enc := spec_l01Own.enc) ⟨ttOk, conNil⟩ (Checked.mixed Try.checked) ⟨Try.func53, by kernel_rfl, by kernel_rfl, by kernel_rfl, by kernel_rfl, by decide, by kernel_rfl, by kernel_rfl⟩ (fun _ => rfl)
end Go.Proofs.Ytjknpaplgclflaa.P
namespace Go.Proofs.Ytjknpaplgclflaa.P
open Go Go.RowKit Go.Proofs.Ytjknpaplgclflaa.D
noncomputable def spec_l01Mod.E : Env := { tt := TT, con := [], frz := [], rows := [], live := [], n := 12, pin := 0, nils := [] }
noncomputable def spec_l01Mod.fn : D.Fn := { body := Try.f54.body.getD .skip, res := Try.f54.results.toList, ins := [.one (.v (.int .i64)), .one (.v (.int .i64))], outs := [.one (.v (.int .i64))] }
def spec_l01Mod.enc (y : lsd (flats spec_l01Mod.fn.outs) × lsd (ios spec_l01Mod.fn.ins)) : Int := y.1.1
noncomputable def spec_l01Mod.f (a0 : Int) (a1 : Int) : Option Int := denF spec_l01Mod.E spec_l01Mod.fn spec_l01Mod.enc (a0, a1, ())
set_option maxRecDepth 100000 in
theorem spec_l01Mod.f_eq (a0 : Int) (a1 : Int) : spec_l01Mod.f a0 a1 = if a1 = 0 then none else (if a1 = 0 then none else (some ((wrapI (((a0 : Int).tmod a1) + a1) : Int).tmod a1))) := by kernel_rfl
noncomputable def spec_l01Mod.con : Con := ⟨spec_l01Mod.fn.ins, spec_l01Mod.fn.outs, Int, fun x => spec_l01Mod.f x.1 x.2.1, fun r => ((r, ()), (()))⟩
theorem spec_l01Mod.valid : Valid Try.prog 54 spec_l01Mod.con := fn_valid (f := spec_l01Mod.fn) (E := spec_l01Mod.E) (enc := spec_l01Mod.enc) ⟨ttOk, conNil⟩ (Checked.mixed Try.checked) ⟨Try.func54, by kernel_rfl, by kernel_rfl, by kernel_rfl, by kernel_rfl, by decide, by kernel_rfl, by kernel_rfl⟩ (fun _ => rfl)
end Go.Proofs.Ytjknpaplgclflaa.P
namespace Go.Proofs.Ytjknpaplgclflaa.D
open Go Go.RowKit
theorem valid_view {P : Program} {g : FuncId} {c : Con} (hv : Valid P g c) {x : lsd (flats c.ins)} {r : c.R} (hx : c.f x = some r) {w : World} {vs : List Value} (ha : ASRs P (fun _ => False) (fun k => k < w.heap.size) w c.ins x vs (fun _ => False)) :
  Calls P g vs.toArray w fun e w' => ∃ u, e = .returned u ∧ Below w.heap.size w w' ∧ ∃ Z' Fo us, u = outV us ∧ ASRs P (fun _ => False) Z' w' c.outs (c.dec r).1 us Fo := by
 refine (hv.2 x r hx (fun k => k < w.heap.size) (fun _ => False) (fun _ => False) w vs ha (fun _ h => h.elim) (fun _ h => h) (fun _ h => h.elim)).mono ?_
 rintro e w' ⟨u, rfl, Z', Fi, Fo, hp⟩
 obtain ⟨us, hu, ho⟩ := hp.out
 exact ⟨u, rfl, ⟨hp.os, hp.tape, hp.output, hp.size, fun k hk => hp.old k hk fun h => h⟩, Z', Fo, us, hu, ho⟩
theorem cell_lt {w : World} {a : Addr} {v : Value} (h : w.cell? a = some v) : a.block < w.heap.size := by
 unfold World.cell? at h
 cases hb : w.heap[a.block]? with
 | none => rw [hb] at h; cases h
 | some o => exact (Array.getElem?_eq_some_iff.1 hb).1
theorem view_raw {α : Type} {w : World} {sz : Nat} {R : α → List Value → Prop} {A : Option Addr} {c : Nat} {xs : List α} (hz : 0 < sz) (hc : xs.length ≤ c) (hm : xs.length ≤ 9223372036854775807)
  (h : 0 < xs.length → ∃ ad, A = some ad ∧ ∀ (j : Nat) (p : α), xs[j]? = some p → ∃ cs, cs.length = sz ∧ R p cs ∧ ∀ (i : Nat) (u : Value), cs[i]? = some u → w.cell? (ad.add (j * sz + i)) = some u) : ViewRep (fun k => k < w.heap.size) w sz R A c xs := by
 refine ⟨hc, hm, fun hl => ?_⟩
 obtain ⟨ad, rfl, hcell⟩ := h hl
 refine ⟨ad, rfl, ?_, hcell⟩
 obtain ⟨cs, h1, h2, h3⟩ := hcell 0 xs[0] (List.getElem?_eq_getElem hl)
 have := cell_lt (h3 0 cs[0] (List.getElem?_eq_getElem (by omega)))
 rwa [add_block] at this
theorem law_true {P : Program} {g : FuncId} {c : Con} (hv : Valid P g c) {x : lsd (flats c.ins)} {r : c.R} (hx : c.f x = some r) {w : World} {vs : List Value} (ha : ASRs P (fun _ => False) (fun k => k < w.heap.size) w c.ins x vs (fun _ => False)) (ho : c.outs = [.one (.v .bool)]) (hr : ∀ y : lsd (flats [.one (.v .bool)]), HEq y (c.dec r).1 → y.1 = true) :
  Calls P g vs.toArray w fun e w' => e = .returned (.bool true) ∧ Below w.heap.size w w' := by
 refine (valid_view hv hx ha).mono ?_
 rintro e w' ⟨u, rfl, hb, Z', Fo, us, rfl, hh⟩
 refine ⟨?_, hb⟩
 obtain ⟨ins, outs, R, f, dec⟩ := c
 have ho : outs = [.one (.v .bool)] := ho
 subst ho
 obtain ⟨v, vs', F0, F1, rfl, h1, h2, _⟩ := hh
 cases h2
 have h1 : [v] = [.bool (dec r).1.1] := h1
 have hb1 : (dec r).1.1 = true := hr _ HEq.rfl
 cases h1
 rw [hb1]
 rfl
end Go.Proofs.Ytjknpaplgclflaa.D
namespace Go.Proofs.Ytjknpaplgclflaa.D
open Go Go.RowKit Go.ChangeShapes Go.WideShapes Go.Joins Go.Deep
section
variable {H : Type} {enc : TypeId × Value → H} {P : Program} {w : World} {base : Nat} {held : Bool}
abbrev Zw (w : World) : Nat → Prop := fun k => k < w.heap.size
abbrev No : Nat → Prop := fun _ => False
theorem rep_ints {q : TypeId} (hn : nf q = false) {k : IntKind} {a : Addr} {len cap : Nat} {zs : List Int} (hl : len ≤ cap) (hm : cap ≤ maxLen) (hz : zs.length = cap) (hc : ∀ i, i < zs.length → w.cell? (a.add i) = some (.int k (zs.getD i 0))) (hw : ∀ n ∈ zs, (Lit.int k n).wf = true) :
  ∃ l : List Int, len = l.length ∧ l.length ≤ maxLen ∧ (∀ x ∈ l, (Lit.int k x).wf = true) ∧ Rep (Zw w) w false (.sl q (.int k)) l [.slice (some a) len cap] No := by
 have hlen : (zs.take len).length = len := by rw [List.length_take]; omega
 refine ⟨zs.take len, hlen.symm, by omega, fun x hx => hw x (List.mem_of_mem_take hx), some a, cap, by rw [hlen], ?_, fun h => by rw [hn] at h; cases h⟩
 refine view_raw Nat.one_pos (by show (zs.take len).length ≤ _; omega) (by show (zs.take len).length ≤ _; simp only [maxLen] at hm; omega) fun _ => ⟨a, rfl, fun j p hj => ?_⟩
 have hj : (zs.take len)[j]? = some p := hj
 have hjl : j < len := by
  have := (List.getElem?_eq_some_iff.1 hj).1
  omega
 refine ⟨[.int k p], rfl, rfl, fun i u hu => ?_⟩
 cases i with
 | zero =>
  simp only [List.getElem?_cons_zero, Option.some.injEq] at hu
  subst hu
  have h := hc j (by omega)
  have hp : zs.getD j 0 = p := by
   rw [List.getElem?_take] at hj
   simp only [hjl, if_true] at hj
   simp [List.getD, hj]
  rw [hp] at h
  simpa [Ty.size] using h
 | succ i => simp at hu
theorem rep_none {q : TypeId} {t : Ty} : Rep (Zw w) w false (.sl q t) ([] : List t.den) [.slice none 0 0] No :=
 ⟨none, 0, rfl, ⟨Nat.le_refl _, Nat.zero_le _, fun h => absurd h (by simp)⟩, fun _ _ => rfl⟩
theorem come_ints {t e : TypeId} {k : IntKind} {fuel : Nat} {v : Value} {x : DataW H × List MemPlace} (ht : P.underlying t = some (.slice e)) (he : P.underlying e = some (.int k)) (hc : P.cellsOf e = 1)
  (h : DataW.trod enc P w base (fun _ => true) held fuel t [v] = some x) (hn : nf e = false := by rfl) :
  ∃ l : List Int, l.length ≤ maxLen ∧ (∀ x ∈ l, (Lit.int k x).wf = true) ∧ Rep (Zw w) w false (.sl e (.int k)) l [v] No := by
 rcases open_ints ht he hc h with ⟨hcs, _⟩ | ⟨a, len, cap, zs, hcs, _, hl, hm, hz, _, hcell, hw⟩
 ·
  refine ⟨[], by simp, by simp, ?_⟩
  rw [hcs]
  exact rep_none
 ·
  simp only [if_true] at hz
  obtain ⟨l, h1, h2, h3, h4⟩ := rep_ints (q := e) hn hl hm hz hcell hw
  exact ⟨l, h2, h3, by rw [hcs]; exact h4⟩
theorem come_rows {t e q : TypeId} {k : IntKind} {fuel : Nat} {v : Value} {x : DataW H × List MemPlace} (ht : P.underlying t = some (.slice e)) (he : P.underlying e = some (.slice q)) (hq : P.underlying q = some (.int k))
  (ce : P.cellsOf e = 1) (cq : P.cellsOf q = 1) (h : DataW.trod enc P w base (fun _ => true) held fuel t [v] = some x) (hne : nf e = false := by rfl) (hn : nf q = false := by rfl) :
  ∃ l : List (List Int), l.length ≤ maxLen ∧ (∀ r ∈ l, r.length ≤ maxLen ∧ ∀ x ∈ r, (Lit.int k x).wf = true) ∧ Rep (Zw w) w false (.sl e (.sl q (.int k))) l [v] No := by
 rcases open_int_rows ht he hq ce cq h with ⟨hcs, _⟩ | ⟨a, len, cap, A, L, C, Z, hcs, _, hl, hm, _, hr⟩
 ·
  refine ⟨[], by simp, by simp, ?_⟩
  rw [hcs]
  exact rep_none
 ·
  have each : ∀ r, r < cap → ∃ y : List Int, y.length ≤ maxLen ∧ (∀ x ∈ y, (Lit.int k x).wf = true) ∧ Rep (Zw w) w false (.sl q (.int k)) y [.slice (A r) (L r) (C r)] No := by
   intro r hrc
   obtain ⟨_, h1, h2, h3, h4, h5, h6⟩ := hr r hrc
   cases hA : A r with
   | none =>
    have hC := h5 hA
    refine ⟨[], by simp, by simp, ?_⟩
    have hL : L r = 0 := by omega
    rw [hL, hC]
    exact rep_none
   | some a' =>
    obtain ⟨l, _, h7, h8, h9⟩ := rep_ints (q := q) hn h1 h2 h3 (fun i hi => (h6 a' hA).2 i (by omega)) h4
    exact ⟨l, h7, h8, h9⟩
  obtain ⟨Y, hY⟩ := choose_lt each
  have hlen : ((List.range len).map Y).length = len := by simp
  refine ⟨(List.range len).map Y, by omega, fun r hr' => ?_, ?_⟩
  ·
   obtain ⟨j, hj, rfl⟩ := List.mem_map.1 hr'
   obtain ⟨h1, h2, _⟩ := hY j (by have := List.mem_range.1 hj; omega)
   exact ⟨h1, h2⟩
  ·
   rw [hcs]
   refine ⟨some a, cap, by rw [hlen], ?_, fun h => by rw [hne] at h; cases h⟩
   refine view_raw Nat.one_pos (by show ((List.range len).map Y).length ≤ _; omega) (by show ((List.range len).map Y).length ≤ _; simp only [maxLen] at hm; omega) fun _ => ⟨a, rfl, fun j p hj => ?_⟩
   have hj : ((List.range len).map Y)[j]? = some p := hj
   have hjl : j < len := by
    have := (List.getElem?_eq_some_iff.1 hj).1
    omega
   have hp : p = Y j := by simpa [hjl] using hj.symm
   subst hp
   obtain ⟨h1, h2, h3⟩ := hY j (by omega)
   refine ⟨[.slice (A j) (L j) (C j)], rfl, h3, fun i u hu => ?_⟩
   cases i with
   | zero =>
    simp only [List.getElem?_cons_zero, Option.some.injEq] at hu
    subst hu
    have := (hr j (by omega)).1
    simpa [Ty.size] using this
   | succ i => simp at hu
theorem come_int {t : TypeId} {k : IntKind} {fuel : Nat} {v : Value} {x : DataW H × List MemPlace} (ht : P.underlying t = some (.int k)) (h : DataW.trod enc P w base (fun _ => true) held fuel t [v] = some x) : ∃ n : Int, (Lit.int k n).wf = true ∧ Rep (Zw w) w false (.int k) n [v] No := by
 obtain ⟨n, h1, _, h2⟩ := DataW.trod_int ht h
 exact ⟨n, h2, h1⟩
theorem open_agg1 {r : Reach} {b0 : Nat} {t : TypeId} {f0 : Field} {v : Value} {d : DataW H} {p : List MemPlace} {spare : Nat → Bool} (hs : P.underlying t = some (.struct #[f0])) (hone : oneCellFields P #[f0] = true) (hC : P.cellsOf t = 1)
  (hv : Value.okWide P w r b0 t v) (h : DataW.Trod enc P w base spare held t v d p) :
  ∃ (v0 : Value) (y0 : DataW H × List MemPlace) (n : Nat), v = .agg #[v0] ∧ DataW.trod enc P w base spare held n f0.type [v0] = some y0 := by
 obtain ⟨cs, rfl, hsz⟩ := okWide_struct hs hv
 have hsz1 : cs.size = 1 := hsz.trans hC
 obtain ⟨c0, rfl⟩ : ∃ c0, cs = #[c0] := by
  obtain ⟨l⟩ := cs
  match l, hsz1 with
  | [c0], _ => exact ⟨c0, rfl⟩
 obtain ⟨fuel, hf⟩ := h
 obtain ⟨y0, n, hx, _, h0⟩ := trod_struct1 hs hf
 obtain ⟨o0, k0⟩ := hone_of hone 0 f0 rfl
 exact ⟨c0, y0, n, rfl, by simpa [Value.cells, o0, k0] using h0⟩
theorem args_nil : ASRs P No (Zw w) w [] () [] No := rfl
theorem args_agg1 {t : Ty} {x : t.den} {v : Value} {ins : List ASh} {y : lsd (flats ins)} {vs : List Value} (h : Rep (Zw w) w false t x [v] No) (hr : ASRs P No (Zw w) w ins y vs No) : ASRs P No (Zw w) w (.agg [.v t] :: ins) (x, y) (.agg #[v] :: vs) No :=
 ⟨.agg #[v], vs, No, No, rfl, ⟨[v], rfl, v, [], No, No, rfl, h, rfl, fun _ h => h, fun _ h => h, fun _ h => h.elim⟩, hr, fun _ h => h, fun _ h => h, fun _ h => h.elim⟩
theorem args_agg2 {t t' : Ty} {x : t.den} {x' : t'.den} {v v' : Value} {ins : List ASh} {y : lsd (flats ins)} {vs : List Value} (h : Rep (Zw w) w false t x [v] No) (h' : Rep (Zw w) w false t' x' [v'] No) (hr : ASRs P No (Zw w) w ins y vs No) : ASRs P No (Zw w) w (.agg [.v t, .v t'] :: ins) (x, x', y) (.agg #[v, v'] :: vs) No :=
 ⟨.agg #[v, v'], vs, No, No, rfl, ⟨[v, v'], rfl, v, [v'], No, No, rfl, h, ⟨v', [], No, No, rfl, h', rfl, fun _ h => h, fun _ h => h, fun _ h => h.elim⟩, fun _ h => h, fun _ h => h, fun _ h => h.elim⟩, hr, fun _ h => h, fun _ h => h, fun _ h => h.elim⟩
end
end Go.Proofs.Ytjknpaplgclflaa.D
namespace Go.Proofs.Ytjknpaplgclflaa.D
open Go Go.RowKit
theorem valid_int1 {P : Program} {g : FuncId} {k k' : IntKind} {F : Int → Option Int} (hc : Callable P g) (h : ∀ (x y : Int) (w : World), F x = some y → Calls P g #[.int k x] w fun e w' => e = .returned (.int k' y) ∧ w' = w) :
  Valid P g ⟨[.one (.v (.int k))], [.one (.v (.int k'))], Int, fun x => F x.1, fun r => ((r, ()), ())⟩ := by
 refine ⟨hc, fun x r hx Z B S w vs ha hS hZ hB => ?_⟩
 obtain ⟨v, vs', F0, F1, rfl, h1, h2, _⟩ := ha
 cases h2
 have h1 : [v] = [.int k x.1] := h1
 cases h1
 refine (h x.1 r w hx).mono ?_
 rintro e w' ⟨rfl, rfl⟩
 refine ⟨_, rfl, Z, fun _ => False, fun _ => False, ⟨⟨_, [], fun _ => False, fun _ => False, rfl, trivial, trivial, fun _ h => h, fun _ h => h, fun _ h => h.elim⟩, ⟨[.int k' r], rfl, _, [], fun _ => False, fun _ => False, rfl, rfl, rfl, fun _ h => h, fun _ h => h, fun _ h => h.elim⟩, fun _ h => h.elim, fun _ h => (h.elim id id : False).elim, fun _ h => h, fun k hk => ⟨.inl hk, hZ k hk⟩, rfl, rfl, rfl, Nat.le_refl _, fun _ _ _ => rfl⟩⟩
end Go.Proofs.Ytjknpaplgclflaa.D
namespace Go.Proofs.Ytjknpaplgclflaa.D
open Go Go.RowKit
end Go.Proofs.Ytjknpaplgclflaa.D
namespace Go.Proofs.Ytjknpaplgclflaa.D
noncomputable def fuel : Nat := Classical.choose (⟨64, rfl⟩ : ∃ n, n = 64)
theorem fuel_eq : fuel = 64 := Classical.choose_spec (⟨64, rfl⟩ : ∃ n, n = 64)
theorem valid_none {P : Go.Program} {g : Go.FuncId} (hc : Callable P g) {ins outs : List ASh} {R : Type} {dec : R → lsd (flats outs) × lsd (ios ins)} : Valid P g ⟨ins, outs, R, fun _ => none, dec⟩ := ⟨hc, fun x r h => by cases h⟩
end Go.Proofs.Ytjknpaplgclflaa.D
namespace Go.Proofs.Ytjknpaplgclflaa.P
open Go Go.RowKit Go.Proofs.Ytjknpaplgclflaa.D
noncomputable def spec_l05Search.E (c : Con) : Env := { tt := TT, con := [(35, c), (52, spec_l01N.con), (53, spec_l01Own.con), (54, spec_l01Mod.con)], frz := [91], rows := [22, 23], live := [(6, [2, 3, 4, 7, 8, 9]), (10, [2, 3, 4, 7, 8, 9, 10, 11, 12]), (13, [2, 3, 4, 7, 8, 9, 10, 11, 12, 13])], n := 95, pin := 0, nils := [11] }
noncomputable def spec_l05Search.fn : D.Fn := { body := Try.f35.body.getD .skip, res := Try.f35.results.toList, ins := [.agg [.v (.sl 25 (.sl 2 (.int .i64)))], .agg [.v (.int .i64), .v (.sl 2 (.int .i64))], .one (.v (.sl 2 (.int .i64)))], outs := [.one (.own 25 false (.sl 2 (.int .i64)))] }
def spec_l05Search.enc (y : lsd (flats spec_l05Search.fn.outs) × lsd (ios spec_l05Search.fn.ins)) : (List (List Int)) := y.1.1
noncomputable def spec_l05Search.cof (F : lsd (flats spec_l05Search.fn.ins) → Option (List (List Int))) : Con := ⟨spec_l05Search.fn.ins, spec_l05Search.fn.outs, (List (List Int)), F, fun r => ((r, ()), (()))⟩
noncomputable def spec_l05Search.fx : Nat → lsd (flats spec_l05Search.fn.ins) → Option (List (List Int))
 | 0 => fun _ => none
 | n + 1 => fun x => denF (spec_l05Search.E (spec_l05Search.cof (spec_l05Search.fx n))) spec_l05Search.fn spec_l05Search.enc x
noncomputable def spec_l05Search.cn (n : Nat) : Con := spec_l05Search.cof (spec_l05Search.fx n)
noncomputable def spec_l05Search.f (n : Nat) (l0_0 : List (List Int)) (a1_0 : Int) (l1_1 : List Int) (l2 : List Int) : Option (List (List Int)) := spec_l05Search.fx n (l0_0, a1_0, l1_1, l2, ())
noncomputable def spec_l05Search.l0 (n : Nat) (x2 : List Int) (x7 : Int) (x9 : Int) (b0_0 : List (List Int)) (b1_0 : Int) (b1_1 : List Int) (r2 : List (List Int)) : Option (List (List Int)) := denAt (spec_l05Search.E (spec_l05Search.cn n)) spec_l05Search.fn spec_l05Search.enc [1, 1, 1, 1, 0, 1, 0] { fr := [(2, .lf (.sl (.int .i64) x2)), (3, .lf (.box 0 0)), (4, .lf (.box 1 0)), (7, .lf (.int .i64 x7)), (8, .lf (.own 2)), (9, .lf (.int .i64 x9))], ob := [(0, .box 32 false [.sl (.sl 2 (.int .i64)) b0_0]), (1, .box 34 false [.int .i64 b1_0, .sl (.int .i64) b1_1]), (2, .row 25 false (.sl 2 (.int .i64)) r2)], nx := 3 }
noncomputable def spec_l05Search.l1 (n : Nat) (x2 : List Int) (x7 : Int) (x9 : Int) (x11 : Bool) (x12 : Int) (b0_0 : List (List Int)) (b1_0 : Int) (b1_1 : List Int) (r2 : List (List Int)) (r3 : List Int) : Option (List (List Int)) := denAt (spec_l05Search.E (spec_l05Search.cn n)) spec_l05Search.fn spec_l05Search.enc [1, 1, 1, 1, 0, 1, 0, 0, 1, 0, 0, 1, 0, 1, 0] { fr := [(2, .lf (.sl (.int .i64) x2)), (3, .lf (.box 0 0)), (4, .lf (.box 1 0)), (7, .lf (.int .i64 x7)), (8, .lf (.own 2)), (9, .lf (.int .i64 x9)), (10, .lf (.own 3)), (11, .lf (boolLf x11)), (12, .lf (.int .i64 x12))], ob := [(0, .box 32 false [.sl (.sl 2 (.int .i64)) b0_0]), (1, .box 34 false [.int .i64 b1_0, .sl (.int .i64) b1_1]), (2, .row 25 false (.sl 2 (.int .i64)) r2), (3, .row 2 true (.int .i64) r3)], nx := 4 }
noncomputable def spec_l05Search.l2 (n : Nat) (x2 : List Int) (x7 : Int) (x9 : Int) (x11 : Bool) (x12 : Int) (x13 : Int) (b0_0 : List (List Int)) (b1_0 : Int) (b1_1 : List Int) (r2 : List (List Int)) (r3 : List Int) : Option (List (List Int)) := denAt (spec_l05Search.E (spec_l05Search.cn n)) spec_l05Search.fn spec_l05Search.enc [1, 1, 1, 1, 0, 1, 0, 0, 1, 0, 0, 1, 0, 1, 0, 0, 1, 0, 0, 1, 0] { fr := [(2, .lf (.sl (.int .i64) x2)), (3, .lf (.box 0 0)), (4, .lf (.box 1 0)), (7, .lf (.int .i64 x7)), (8, .lf (.own 2)), (9, .lf (.int .i64 x9)), (10, .lf (.own 3)), (11, .lf (boolLf x11)), (12, .lf (.int .i64 x12)), (13, .lf (.int .i64 x13))], ob := [(0, .box 32 false [.sl (.sl 2 (.int .i64)) b0_0]), (1, .box 34 false [.int .i64 b1_0, .sl (.int .i64) b1_1]), (2, .row 25 false (.sl 2 (.int .i64)) r2), (3, .row 2 true (.int .i64) r3)], nx := 4 }
set_option maxRecDepth 100000 in
theorem spec_l05Search.f_eq (n : Nat) (l0_0 : List (List Int)) (a1_0 : Int) (l1_1 : List Int) (l2 : List Int) : spec_l05Search.f (n + 1) l0_0 a1_0 l1_1 l2 = (spec_l01N.f l0_0).bind fun t19 => if (l2.length : Int) = t19 then (some ([l2] : List (List Int))) else (spec_l05Search.l0 n l2 (l2.length : Int) 0 l0_0 a1_0 l1_1 ([] : List (List Int))) := by kernel_rfl
set_option maxRecDepth 100000 in
theorem spec_l05Search.l0_eq (n : Nat) (x2 : List Int) (x7 : Int) (x9 : Int) (b0_0 : List (List Int)) (b1_0 : Int) (b1_1 : List Int) (r2 : List (List Int)) : spec_l05Search.l0 n x2 x7 x9 b0_0 b1_0 b1_1 r2 = if x9 < b1_0 then ((spec_l01Own.f x2).bind fun t31 => if t31.length + ([x9] : List Int).length ≤ 17592186044416 then (spec_l05Search.l1 n x2 x7 x9 true 0 b0_0 b1_0 b1_1 r2 (t31 ++ ([x9] : List Int))) else none) else (some r2) := (loop_unfold _ _ _ _).trans (by kernel_rfl)
set_option maxRecDepth 100000 in
theorem spec_l05Search.l1_eq (n : Nat) (x2 : List Int) (x7 : Int) (x9 : Int) (x11 : Bool) (x12 : Int) (b0_0 : List (List Int)) (b1_0 : Int) (b1_1 : List Int) (r2 : List (List Int)) (r3 : List Int) : spec_l05Search.l1 n x2 x7 x9 x11 x12 b0_0 b1_0 b1_1 r2 r3 = if x12 ≤ x7 then (if x11 = true then (spec_l05Search.l2 n x2 x7 x9 x11 x12 0 b0_0 b1_0 b1_1 r2 r3) else (if x11 = true then ((spec_l05Search.f n b0_0 b1_0 b1_1 r3).bind fun t92 => if r2.length + t92.length ≤ 5864062014805 then (spec_l05Search.l0 n x2 x7 (wrapI (x9 + 1)) b0_0 b1_0 b1_1 (r2 ++ t92)) else none) else (spec_l05Search.l0 n x2 x7 (wrapI (x9 + 1)) b0_0 b1_0 b1_1 r2))) else (if x11 = true then ((spec_l05Search.f n b0_0 b1_0 b1_1 r3).bind fun t92 => if r2.length + t92.length ≤ 5864062014805 then (spec_l05Search.l0 n x2 x7 (wrapI (x9 + 1)) b0_0 b1_0 b1_1 (r2 ++ t92)) else none) else (spec_l05Search.l0 n x2 x7 (wrapI (x9 + 1)) b0_0 b1_0 b1_1 r2)) := (loop_unfold _ _ _ _).trans (by kernel_rfl)
set_option maxRecDepth 100000 in
theorem spec_l05Search.l2_eq (n : Nat) (x2 : List Int) (x7 : Int) (x9 : Int) (x11 : Bool) (x12 : Int) (x13 : Int) (b0_0 : List (List Int)) (b1_0 : Int) (b1_1 : List Int) (r2 : List (List Int)) (r3 : List Int) : spec_l05Search.l2 n x2 x7 x9 x11 x12 x13 b0_0 b1_0 b1_1 r2 r3 = if x13 ≤ x7 then (if x11 = true then (if 0 ≤ x12 then (if x12 < (b0_0.length : Int) then (if 0 ≤ x13 then (if x13 < ((row b0_0 x12).length : Int) then (if (T b0_0 x12 x13) > x7 then (spec_l05Search.l2 n x2 x7 x9 true x12 (wrapI (x13 + 1)) b0_0 b1_0 b1_1 r2 r3) else (if 0 ≤ T b0_0 x12 x13 then (if T b0_0 x12 x13 < (r3.length : Int) then (if 0 ≤ T b0_0 x12 x13 then (if T b0_0 x12 x13 < (r3.length : Int) then (if 0 ≤ x12 then (if x12 < (r3.length : Int) then (if 0 ≤ x12 then (if x12 < (r3.length : Int) then (if 0 ≤ x12 then (if x12 < (b1_1.length : Int) then (if 0 ≤ x13 then (if x13 < (r3.length : Int) then (if 0 ≤ x13 then (if x13 < (r3.length : Int) then ((spec_l01Mod.f (wrapI ((rd r3 x12) + (wrapI ((rd b1_1 x12) * (rd r3 x13))))) b1_0).bind fun t84 => spec_l05Search.l2 n x2 x7 x9 (decide ((rd r3 (T b0_0 x12 x13)) = t84)) x12 (wrapI (x13 + 1)) b0_0 b1_0 b1_1 r2 r3) else none) else none) else none) else none) else none) else none) else none) else none) else none) else none) else none) else none) else none) else none)) else none) else none) else none) else none) else (spec_l05Search.l1 n x2 x7 x9 x11 (wrapI (x12 + 1)) b0_0 b1_0 b1_1 r2 r3)) else (spec_l05Search.l1 n x2 x7 x9 x11 (wrapI (x12 + 1)) b0_0 b1_0 b1_1 r2 r3) := (loop_unfold _ _ _ _).trans (by kernel_rfl)
theorem spec_l05Search.vn : ∀ n, Valid Try.prog 35 (spec_l05Search.cn n)
 | 0 => valid_none ⟨_, Try.func35, by kernel_rfl, by kernel_rfl⟩
 | n + 1 => fn_valid (f := spec_l05Search.fn) (E := spec_l05Search.E (spec_l05Search.cn n)) (enc := spec_l05Search.enc) ⟨ttOk, (conCons (spec_l05Search.vn n) (conCons spec_l01N.valid (conCons spec_l01Own.valid (conCons spec_l01Mod.valid conNil))))⟩ (Checked.mixed Try.checked) ⟨Try.func35, by kernel_rfl, by kernel_rfl, by kernel_rfl, by kernel_rfl, of_decide_eq_true (by kernel_rfl), by kernel_rfl, by kernel_rfl⟩ (fun _ => rfl)
noncomputable def spec_l05Search.con : Con := spec_l05Search.cn fuel
theorem spec_l05Search.valid : Valid Try.prog 35 spec_l05Search.con := spec_l05Search.vn fuel
end Go.Proofs.Ytjknpaplgclflaa.P
namespace Go.Proofs.Ytjknpaplgclflaa.P
open Go Go.RowKit Go.Proofs.Ytjknpaplgclflaa.D
noncomputable def spec_l01Before.E : Env := { tt := TT, con := [], frz := [], rows := [], live := [(4, [0, 1, 5])], n := 40, pin := 0, nils := [] }
noncomputable def spec_l01Before.fn : D.Fn := { body := Try.f38.body.getD .skip, res := Try.f38.results.toList, ins := [.one (.v (.sl 2 (.int .i64))), .one (.v (.sl 2 (.int .i64)))], outs := [.one (.v .bool)] }
def spec_l01Before.enc (y : lsd (flats spec_l01Before.fn.outs) × lsd (ios spec_l01Before.fn.ins)) : Bool := y.1.1
noncomputable def spec_l01Before.f (l0 : List Int) (l1 : List Int) : Option Bool := denF spec_l01Before.E spec_l01Before.fn spec_l01Before.enc (l0, l1, ())
noncomputable def spec_l01Before.l0 (x0 : List Int) (x1 : List Int) (x5 : Int) : Option Bool := denAt spec_l01Before.E spec_l01Before.fn spec_l01Before.enc [1, 1, 0, 1, 0] { fr := [(0, .lf (.sl (.int .i64) x0)), (1, .lf (.sl (.int .i64) x1)), (5, .lf (.int .i64 x5))], ob := [], nx := 0 }
set_option maxRecDepth 100000 in
theorem spec_l01Before.f_eq (l0 : List Int) (l1 : List Int) : spec_l01Before.f l0 l1 = if (l0.length : Int) = (l1.length : Int) then (spec_l01Before.l0 l0 l1 0) else (some (decide ((l0.length : Int) < (l1.length : Int)))) := by kernel_rfl
set_option maxRecDepth 100000 in
theorem spec_l01Before.l0_eq (x0 : List Int) (x1 : List Int) (x5 : Int) : spec_l01Before.l0 x0 x1 x5 = if x5 < (x0.length : Int) then (if 0 ≤ x5 then (if x5 < (x0.length : Int) then (if 0 ≤ x5 then (if x5 < (x1.length : Int) then (if (rd x0 x5) = (rd x1 x5) then (spec_l01Before.l0 x0 x1 (wrapI (x5 + 1))) else (if 0 ≤ x5 then (if x5 < (x0.length : Int) then (if 0 ≤ x5 then (if x5 < (x1.length : Int) then (some (decide ((rd x0 x5) < (rd x1 x5)))) else none) else none) else none) else none)) else none) else none) else none) else none) else (some false) := (loop_unfold _ _ _ _).trans (by kernel_rfl)
noncomputable def spec_l01Before.con : Con := ⟨spec_l01Before.fn.ins, spec_l01Before.fn.outs, Bool, fun x => spec_l01Before.f x.1 x.2.1, fun r => ((r, ()), (()))⟩
theorem spec_l01Before.valid : Valid Try.prog 38 spec_l01Before.con := fn_valid (f := spec_l01Before.fn) (E := spec_l01Before.E) (enc := spec_l01Before.enc) ⟨ttOk, conNil⟩ (Checked.mixed Try.checked) ⟨Try.func38, by kernel_rfl, by kernel_rfl, by kernel_rfl, by kernel_rfl, by decide, by kernel_rfl, by kernel_rfl⟩ (fun _ => rfl)
end Go.Proofs.Ytjknpaplgclflaa.P
namespace Go.Proofs.Ytjknpaplgclflaa.P
open Go Go.RowKit Go.Proofs.Ytjknpaplgclflaa.D
noncomputable def spec_l05Principal.E : Env := { tt := TT, con := [(52, spec_l01N.con), (54, spec_l01Mod.con)], frz := [], rows := [], live := [(3, [2, 3, 4, 7, 8])], n := 32, pin := 0, nils := [] }
noncomputable def spec_l05Principal.fn : D.Fn := { body := Try.f46.body.getD .skip, res := Try.f46.results.toList, ins := [.agg [.v (.sl 25 (.sl 2 (.int .i64)))], .agg [.v (.int .i64), .v (.sl 2 (.int .i64))], .one (.v (.int .i64))], outs := [.one (.own 2 true (.int .i64))] }
def spec_l05Principal.enc (y : lsd (flats spec_l05Principal.fn.outs) × lsd (ios spec_l05Principal.fn.ins)) : (List Int) := y.1.1
noncomputable def spec_l05Principal.f (l0_0 : List (List Int)) (a1_0 : Int) (l1_1 : List Int) (a2 : Int) : Option (List Int) := denF spec_l05Principal.E spec_l05Principal.fn spec_l05Principal.enc (l0_0, a1_0, l1_1, a2, ())
noncomputable def spec_l05Principal.l0 (x2 : Int) (x8 : Int) (b0_0 : List (List Int)) (b1_0 : Int) (b1_1 : List Int) (r2 : List Int) : Option (List Int) := denAt spec_l05Principal.E spec_l05Principal.fn spec_l05Principal.enc [1, 1, 0, 1, 0] { fr := [(2, .lf (.int .i64 x2)), (3, .lf (.box 0 0)), (4, .lf (.box 1 0)), (7, .lf (.own 2)), (8, .lf (.int .i64 x8))], ob := [(0, .box 32 false [.sl (.sl 2 (.int .i64)) b0_0]), (1, .box 34 false [.int .i64 b1_0, .sl (.int .i64) b1_1]), (2, .row 2 true (.int .i64) r2)], nx := 3 }
set_option maxRecDepth 100000 in
theorem spec_l05Principal.f_eq (l0_0 : List (List Int)) (a1_0 : Int) (l1_1 : List Int) (a2 : Int) : spec_l05Principal.f l0_0 a1_0 l1_1 a2 = spec_l05Principal.l0 a2 0 l0_0 a1_0 l1_1 ([] : List Int) := by kernel_rfl
set_option maxRecDepth 100000 in
theorem spec_l05Principal.l0_eq (x2 : Int) (x8 : Int) (b0_0 : List (List Int)) (b1_0 : Int) (b1_1 : List Int) (r2 : List Int) : spec_l05Principal.l0 x2 x8 b0_0 b1_0 b1_1 r2 = (spec_l01N.f b0_0).bind fun t12 => if x8 < t12 then (if 0 ≤ x8 then (if x8 < (b1_1.length : Int) then ((spec_l01Mod.f (wrapI ((wrapI ((rd b1_1 x8) * x2)) - x2)) b1_0).bind fun t28 => if r2.length + ([t28] : List Int).length ≤ 17592186044416 then (spec_l05Principal.l0 x2 (wrapI (x8 + 1)) b0_0 b1_0 b1_1 (r2 ++ ([t28] : List Int))) else none) else none) else none) else (some r2) := (loop_unfold _ _ _ _).trans (by kernel_rfl)
noncomputable def spec_l05Principal.con : Con := ⟨spec_l05Principal.fn.ins, spec_l05Principal.fn.outs, (List Int), fun x => spec_l05Principal.f x.1 x.2.1 x.2.2.1 x.2.2.2.1, fun r => ((r, ()), (()))⟩
theorem spec_l05Principal.valid : Valid Try.prog 46 spec_l05Principal.con := fn_valid (f := spec_l05Principal.fn) (E := spec_l05Principal.E) (enc := spec_l05Principal.enc) ⟨ttOk, (conCons spec_l01N.valid (conCons spec_l01Mod.valid conNil))⟩ (Checked.mixed Try.checked) ⟨Try.func46, by kernel_rfl, by kernel_rfl, by kernel_rfl, by kernel_rfl, by decide, by kernel_rfl, by kernel_rfl⟩ (fun _ => rfl)
end Go.Proofs.Ytjknpaplgclflaa.P
namespace Go.Proofs.Ytjknpaplgclflaa.P
open Go Go.RowKit Go.Proofs.Ytjknpaplgclflaa.D
noncomputable def spec_l05Class.E : Env := { tt := TT, con := [(53, spec_l01Own.con), (46, spec_l05Principal.con), (54, spec_l01Mod.con), (38, spec_l01Before.con)], frz := [], rows := [], live := [(3, [2, 3, 4, 7, 8]), (7, [2, 3, 4, 7, 8, 9, 10, 11])], n := 51, pin := 0, nils := [] }
noncomputable def spec_l05Class.fn : D.Fn := { body := Try.f37.body.getD .skip, res := Try.f37.results.toList, ins := [.agg [.v (.sl 25 (.sl 2 (.int .i64)))], .agg [.v (.int .i64), .v (.sl 2 (.int .i64))], .one (.v (.sl 2 (.int .i64)))], outs := [.one (.own 2 true (.int .i64))] }
def spec_l05Class.enc (y : lsd (flats spec_l05Class.fn.outs) × lsd (ios spec_l05Class.fn.ins)) : (List Int) := y.1.1
noncomputable def spec_l05Class.f (l0_0 : List (List Int)) (a1_0 : Int) (l1_1 : List Int) (l2 : List Int) : Option (List Int) := denF spec_l05Class.E spec_l05Class.fn spec_l05Class.enc (l0_0, a1_0, l1_1, l2, ())
noncomputable def spec_l05Class.l0 (x2 : List Int) (x8 : Int) (b0_0 : List (List Int)) (b1_0 : Int) (b1_1 : List Int) (r2 : List Int) : Option (List Int) := denAt spec_l05Class.E spec_l05Class.fn spec_l05Class.enc [1, 1, 0, 1, 0] { fr := [(2, .lf (.sl (.int .i64) x2)), (3, .lf (.box 0 0)), (4, .lf (.box 1 0)), (7, .lf (.own 2)), (8, .lf (.int .i64 x8))], ob := [(0, .box 32 false [.sl (.sl 2 (.int .i64)) b0_0]), (1, .box 34 false [.int .i64 b1_0, .sl (.int .i64) b1_1]), (2, .row 2 true (.int .i64) r2)], nx := 3 }
noncomputable def spec_l05Class.l1 (x2 : List Int) (x8 : Int) (x11 : Int) (b0_0 : List (List Int)) (b1_0 : Int) (b1_1 : List Int) (r2 : List Int) (r3 : List Int) (r4 : List Int) : Option (List Int) := denAt spec_l05Class.E spec_l05Class.fn spec_l05Class.enc [1, 1, 0, 1, 0, 0, 1, 0, 0, 1, 0, 1, 0] { fr := [(2, .lf (.sl (.int .i64) x2)), (3, .lf (.box 0 0)), (4, .lf (.box 1 0)), (7, .lf (.own 2)), (8, .lf (.int .i64 x8)), (9, .lf (.own 3)), (10, .lf (.own 4)), (11, .lf (.int .i64 x11))], ob := [(0, .box 32 false [.sl (.sl 2 (.int .i64)) b0_0]), (1, .box 34 false [.int .i64 b1_0, .sl (.int .i64) b1_1]), (2, .row 2 true (.int .i64) r2), (3, .row 2 true (.int .i64) r3), (4, .row 2 true (.int .i64) r4)], nx := 5 }
set_option maxRecDepth 100000 in
theorem spec_l05Class.f_eq (l0_0 : List (List Int)) (a1_0 : Int) (l1_1 : List Int) (l2 : List Int) : spec_l05Class.f l0_0 a1_0 l1_1 l2 = (spec_l01Own.f l2).bind fun t13 => spec_l05Class.l0 l2 0 l0_0 a1_0 l1_1 t13 := by kernel_rfl
set_option maxRecDepth 100000 in
theorem spec_l05Class.l0_eq (x2 : List Int) (x8 : Int) (b0_0 : List (List Int)) (b1_0 : Int) (b1_1 : List Int) (r2 : List Int) : spec_l05Class.l0 x2 x8 b0_0 b1_0 b1_1 r2 = if x8 < b1_0 then ((spec_l05Principal.f b0_0 b1_0 b1_1 x8).bind fun t23 => spec_l05Class.l1 x2 x8 0 b0_0 b1_0 b1_1 r2 t23 ([] : List Int)) else (some r2) := (loop_unfold _ _ _ _).trans (by kernel_rfl)
set_option maxRecDepth 100000 in
theorem spec_l05Class.l1_eq (x2 : List Int) (x8 : Int) (x11 : Int) (b0_0 : List (List Int)) (b1_0 : Int) (b1_1 : List Int) (r2 : List Int) (r3 : List Int) (r4 : List Int) : spec_l05Class.l1 x2 x8 x11 b0_0 b1_0 b1_1 r2 r3 r4 = if x11 < (x2.length : Int) then (if 0 ≤ x11 then (if x11 < (x2.length : Int) then (if 0 ≤ x11 then (if x11 < (r3.length : Int) then (if 0 ≤ x11 then (if x11 < (r3.length : Int) then ((spec_l01Mod.f (wrapI ((rd x2 x11) + (rd r3 x11))) b1_0).bind fun t43 => if r4.length + ([t43] : List Int).length ≤ 17592186044416 then (spec_l05Class.l1 x2 x8 (wrapI (x11 + 1)) b0_0 b1_0 b1_1 r2 r3 (r4 ++ ([t43] : List Int))) else none) else none) else none) else none) else none) else none) else none) else ((spec_l01Before.f r4 r2).bind fun t48 => if t48 = true then (spec_l05Class.l0 x2 (wrapI (x8 + 1)) b0_0 b1_0 b1_1 r4) else (spec_l05Class.l0 x2 (wrapI (x8 + 1)) b0_0 b1_0 b1_1 r2)) := (loop_unfold _ _ _ _).trans (by kernel_rfl)
noncomputable def spec_l05Class.con : Con := ⟨spec_l05Class.fn.ins, spec_l05Class.fn.outs, (List Int), fun x => spec_l05Class.f x.1 x.2.1 x.2.2.1 x.2.2.2.1, fun r => ((r, ()), (()))⟩
theorem spec_l05Class.valid : Valid Try.prog 37 spec_l05Class.con := fn_valid (f := spec_l05Class.fn) (E := spec_l05Class.E) (enc := spec_l05Class.enc) ⟨ttOk, (conCons spec_l01Own.valid (conCons spec_l05Principal.valid (conCons spec_l01Mod.valid (conCons spec_l01Before.valid conNil))))⟩ (Checked.mixed Try.checked) ⟨Try.func37, by kernel_rfl, by kernel_rfl, by kernel_rfl, by kernel_rfl, by decide, by kernel_rfl, by kernel_rfl⟩ (fun _ => rfl)
end Go.Proofs.Ytjknpaplgclflaa.P
namespace Go.Proofs.Ytjknpaplgclflaa.P
open Go Go.RowKit Go.Proofs.Ytjknpaplgclflaa.D
noncomputable def spec_CrossedClasses.E : Env := { tt := TT, con := [(25, spec_l01Is.con), (26, spec_l02Is.con), (35, spec_l05Search.con), (37, spec_l05Class.con), (38, spec_l01Before.con)], frz := [21], rows := [23, 49], live := [(5, [2, 3, 6, 7, 8])], n := 52, pin := 0, nils := [] }
noncomputable def spec_CrossedClasses.fn : D.Fn := { body := Try.f21.body.getD .skip, res := Try.f21.results.toList, ins := [.agg [.v (.sl 25 (.sl 2 (.int .i64)))], .agg [.v (.int .i64), .v (.sl 2 (.int .i64))]], outs := [.one (.own 25 false (.sl 2 (.int .i64))), .one (.v (.int .i64))] }
def spec_CrossedClasses.enc (y : lsd (flats spec_CrossedClasses.fn.outs) × lsd (ios spec_CrossedClasses.fn.ins)) : (List (List Int)) × Int := (y.1.1, y.1.2.1)
noncomputable def spec_CrossedClasses.f (l0_0 : List (List Int)) (a1_0 : Int) (l1_1 : List Int) : Option ((List (List Int)) × Int) := denF spec_CrossedClasses.E spec_CrossedClasses.fn spec_CrossedClasses.enc (l0_0, a1_0, l1_1, ())
noncomputable def spec_CrossedClasses.l0 (x8 : Int) (b0_0 : List (List Int)) (b1_0 : Int) (b1_1 : List Int) (r2 : List (List Int)) (r3 : List (List Int)) : Option ((List (List Int)) × Int) := denAt spec_CrossedClasses.E spec_CrossedClasses.fn spec_CrossedClasses.enc [1, 1, 1, 0, 1, 0] { fr := [(2, .lf (.box 0 0)), (3, .lf (.box 1 0)), (6, .lf (.own 2)), (7, .lf (.own 3)), (8, .lf (.int .i64 x8))], ob := [(0, .box 32 false [.sl (.sl 2 (.int .i64)) b0_0]), (1, .box 34 false [.int .i64 b1_0, .sl (.int .i64) b1_1]), (2, .row 25 false (.sl 2 (.int .i64)) r2), (3, .row 25 false (.sl 2 (.int .i64)) r3)], nx := 4 }
set_option maxRecDepth 100000 in
theorem spec_CrossedClasses.f_eq (l0_0 : List (List Int)) (a1_0 : Int) (l1_1 : List Int) : spec_CrossedClasses.f l0_0 a1_0 l1_1 = (spec_l01Is.f l0_0).bind fun t11 => if t11 = true then ((spec_l02Is.f l0_0 a1_0 l1_1).bind fun t16 => if t16 = true then ((spec_l05Search.f fuel l0_0 a1_0 l1_1 ([] : List Int)).bind fun t22 => spec_CrossedClasses.l0 0 l0_0 a1_0 l1_1 t22 ([] : List (List Int))) else (some (([] : List (List Int)), 1))) else (some (([] : List (List Int)), 1)) := by kernel_rfl
set_option maxRecDepth 100000 in
theorem spec_CrossedClasses.l0_eq (x8 : Int) (b0_0 : List (List Int)) (b1_0 : Int) (b1_1 : List Int) (r2 : List (List Int)) (r3 : List (List Int)) : spec_CrossedClasses.l0 x8 b0_0 b1_0 b1_1 r2 r3 = if x8 < (r2.length : Int) then (if 0 ≤ x8 then (if x8 < (r2.length : Int) then (if 0 ≤ x8 then (if x8 < (r2.length : Int) then ((spec_l05Class.f b0_0 b1_0 b1_1 (row r2 x8)).bind fun t36 => if 0 ≤ x8 then (if x8 < (r2.length : Int) then (if 0 ≤ x8 then (if x8 < (r2.length : Int) then ((spec_l01Before.f t36 (row r2 x8)).bind fun t42 => if t42 = true then (spec_CrossedClasses.l0 (wrapI (x8 + 1)) b0_0 b1_0 b1_1 r2 r3) else (if 0 ≤ x8 then (if x8 < (r2.length : Int) then (if 0 ≤ x8 then (if x8 < (r2.length : Int) then (if r3.length + ([row r2 x8] : List (List Int)).length ≤ 5864062014805 then (spec_CrossedClasses.l0 (wrapI (x8 + 1)) b0_0 b1_0 b1_1 r2 (r3 ++ ([row r2 x8] : List (List Int)))) else none) else none) else none) else none) else none)) else none) else none) else none) else none) else none) else none) else none) else none) else (some (r3, 0)) := (loop_unfold _ _ _ _).trans (by kernel_rfl)
noncomputable def spec_CrossedClasses.con : Con := ⟨spec_CrossedClasses.fn.ins, spec_CrossedClasses.fn.outs, (List (List Int)) × Int, fun x => spec_CrossedClasses.f x.1 x.2.1 x.2.2.1, fun r => ((r.1, r.2, ()), (()))⟩
theorem spec_CrossedClasses.valid : Valid Try.prog 21 spec_CrossedClasses.con := fn_valid (f := spec_CrossedClasses.fn) (E := spec_CrossedClasses.E) (enc := spec_CrossedClasses.enc) ⟨ttOk, (conCons spec_l01Is.valid (conCons spec_l02Is.valid (conCons spec_l05Search.valid (conCons spec_l05Class.valid (conCons spec_l01Before.valid conNil)))))⟩ (Checked.mixed Try.checked) ⟨Try.func21, by kernel_rfl, by kernel_rfl, by kernel_rfl, by kernel_rfl, by decide, by kernel_rfl, by kernel_rfl⟩ (fun _ => rfl)
end Go.Proofs.Ytjknpaplgclflaa.P
namespace Go.Proofs.Ytjknpaplgclflaa.P
open Go Go.RowKit Go.Proofs.Ytjknpaplgclflaa.D
noncomputable def impl_order.E : Env := { tt := TT, con := [], frz := [], rows := [], live := [], n := 6, pin := 0, nils := [] }
noncomputable def impl_order.fn : D.Fn := { body := Try.f70.body.getD .skip, res := Try.f70.results.toList, ins := [.agg [.v (.sl 25 (.sl 2 (.int .i64)))]], outs := [.one (.v (.int .i64))] }
def impl_order.enc (y : lsd (flats impl_order.fn.outs) × lsd (ios impl_order.fn.ins)) : Int := y.1.1
noncomputable def impl_order.f (l0_0 : List (List Int)) : Option Int := denF impl_order.E impl_order.fn impl_order.enc (l0_0, ())
set_option maxRecDepth 100000 in
theorem impl_order.f_eq (l0_0 : List (List Int)) : impl_order.f l0_0 = some (l0_0.length : Int) := by kernel_rfl
noncomputable def impl_order.con : Con := ⟨impl_order.fn.ins, impl_order.fn.outs, Int, fun x => impl_order.f x.1, fun r => ((r, ()), (()))⟩
theorem impl_order.valid : Valid Try.prog 70 impl_order.con := fn_valid (f := impl_order.fn) (E := impl_order.E) (enc := impl_order.enc) ⟨ttOk, conNil⟩ (Checked.mixed Try.checked) ⟨Try.func70, by kernel_rfl, by kernel_rfl, by kernel_rfl, by kernel_rfl, by decide, by kernel_rfl, by kernel_rfl⟩ (fun _ => rfl)
end Go.Proofs.Ytjknpaplgclflaa.P
namespace Go.Proofs.Ytjknpaplgclflaa.P
open Go Go.RowKit Go.Proofs.Ytjknpaplgclflaa.D
noncomputable def impl_areIn.E : Env := { tt := TT, con := [], frz := [], rows := [], live := [(2, [0, 7, 8, 9])], n := 21, pin := 0, nils := [] }
noncomputable def impl_areIn.fn : D.Fn := { body := Try.f71.body.getD .skip, res := Try.f71.results.toList, ins := [.one (.v (.int .i64)), .one (.v (.sl 2 (.int .i64)))], outs := [.one (.v .bool)] }
def impl_areIn.enc (y : lsd (flats impl_areIn.fn.outs) × lsd (ios impl_areIn.fn.ins)) : Bool := y.1.1
noncomputable def impl_areIn.f (a0 : Int) (l1 : List Int) : Option Bool := denF impl_areIn.E impl_areIn.fn impl_areIn.enc (a0, l1, ())
noncomputable def impl_areIn.l0 (x0 : Int) (x7 : List Int) (x8 : Int) (x9 : Int) : Option Bool := denAt impl_areIn.E impl_areIn.fn impl_areIn.enc [1, 0, 1, 0] { fr := [(0, .lf (.int .i64 x0)), (7, .lf (.sl (.int .i64) x7)), (8, .lf (.int .i64 x8)), (9, .lf (.int .i64 x9))], ob := [], nx := 0 }
set_option maxRecDepth 100000 in
theorem impl_areIn.f_eq (a0 : Int) (l1 : List Int) : impl_areIn.f a0 l1 = impl_areIn.l0 a0 l1 (l1.length : Int) 0 := by kernel_rfl
set_option maxRecDepth 100000 in
theorem impl_areIn.l0_eq (x0 : Int) (x7 : List Int) (x8 : Int) (x9 : Int) : impl_areIn.l0 x0 x7 x8 x9 = if x9 < x8 then (if 0 ≤ x9 then (if x9 < (x7.length : Int) then (if (rd x7 x9) < 0 then (some false) else (if (rd x7 x9) ≥ x0 then (some false) else (impl_areIn.l0 x0 x7 x8 (wrapI (x9 + 1))))) else none) else none) else (some true) := (loop_unfold _ _ _ _).trans (by kernel_rfl)
noncomputable def impl_areIn.con : Con := ⟨impl_areIn.fn.ins, impl_areIn.fn.outs, Bool, fun x => impl_areIn.f x.1 x.2.1, fun r => ((r, ()), (()))⟩
theorem impl_areIn.valid : Valid Try.prog 71 impl_areIn.con := fn_valid (f := impl_areIn.fn) (E := impl_areIn.E) (enc := impl_areIn.enc) ⟨ttOk, conNil⟩ (Checked.mixed Try.checked) ⟨Try.func71, by kernel_rfl, by kernel_rfl, by kernel_rfl, by kernel_rfl, by decide, by kernel_rfl, by kernel_rfl⟩ (fun _ => rfl)
end Go.Proofs.Ytjknpaplgclflaa.P
namespace Go.Proofs.Ytjknpaplgclflaa.P
open Go Go.RowKit Go.Proofs.Ytjknpaplgclflaa.D
noncomputable def slices_Index_int64.E : Env := { tt := TT, con := [], frz := [], rows := [], live := [(2, [0, 1, 7, 8])], n := 19, pin := 0, nils := [] }
noncomputable def slices_Index_int64.fn : D.Fn := { body := Try.f92.body.getD .skip, res := Try.f92.results.toList, ins := [.one (.v (.sl 2 (.int .i64))), .one (.v (.int .i64))], outs := [.one (.v (.int .i64))] }
def slices_Index_int64.enc (y : lsd (flats slices_Index_int64.fn.outs) × lsd (ios slices_Index_int64.fn.ins)) : Int := y.1.1
noncomputable def slices_Index_int64.f (l0 : List Int) (a1 : Int) : Option Int := denF slices_Index_int64.E slices_Index_int64.fn slices_Index_int64.enc (l0, a1, ())
noncomputable def slices_Index_int64.l0 (x0 : List Int) (x1 : Int) (x7 : Int) (x8 : Int) : Option Int := denAt slices_Index_int64.E slices_Index_int64.fn slices_Index_int64.enc [1, 0, 1, 0] { fr := [(0, .lf (.sl (.int .i64) x0)), (1, .lf (.int .i64 x1)), (7, .lf (.int .i64 x7)), (8, .lf (.int .i64 x8))], ob := [], nx := 0 }
set_option maxRecDepth 100000 in
theorem slices_Index_int64.f_eq (l0 : List Int) (a1 : Int) : slices_Index_int64.f l0 a1 = slices_Index_int64.l0 l0 a1 (l0.length : Int) 0 := by kernel_rfl
set_option maxRecDepth 100000 in
theorem slices_Index_int64.l0_eq (x0 : List Int) (x1 : Int) (x7 : Int) (x8 : Int) : slices_Index_int64.l0 x0 x1 x7 x8 = if x8 < x7 then (if 0 ≤ x8 then (if x8 < (x0.length : Int) then (if x1 = (rd x0 x8) then (some x8) else (slices_Index_int64.l0 x0 x1 x7 (wrapI (x8 + 1)))) else none) else none) else (some (-1)) := (loop_unfold _ _ _ _).trans (by kernel_rfl)
noncomputable def slices_Index_int64.con : Con := ⟨slices_Index_int64.fn.ins, slices_Index_int64.fn.outs, Int, fun x => slices_Index_int64.f x.1 x.2.1, fun r => ((r, ()), (()))⟩
theorem slices_Index_int64.valid : Valid Try.prog 92 slices_Index_int64.con := fn_valid (f := slices_Index_int64.fn) (E := slices_Index_int64.E) (enc := slices_Index_int64.enc) ⟨ttOk, conNil⟩ (Checked.mixed Try.checked) ⟨Try.func92, by kernel_rfl, by kernel_rfl, by kernel_rfl, by kernel_rfl, by decide, by kernel_rfl, by kernel_rfl⟩ (fun _ => rfl)
end Go.Proofs.Ytjknpaplgclflaa.P
namespace Go.Proofs.Ytjknpaplgclflaa.P
open Go Go.RowKit Go.Proofs.Ytjknpaplgclflaa.D
noncomputable def slices_Contains_int64.E : Env := { tt := TT, con := [(92, slices_Index_int64.con)], frz := [], rows := [], live := [], n := 9, pin := 0, nils := [] }
noncomputable def slices_Contains_int64.fn : D.Fn := { body := Try.f72.body.getD .skip, res := Try.f72.results.toList, ins := [.one (.v (.sl 2 (.int .i64))), .one (.v (.int .i64))], outs := [.one (.v .bool)] }
def slices_Contains_int64.enc (y : lsd (flats slices_Contains_int64.fn.outs) × lsd (ios slices_Contains_int64.fn.ins)) : Bool := y.1.1
noncomputable def slices_Contains_int64.f (l0 : List Int) (a1 : Int) : Option Bool := denF slices_Contains_int64.E slices_Contains_int64.fn slices_Contains_int64.enc (l0, a1, ())
set_option maxRecDepth 100000 in
theorem slices_Contains_int64.f_eq (l0 : List Int) (a1 : Int) : slices_Contains_int64.f l0 a1 = (slices_Index_int64.f l0 a1).bind fun t7 => some (decide (t7 ≥ 0)) := by kernel_rfl
noncomputable def slices_Contains_int64.con : Con := ⟨slices_Contains_int64.fn.ins, slices_Contains_int64.fn.outs, Bool, fun x => slices_Contains_int64.f x.1 x.2.1, fun r => ((r, ()), (()))⟩
theorem slices_Contains_int64.valid : Valid Try.prog 72 slices_Contains_int64.con := fn_valid (f := slices_Contains_int64.fn) (E := slices_Contains_int64.E) (enc := slices_Contains_int64.enc) ⟨ttOk, (conCons slices_Index_int64.valid conNil)⟩ (Checked.mixed Try.checked) ⟨Try.func72, by kernel_rfl, by kernel_rfl, by kernel_rfl, by kernel_rfl, by decide, by kernel_rfl, by kernel_rfl⟩ (fun _ => rfl)
end Go.Proofs.Ytjknpaplgclflaa.P
namespace Go.Proofs.Ytjknpaplgclflaa.P
open Go Go.RowKit Go.Proofs.Ytjknpaplgclflaa.D
noncomputable def impl_IsGroup.E : Env := { tt := TT, con := [(70, impl_order.con), (71, impl_areIn.con), (72, slices_Contains_int64.con)], frz := [], rows := [], live := [(5, [1, 3, 18, 19, 20]), (11, [1, 3, 35, 36]), (16, [1, 3, 6, 35, 36, 68, 69]), (19, [1, 3, 6, 7, 35, 36, 68, 69, 72, 73])], n := 110, pin := 0, nils := [] }
noncomputable def impl_IsGroup.fn : D.Fn := { body := Try.f59.body.getD .skip, res := Try.f59.results.toList, ins := [.agg [.v (.sl 25 (.sl 2 (.int .i64)))]], outs := [.one (.v .bool)] }
def impl_IsGroup.enc (y : lsd (flats impl_IsGroup.fn.outs) × lsd (ios impl_IsGroup.fn.ins)) : Bool := y.1.1
noncomputable def impl_IsGroup.f (l0_0 : List (List Int)) : Option Bool := denF impl_IsGroup.E impl_IsGroup.fn impl_IsGroup.enc (l0_0, ())
noncomputable def impl_IsGroup.l0 (x3 : Int) (x18 : List (List Int)) (x19 : Int) (x20 : Int) (b0_0 : List (List Int)) : Option Bool := denAt impl_IsGroup.E impl_IsGroup.fn impl_IsGroup.enc [1, 1, 1, 0, 1, 0] { fr := [(1, .lf (.box 0 0)), (3, .lf (.int .i64 x3)), (18, .lf (.sl (.sl 2 (.int .i64)) x18)), (19, .lf (.int .i64 x19)), (20, .lf (.int .i64 x20))], ob := [(0, .box 32 false [.sl (.sl 2 (.int .i64)) b0_0])], nx := 1 }
noncomputable def impl_IsGroup.l1 (x3 : Int) (x35 : Int) (x36 : Int) (b0_0 : List (List Int)) : Option Bool := denAt impl_IsGroup.E impl_IsGroup.fn impl_IsGroup.enc [1, 1, 1, 1, 0, 1, 0] { fr := [(1, .lf (.box 0 0)), (3, .lf (.int .i64 x3)), (35, .lf (.int .i64 x35)), (36, .lf (.int .i64 x36))], ob := [(0, .box 32 false [.sl (.sl 2 (.int .i64)) b0_0])], nx := 1 }
noncomputable def impl_IsGroup.l2 (x3 : Int) (x6 : Int) (x35 : Int) (x36 : Int) (x68 : Int) (x69 : Int) (b0_0 : List (List Int)) : Option Bool := denAt impl_IsGroup.E impl_IsGroup.fn impl_IsGroup.enc [1, 1, 1, 1, 0, 1, 0, 0, 1, 1, 0, 0, 1, 1, 1, 0] { fr := [(1, .lf (.box 0 0)), (3, .lf (.int .i64 x3)), (6, .lf (.int .i64 x6)), (35, .lf (.int .i64 x35)), (36, .lf (.int .i64 x36)), (68, .lf (.int .i64 x68)), (69, .lf (.int .i64 x69))], ob := [(0, .box 32 false [.sl (.sl 2 (.int .i64)) b0_0])], nx := 1 }
noncomputable def impl_IsGroup.l3 (x3 : Int) (x6 : Int) (x7 : Int) (x35 : Int) (x36 : Int) (x68 : Int) (x69 : Int) (x72 : Int) (x73 : Int) (b0_0 : List (List Int)) : Option Bool := denAt impl_IsGroup.E impl_IsGroup.fn impl_IsGroup.enc [1, 1, 1, 1, 0, 1, 0, 0, 1, 1, 0, 0, 1, 1, 1, 0, 0, 1, 1, 0, 0, 1, 1, 0] { fr := [(1, .lf (.box 0 0)), (3, .lf (.int .i64 x3)), (6, .lf (.int .i64 x6)), (7, .lf (.int .i64 x7)), (35, .lf (.int .i64 x35)), (36, .lf (.int .i64 x36)), (68, .lf (.int .i64 x68)), (69, .lf (.int .i64 x69)), (72, .lf (.int .i64 x72)), (73, .lf (.int .i64 x73))], ob := [(0, .box 32 false [.sl (.sl 2 (.int .i64)) b0_0])], nx := 1 }
set_option maxRecDepth 100000 in
theorem impl_IsGroup.f_eq (l0_0 : List (List Int)) : impl_IsGroup.f l0_0 = (impl_order.f l0_0).bind fun t10 => if t10 < 1 then (some false) else (if t10 > 8 then (some false) else (impl_IsGroup.l0 t10 l0_0 (l0_0.length : Int) 0 l0_0)) := by kernel_rfl
set_option maxRecDepth 100000 in
theorem impl_IsGroup.l0_eq (x3 : Int) (x18 : List (List Int)) (x19 : Int) (x20 : Int) (b0_0 : List (List Int)) : impl_IsGroup.l0 x3 x18 x19 x20 b0_0 = if x20 < x19 then (if 0 ≤ x20 then (if x20 < (x18.length : Int) then (if ((row x18 x20).length : Int) = x3 then ((impl_areIn.f x3 (row x18 x20)).bind fun t31 => if t31 = true then (impl_IsGroup.l0 x3 x18 x19 (wrapI (x20 + 1)) b0_0) else (some false)) else (some false)) else none) else none) else (impl_IsGroup.l1 x3 x3 0 b0_0) := (loop_unfold _ _ _ _).trans (by kernel_rfl)
set_option maxRecDepth 100000 in
theorem impl_IsGroup.l1_eq (x3 : Int) (x35 : Int) (x36 : Int) (b0_0 : List (List Int)) : impl_IsGroup.l1 x3 x35 x36 b0_0 = if x36 < x35 then (if 0 < (b0_0.length : Int) then (if 0 ≤ x36 then (if x36 < ((row b0_0 0).length : Int) then (if (T b0_0 0 x36) = x36 then (if 0 ≤ x36 then (if x36 < (b0_0.length : Int) then (if 0 < ((row b0_0 x36).length : Int) then (if (T b0_0 x36 0) = x36 then (if 0 ≤ x36 then (if x36 < (b0_0.length : Int) then ((slices_Contains_int64.f (row b0_0 x36) 0).bind fun t65 => if t65 = true then (impl_IsGroup.l2 x3 x36 x35 x36 x3 0 b0_0) else (some false)) else none) else none) else (some false)) else none) else none) else none) else (some false)) else none) else none) else none) else (some true) := (loop_unfold _ _ _ _).trans (by kernel_rfl)
set_option maxRecDepth 100000 in
theorem impl_IsGroup.l2_eq (x3 : Int) (x6 : Int) (x35 : Int) (x36 : Int) (x68 : Int) (x69 : Int) (b0_0 : List (List Int)) : impl_IsGroup.l2 x3 x6 x35 x36 x68 x69 b0_0 = if x69 < x68 then (impl_IsGroup.l3 x3 x6 x69 x35 x36 x68 x69 x3 0 b0_0) else (impl_IsGroup.l1 x3 x35 (wrapI (x36 + 1)) b0_0) := (loop_unfold _ _ _ _).trans (by kernel_rfl)
set_option maxRecDepth 100000 in
theorem impl_IsGroup.l3_eq (x3 : Int) (x6 : Int) (x7 : Int) (x35 : Int) (x36 : Int) (x68 : Int) (x69 : Int) (x72 : Int) (x73 : Int) (b0_0 : List (List Int)) : impl_IsGroup.l3 x3 x6 x7 x35 x36 x68 x69 x72 x73 b0_0 = if x73 < x72 then (if 0 ≤ x6 then (if x6 < (b0_0.length : Int) then (if 0 ≤ x7 then (if x7 < ((row b0_0 x6).length : Int) then (if 0 ≤ T b0_0 x6 x7 then (if T b0_0 x6 x7 < (b0_0.length : Int) then (if 0 ≤ x73 then (if x73 < ((row b0_0 (T b0_0 x6 x7)).length : Int) then (if 0 ≤ x6 then (if x6 < (b0_0.length : Int) then (if 0 ≤ x7 then (if x7 < (b0_0.length : Int) then (if 0 ≤ x73 then (if x73 < ((row b0_0 x7).length : Int) then (if 0 ≤ T b0_0 x7 x73 then (if T b0_0 x7 x73 < ((row b0_0 x6).length : Int) then (if (T b0_0 (T b0_0 x6 x7) x73) = (T b0_0 x6 (T b0_0 x7 x73)) then (impl_IsGroup.l3 x3 x6 x7 x35 x36 x68 x69 x72 (wrapI (x73 + 1)) b0_0) else (some false)) else none) else none) else none) else none) else none) else none) else none) else none) else none) else none) else none) else none) else none) else none) else none) else none) else (impl_IsGroup.l2 x3 x6 x35 x36 x68 (wrapI (x69 + 1)) b0_0) := (loop_unfold _ _ _ _).trans (by kernel_rfl)
noncomputable def impl_IsGroup.con : Con := ⟨impl_IsGroup.fn.ins, impl_IsGroup.fn.outs, Bool, fun x => impl_IsGroup.f x.1, fun r => ((r, ()), (()))⟩
theorem impl_IsGroup.valid : Valid Try.prog 59 impl_IsGroup.con := fn_valid (f := impl_IsGroup.fn) (E := impl_IsGroup.E) (enc := impl_IsGroup.enc) ⟨ttOk, (conCons impl_order.valid (conCons impl_areIn.valid (conCons slices_Contains_int64.valid conNil)))⟩ (Checked.mixed Try.checked) ⟨Try.func59, by kernel_rfl, by kernel_rfl, by kernel_rfl, by kernel_rfl, by decide, by kernel_rfl, by kernel_rfl⟩ (fun _ => rfl)
end Go.Proofs.Ytjknpaplgclflaa.P
namespace Go.Proofs.Ytjknpaplgclflaa.P
open Go Go.RowKit Go.Proofs.Ytjknpaplgclflaa.D
noncomputable def impl_isModulus.E : Env := { tt := TT, con := [], frz := [], rows := [], live := [], n := 9, pin := 0, nils := [] }
noncomputable def impl_isModulus.fn : D.Fn := { body := Try.f73.body.getD .skip, res := Try.f73.results.toList, ins := [.one (.v (.int .i64))], outs := [.one (.v .bool)] }
def impl_isModulus.enc (y : lsd (flats impl_isModulus.fn.outs) × lsd (ios impl_isModulus.fn.ins)) : Bool := y.1.1
noncomputable def impl_isModulus.f (a0 : Int) : Option Bool := denF impl_isModulus.E impl_isModulus.fn impl_isModulus.enc (a0, ())
set_option maxRecDepth 100000 in
theorem impl_isModulus.f_eq (a0 : Int) : impl_isModulus.f a0 = if a0 ≥ 2 then (some (decide (a0 ≤ 12))) else (some false) := by kernel_rfl
noncomputable def impl_isModulus.con : Con := ⟨impl_isModulus.fn.ins, impl_isModulus.fn.outs, Bool, fun x => impl_isModulus.f x.1, fun r => ((r, ()), (()))⟩
theorem impl_isModulus.valid : Valid Try.prog 73 impl_isModulus.con := fn_valid (f := impl_isModulus.fn) (E := impl_isModulus.E) (enc := impl_isModulus.enc) ⟨ttOk, conNil⟩ (Checked.mixed Try.checked) ⟨Try.func73, by kernel_rfl, by kernel_rfl, by kernel_rfl, by kernel_rfl, by decide, by kernel_rfl, by kernel_rfl⟩ (fun _ => rfl)
end Go.Proofs.Ytjknpaplgclflaa.P
namespace Go.Proofs.Ytjknpaplgclflaa.P
open Go Go.RowKit Go.Proofs.Ytjknpaplgclflaa.D
noncomputable def impl_gcd.E : Env := { tt := TT, con := [], frz := [], rows := [], live := [(1, [0, 1])], n := 12, pin := 0, nils := [] }
noncomputable def impl_gcd.fn : D.Fn := { body := Try.f93.body.getD .skip, res := Try.f93.results.toList, ins := [.one (.v (.int .i64)), .one (.v (.int .i64))], outs := [.one (.v (.int .i64))] }
def impl_gcd.enc (y : lsd (flats impl_gcd.fn.outs) × lsd (ios impl_gcd.fn.ins)) : Int := y.1.1
noncomputable def impl_gcd.f (a0 : Int) (a1 : Int) : Option Int := denF impl_gcd.E impl_gcd.fn impl_gcd.enc (a0, a1, ())
noncomputable def impl_gcd.l0 (x0 : Int) (x1 : Int) : Option Int := denAt impl_gcd.E impl_gcd.fn impl_gcd.enc [1, 0, 0] { fr := [(0, .lf (.int .i64 x0)), (1, .lf (.int .i64 x1))], ob := [], nx := 0 }
set_option maxRecDepth 100000 in
theorem impl_gcd.f_eq (a0 : Int) (a1 : Int) : impl_gcd.f a0 a1 = impl_gcd.l0 a0 a1 := by kernel_rfl
set_option maxRecDepth 100000 in
theorem impl_gcd.l0_eq (x0 : Int) (x1 : Int) : impl_gcd.l0 x0 x1 = if x1 = 0 then (some x0) else (if x1 = 0 then none else (impl_gcd.l0 x1 ((x0 : Int).tmod x1))) := (loop_unfold _ _ _ _).trans (by kernel_rfl)
noncomputable def impl_gcd.con : Con := ⟨impl_gcd.fn.ins, impl_gcd.fn.outs, Int, fun x => impl_gcd.f x.1 x.2.1, fun r => ((r, ()), (()))⟩
theorem impl_gcd.valid : Valid Try.prog 93 impl_gcd.con := fn_valid (f := impl_gcd.fn) (E := impl_gcd.E) (enc := impl_gcd.enc) ⟨ttOk, conNil⟩ (Checked.mixed Try.checked) ⟨Try.func93, by kernel_rfl, by kernel_rfl, by kernel_rfl, by kernel_rfl, by decide, by kernel_rfl, by kernel_rfl⟩ (fun _ => rfl)
end Go.Proofs.Ytjknpaplgclflaa.P
namespace Go.Proofs.Ytjknpaplgclflaa.P
open Go Go.RowKit Go.Proofs.Ytjknpaplgclflaa.D
noncomputable def impl_isUnit.E : Env := { tt := TT, con := [(93, impl_gcd.con)], frz := [], rows := [], live := [], n := 18, pin := 0, nils := [] }
noncomputable def impl_isUnit.fn : D.Fn := { body := Try.f74.body.getD .skip, res := Try.f74.results.toList, ins := [.one (.v (.int .i64)), .one (.v (.int .i64))], outs := [.one (.v .bool)] }
def impl_isUnit.enc (y : lsd (flats impl_isUnit.fn.outs) × lsd (ios impl_isUnit.fn.ins)) : Bool := y.1.1
noncomputable def impl_isUnit.f (a0 : Int) (a1 : Int) : Option Bool := denF impl_isUnit.E impl_isUnit.fn impl_isUnit.enc (a0, a1, ())
set_option maxRecDepth 100000 in
theorem impl_isUnit.f_eq (a0 : Int) (a1 : Int) : impl_isUnit.f a0 a1 = if a1 ≥ 1 then (if a1 < a0 then ((impl_gcd.f a0 a1).bind fun t15 => some (decide (t15 = 1))) else (some false)) else (some false) := by kernel_rfl
noncomputable def impl_isUnit.con : Con := ⟨impl_isUnit.fn.ins, impl_isUnit.fn.outs, Bool, fun x => impl_isUnit.f x.1 x.2.1, fun r => ((r, ()), (()))⟩
theorem impl_isUnit.valid : Valid Try.prog 74 impl_isUnit.con := fn_valid (f := impl_isUnit.fn) (E := impl_isUnit.E) (enc := impl_isUnit.enc) ⟨ttOk, (conCons impl_gcd.valid conNil)⟩ (Checked.mixed Try.checked) ⟨Try.func74, by kernel_rfl, by kernel_rfl, by kernel_rfl, by kernel_rfl, by decide, by kernel_rfl, by kernel_rfl⟩ (fun _ => rfl)
end Go.Proofs.Ytjknpaplgclflaa.P
namespace Go.Proofs.Ytjknpaplgclflaa.P
open Go Go.RowKit Go.Proofs.Ytjknpaplgclflaa.D
noncomputable def impl_Group_times.E : Env := { tt := TT, con := [], frz := [], rows := [], live := [(3, [2, 5, 8, 9, 10])], n := 24, pin := 0, nils := [] }
noncomputable def impl_Group_times.fn : D.Fn := { body := Try.f75.body.getD .skip, res := Try.f75.results.toList, ins := [.agg [.v (.sl 25 (.sl 2 (.int .i64)))], .one (.v (.sl 2 (.int .i64)))], outs := [.one (.v (.int .i64))] }
def impl_Group_times.enc (y : lsd (flats impl_Group_times.fn.outs) × lsd (ios impl_Group_times.fn.ins)) : Int := y.1.1
noncomputable def impl_Group_times.f (l0_0 : List (List Int)) (l1 : List Int) : Option Int := denF impl_Group_times.E impl_Group_times.fn impl_Group_times.enc (l0_0, l1, ())
noncomputable def impl_Group_times.l0 (x5 : Int) (x8 : List Int) (x9 : Int) (x10 : Int) (b0_0 : List (List Int)) : Option Int := denAt impl_Group_times.E impl_Group_times.fn impl_Group_times.enc [1, 1, 0, 1, 0] { fr := [(2, .lf (.box 0 0)), (5, .lf (.int .i64 x5)), (8, .lf (.sl (.int .i64) x8)), (9, .lf (.int .i64 x9)), (10, .lf (.int .i64 x10))], ob := [(0, .box 32 false [.sl (.sl 2 (.int .i64)) b0_0])], nx := 1 }
set_option maxRecDepth 100000 in
theorem impl_Group_times.f_eq (l0_0 : List (List Int)) (l1 : List Int) : impl_Group_times.f l0_0 l1 = impl_Group_times.l0 0 l1 (l1.length : Int) 0 l0_0 := by kernel_rfl
set_option maxRecDepth 100000 in
theorem impl_Group_times.l0_eq (x5 : Int) (x8 : List Int) (x9 : Int) (x10 : Int) (b0_0 : List (List Int)) : impl_Group_times.l0 x5 x8 x9 x10 b0_0 = if x10 < x9 then (if 0 ≤ x10 then (if x10 < (x8.length : Int) then (if 0 ≤ x5 then (if x5 < (b0_0.length : Int) then (if 0 ≤ rd x8 x10 then (if rd x8 x10 < ((row b0_0 x5).length : Int) then (impl_Group_times.l0 (T b0_0 x5 (rd x8 x10)) x8 x9 (wrapI (x10 + 1)) b0_0) else none) else none) else none) else none) else none) else none) else (some x5) := (loop_unfold _ _ _ _).trans (by kernel_rfl)
noncomputable def impl_Group_times.con : Con := ⟨impl_Group_times.fn.ins, impl_Group_times.fn.outs, Int, fun x => impl_Group_times.f x.1 x.2.1, fun r => ((r, ()), (()))⟩
theorem impl_Group_times.valid : Valid Try.prog 75 impl_Group_times.con := fn_valid (f := impl_Group_times.fn) (E := impl_Group_times.E) (enc := impl_Group_times.enc) ⟨ttOk, conNil⟩ (Checked.mixed Try.checked) ⟨Try.func75, by kernel_rfl, by kernel_rfl, by kernel_rfl, by kernel_rfl, by decide, by kernel_rfl, by kernel_rfl⟩ (fun _ => rfl)
end Go.Proofs.Ytjknpaplgclflaa.P
namespace Go.Proofs.Ytjknpaplgclflaa.P
open Go Go.RowKit Go.Proofs.Ytjknpaplgclflaa.D
noncomputable def impl_isModule.E : Env := { tt := TT, con := [(73, impl_isModulus.con), (70, impl_order.con), (74, impl_isUnit.con), (75, impl_Group_times.con)], frz := [], rows := [], live := [(4, [2, 3, 29, 30, 31]), (10, [2, 3, 42, 43]), (13, [2, 3, 7, 42, 43, 47, 48])], n := 77, pin := 0, nils := [] }
noncomputable def impl_isModule.fn : D.Fn := { body := Try.f60.body.getD .skip, res := Try.f60.results.toList, ins := [.agg [.v (.sl 25 (.sl 2 (.int .i64)))], .agg [.v (.int .i64), .v (.sl 2 (.int .i64))]], outs := [.one (.v .bool)] }
def impl_isModule.enc (y : lsd (flats impl_isModule.fn.outs) × lsd (ios impl_isModule.fn.ins)) : Bool := y.1.1
noncomputable def impl_isModule.f (l0_0 : List (List Int)) (a1_0 : Int) (l1_1 : List Int) : Option Bool := denF impl_isModule.E impl_isModule.fn impl_isModule.enc (l0_0, a1_0, l1_1, ())
noncomputable def impl_isModule.l0 (x29 : List Int) (x30 : Int) (x31 : Int) (b0_0 : List (List Int)) (b1_0 : Int) (b1_1 : List Int) : Option Bool := denAt impl_isModule.E impl_isModule.fn impl_isModule.enc [1, 1, 0, 1, 0] { fr := [(2, .lf (.box 0 0)), (3, .lf (.box 1 0)), (29, .lf (.sl (.int .i64) x29)), (30, .lf (.int .i64 x30)), (31, .lf (.int .i64 x31))], ob := [(0, .box 32 false [.sl (.sl 2 (.int .i64)) b0_0]), (1, .box 34 false [.int .i64 b1_0, .sl (.int .i64) b1_1])], nx := 2 }
noncomputable def impl_isModule.l1 (x42 : Int) (x43 : Int) (b0_0 : List (List Int)) (b1_0 : Int) (b1_1 : List Int) : Option Bool := denAt impl_isModule.E impl_isModule.fn impl_isModule.enc [1, 1, 1, 0, 1, 0] { fr := [(2, .lf (.box 0 0)), (3, .lf (.box 1 0)), (42, .lf (.int .i64 x42)), (43, .lf (.int .i64 x43))], ob := [(0, .box 32 false [.sl (.sl 2 (.int .i64)) b0_0]), (1, .box 34 false [.int .i64 b1_0, .sl (.int .i64) b1_1])], nx := 2 }
noncomputable def impl_isModule.l2 (x7 : Int) (x42 : Int) (x43 : Int) (x47 : Int) (x48 : Int) (b0_0 : List (List Int)) (b1_0 : Int) (b1_1 : List Int) : Option Bool := denAt impl_isModule.E impl_isModule.fn impl_isModule.enc [1, 1, 1, 0, 1, 0, 0, 1, 1, 0, 0, 1, 1, 0] { fr := [(2, .lf (.box 0 0)), (3, .lf (.box 1 0)), (7, .lf (.int .i64 x7)), (42, .lf (.int .i64 x42)), (43, .lf (.int .i64 x43)), (47, .lf (.int .i64 x47)), (48, .lf (.int .i64 x48))], ob := [(0, .box 32 false [.sl (.sl 2 (.int .i64)) b0_0]), (1, .box 34 false [.int .i64 b1_0, .sl (.int .i64) b1_1])], nx := 2 }
set_option maxRecDepth 100000 in
theorem impl_isModule.f_eq (l0_0 : List (List Int)) (a1_0 : Int) (l1_1 : List Int) : impl_isModule.f l0_0 a1_0 l1_1 = (impl_isModulus.f a1_0).bind fun t11 => if t11 = true then ((impl_order.f l0_0).bind fun t18 => if (l1_1.length : Int) = t18 then (if 0 < (l1_1.length : Int) then (if (rd l1_1 0) = 1 then (impl_isModule.l0 l1_1 (l1_1.length : Int) 0 l0_0 a1_0 l1_1) else (some false)) else none) else (some false)) else (some false) := by kernel_rfl
set_option maxRecDepth 100000 in
theorem impl_isModule.l0_eq (x29 : List Int) (x30 : Int) (x31 : Int) (b0_0 : List (List Int)) (b1_0 : Int) (b1_1 : List Int) : impl_isModule.l0 x29 x30 x31 b0_0 b1_0 b1_1 = if x31 < x30 then (if 0 ≤ x31 then (if x31 < (x29.length : Int) then ((impl_isUnit.f b1_0 (rd x29 x31)).bind fun t38 => if t38 = true then (impl_isModule.l0 x29 x30 (wrapI (x31 + 1)) b0_0 b1_0 b1_1) else (some false)) else none) else none) else ((impl_order.f b0_0).bind fun t42 => impl_isModule.l1 t42 0 b0_0 b1_0 b1_1) := (loop_unfold _ _ _ _).trans (by kernel_rfl)
set_option maxRecDepth 100000 in
theorem impl_isModule.l1_eq (x42 : Int) (x43 : Int) (b0_0 : List (List Int)) (b1_0 : Int) (b1_1 : List Int) : impl_isModule.l1 x42 x43 b0_0 b1_0 b1_1 = if x43 < x42 then ((impl_order.f b0_0).bind fun t47 => impl_isModule.l2 x43 x42 x43 t47 0 b0_0 b1_0 b1_1) else (some true) := (loop_unfold _ _ _ _).trans (by kernel_rfl)
set_option maxRecDepth 100000 in
theorem impl_isModule.l2_eq (x7 : Int) (x42 : Int) (x43 : Int) (x47 : Int) (x48 : Int) (b0_0 : List (List Int)) (b1_0 : Int) (b1_1 : List Int) : impl_isModule.l2 x7 x42 x43 x47 x48 b0_0 b1_0 b1_1 = if x48 < x47 then ((impl_Group_times.f b0_0 ([x7, x48] : List Int)).bind fun t57 => if 0 ≤ t57 then (if t57 < (b1_1.length : Int) then (if 0 ≤ x7 then (if x7 < (b1_1.length : Int) then (if 0 ≤ x48 then (if x48 < (b1_1.length : Int) then (if b1_0 = 0 then none else (if (rd b1_1 t57) = ((wrapI ((rd b1_1 x7) * (rd b1_1 x48)) : Int).tmod b1_0) then (impl_isModule.l2 x7 x42 x43 x47 (wrapI (x48 + 1)) b0_0 b1_0 b1_1) else (some false))) else none) else none) else none) else none) else none) else none) else (impl_isModule.l1 x42 (wrapI (x43 + 1)) b0_0 b1_0 b1_1) := (loop_unfold _ _ _ _).trans (by kernel_rfl)
noncomputable def impl_isModule.con : Con := ⟨impl_isModule.fn.ins, impl_isModule.fn.outs, Bool, fun x => impl_isModule.f x.1 x.2.1 x.2.2.1, fun r => ((r, ()), (()))⟩
theorem impl_isModule.valid : Valid Try.prog 60 impl_isModule.con := fn_valid (f := impl_isModule.fn) (E := impl_isModule.E) (enc := impl_isModule.enc) ⟨ttOk, (conCons impl_isModulus.valid (conCons impl_order.valid (conCons impl_isUnit.valid (conCons impl_Group_times.valid conNil))))⟩ (Checked.mixed Try.checked) ⟨Try.func60, by kernel_rfl, by kernel_rfl, by kernel_rfl, by kernel_rfl, by decide, by kernel_rfl, by kernel_rfl⟩ (fun _ => rfl)
end Go.Proofs.Ytjknpaplgclflaa.P
namespace Go.Proofs.Ytjknpaplgclflaa.P
open Go Go.RowKit Go.Proofs.Ytjknpaplgclflaa.D
noncomputable def impl_areModules.E : Env := { tt := TT, con := [(59, impl_IsGroup.con), (60, impl_isModule.con)], frz := [], rows := [], live := [(2, [2, 7, 8, 9])], n := 23, pin := 0, nils := [] }
noncomputable def impl_areModules.fn : D.Fn := { body := Try.f47.body.getD .skip, res := Try.f47.results.toList, ins := [.agg [.v (.sl 25 (.sl 2 (.int .i64)))], .one (.v (.sl 34 (.pr (.int .i64) (.sl 2 (.int .i64)))))], outs := [.one (.v .bool)] }
def impl_areModules.enc (y : lsd (flats impl_areModules.fn.outs) × lsd (ios impl_areModules.fn.ins)) : Bool := y.1.1
noncomputable def impl_areModules.f (l0_0 : List (List Int)) (l1 : List (Int × (List Int))) : Option Bool := denF impl_areModules.E impl_areModules.fn impl_areModules.enc (l0_0, l1, ())
noncomputable def impl_areModules.l0 (x7 : List (Int × (List Int))) (x8 : Int) (x9 : Int) (b0_0 : List (List Int)) : Option Bool := denAt impl_areModules.E impl_areModules.fn impl_areModules.enc [1, 0, 1, 0] { fr := [(2, .lf (.box 0 0)), (7, .lf (.sl (.pr (.int .i64) (.sl 2 (.int .i64))) x7)), (8, .lf (.int .i64 x8)), (9, .lf (.int .i64 x9))], ob := [(0, .box 32 false [.sl (.sl 2 (.int .i64)) b0_0])], nx := 1 }
set_option maxRecDepth 100000 in
theorem impl_areModules.f_eq (l0_0 : List (List Int)) (l1 : List (Int × (List Int))) : impl_areModules.f l0_0 l1 = impl_areModules.l0 l1 (l1.length : Int) 0 l0_0 := by kernel_rfl
set_option maxRecDepth 100000 in
theorem impl_areModules.l0_eq (x7 : List (Int × (List Int))) (x8 : Int) (x9 : Int) (b0_0 : List (List Int)) : impl_areModules.l0 x7 x8 x9 b0_0 = if x9 < x8 then (if 0 ≤ x9 then (if x9 < (x7.length : Int) then ((impl_IsGroup.f b0_0).bind fun t14 => if t14 = true then ((impl_isModule.f b0_0 ((Ty.rd (.pr (.int .i64) (.sl 2 (.int .i64))) x7 x9).1) ((Ty.rd (.pr (.int .i64) (.sl 2 (.int .i64))) x7 x9).2)).bind fun t19 => if t19 = true then (impl_areModules.l0 x7 x8 (wrapI (x9 + 1)) b0_0) else (some false)) else (some false)) else none) else none) else (some true) := (loop_unfold _ _ _ _).trans (by kernel_rfl)
noncomputable def impl_areModules.con : Con := ⟨impl_areModules.fn.ins, impl_areModules.fn.outs, Bool, fun x => impl_areModules.f x.1 x.2.1, fun r => ((r, ()), (()))⟩
theorem impl_areModules.valid : Valid Try.prog 47 impl_areModules.con := fn_valid (f := impl_areModules.fn) (E := impl_areModules.E) (enc := impl_areModules.enc) ⟨ttOk, (conCons impl_IsGroup.valid (conCons impl_isModule.valid conNil))⟩ (Checked.mixed Try.checked) ⟨Try.func47, by kernel_rfl, by kernel_rfl, by kernel_rfl, by kernel_rfl, by decide, by kernel_rfl, by kernel_rfl⟩ (fun _ => rfl)
end Go.Proofs.Ytjknpaplgclflaa.P
namespace Go.Proofs.Ytjknpaplgclflaa.P
open Go Go.RowKit Go.Proofs.Ytjknpaplgclflaa.D
noncomputable def impl_moduleCode.E : Env := { tt := TT, con := [(47, impl_areModules.con)], frz := [], rows := [], live := [], n := 9, pin := 0, nils := [] }
noncomputable def impl_moduleCode.fn : D.Fn := { body := Try.f30.body.getD .skip, res := Try.f30.results.toList, ins := [.agg [.v (.sl 25 (.sl 2 (.int .i64)))], .one (.v (.sl 34 (.pr (.int .i64) (.sl 2 (.int .i64)))))], outs := [.one (.v (.int .i64))] }
def impl_moduleCode.enc (y : lsd (flats impl_moduleCode.fn.outs) × lsd (ios impl_moduleCode.fn.ins)) : Int := y.1.1
noncomputable def impl_moduleCode.f (l0_0 : List (List Int)) (l1 : List (Int × (List Int))) : Option Int := denF impl_moduleCode.E impl_moduleCode.fn impl_moduleCode.enc (l0_0, l1, ())
set_option maxRecDepth 100000 in
theorem impl_moduleCode.f_eq (l0_0 : List (List Int)) (l1 : List (Int × (List Int))) : impl_moduleCode.f l0_0 l1 = (impl_areModules.f l0_0 l1).bind fun t7 => if t7 = true then (some 0) else (some 1) := by kernel_rfl
noncomputable def impl_moduleCode.con : Con := ⟨impl_moduleCode.fn.ins, impl_moduleCode.fn.outs, Int, fun x => impl_moduleCode.f x.1 x.2.1, fun r => ((r, ()), (()))⟩
theorem impl_moduleCode.valid : Valid Try.prog 30 impl_moduleCode.con := fn_valid (f := impl_moduleCode.fn) (E := impl_moduleCode.E) (enc := impl_moduleCode.enc) ⟨ttOk, (conCons impl_areModules.valid conNil)⟩ (Checked.mixed Try.checked) ⟨Try.func30, by kernel_rfl, by kernel_rfl, by kernel_rfl, by kernel_rfl, by decide, by kernel_rfl, by kernel_rfl⟩ (fun _ => rfl)
end Go.Proofs.Ytjknpaplgclflaa.P
namespace Go.Proofs.Ytjknpaplgclflaa.P
open Go Go.RowKit Go.Proofs.Ytjknpaplgclflaa.D
noncomputable def slices_Equal_int64.E : Env := { tt := TT, con := [], frz := [], rows := [], live := [(4, [0, 1, 12, 13])], n := 26, pin := 0, nils := [] }
noncomputable def slices_Equal_int64.fn : D.Fn := { body := Try.f41.body.getD .skip, res := Try.f41.results.toList, ins := [.one (.v (.sl 2 (.int .i64))), .one (.v (.sl 2 (.int .i64)))], outs := [.one (.v .bool)] }
def slices_Equal_int64.enc (y : lsd (flats slices_Equal_int64.fn.outs) × lsd (ios slices_Equal_int64.fn.ins)) : Bool := y.1.1
noncomputable def slices_Equal_int64.f (l0 : List Int) (l1 : List Int) : Option Bool := denF slices_Equal_int64.E slices_Equal_int64.fn slices_Equal_int64.enc (l0, l1, ())
noncomputable def slices_Equal_int64.l0 (x0 : List Int) (x1 : List Int) (x12 : Int) (x13 : Int) : Option Bool := denAt slices_Equal_int64.E slices_Equal_int64.fn slices_Equal_int64.enc [1, 1, 0, 1, 0] { fr := [(0, .lf (.sl (.int .i64) x0)), (1, .lf (.sl (.int .i64) x1)), (12, .lf (.int .i64 x12)), (13, .lf (.int .i64 x13))], ob := [], nx := 0 }
set_option maxRecDepth 100000 in
theorem slices_Equal_int64.f_eq (l0 : List Int) (l1 : List Int) : slices_Equal_int64.f l0 l1 = if (l0.length : Int) = (l1.length : Int) then (slices_Equal_int64.l0 l0 l1 (l0.length : Int) 0) else (some false) := by kernel_rfl
set_option maxRecDepth 100000 in
theorem slices_Equal_int64.l0_eq (x0 : List Int) (x1 : List Int) (x12 : Int) (x13 : Int) : slices_Equal_int64.l0 x0 x1 x12 x13 = if x13 < x12 then (if 0 ≤ x13 then (if x13 < (x0.length : Int) then (if 0 ≤ x13 then (if x13 < (x1.length : Int) then (if (rd x0 x13) = (rd x1 x13) then (slices_Equal_int64.l0 x0 x1 x12 (wrapI (x13 + 1))) else (some false)) else none) else none) else none) else none) else (some true) := (loop_unfold _ _ _ _).trans (by kernel_rfl)
noncomputable def slices_Equal_int64.con : Con := ⟨slices_Equal_int64.fn.ins, slices_Equal_int64.fn.outs, Bool, fun x => slices_Equal_int64.f x.1 x.2.1, fun r => ((r, ()), (()))⟩
theorem slices_Equal_int64.valid : Valid Try.prog 41 slices_Equal_int64.con := fn_valid (f := slices_Equal_int64.fn) (E := slices_Equal_int64.E) (enc := slices_Equal_int64.enc) ⟨ttOk, conNil⟩ (Checked.mixed Try.checked) ⟨Try.func41, by kernel_rfl, by kernel_rfl, by kernel_rfl, by kernel_rfl, by decide, by kernel_rfl, by kernel_rfl⟩ (fun _ => rfl)
end Go.Proofs.Ytjknpaplgclflaa.P
namespace Go.Proofs.Ytjknpaplgclflaa.P
open Go Go.RowKit Go.Proofs.Ytjknpaplgclflaa.D
noncomputable def impl_mapped.E : Env := { tt := TT, con := [], frz := [], rows := [], live := [(3, [1, 5, 9, 10, 11])], n := 23, pin := 0, nils := [] }
noncomputable def impl_mapped.fn : D.Fn := { body := Try.f61.body.getD .skip, res := Try.f61.results.toList, ins := [.one (.v (.sl 2 (.int .i64))), .one (.fn [(.int .i64)] (.int .i64))], outs := [.one (.own 2 true (.int .i64))] }
def impl_mapped.enc (y : lsd (flats impl_mapped.fn.outs) × lsd (ios impl_mapped.fn.ins)) : (List Int) := y.1.1
noncomputable def impl_mapped.f (l0 : List Int) (f1 : Int → Option Int) : Option (List Int) := denF impl_mapped.E impl_mapped.fn impl_mapped.enc (l0, fun x => f1 x.1, ())
noncomputable def impl_mapped.l0 (fx1 : Int → Option Int) (x9 : List Int) (x10 : Int) (x11 : Int) (r0 : List Int) : Option (List Int) := denAt impl_mapped.E impl_mapped.fn impl_mapped.enc [1, 1, 0, 1, 0] { fr := [(1, .lf (.fn [(.int .i64)] (.int .i64) (fun x => fx1 x.1))), (5, .lf (.own 0)), (9, .lf (.sl (.int .i64) x9)), (10, .lf (.int .i64 x10)), (11, .lf (.int .i64 x11))], ob := [(0, .row 2 true (.int .i64) r0)], nx := 1 }
set_option maxRecDepth 100000 in
theorem impl_mapped.f_eq (l0 : List Int) (f1 : Int → Option Int) : impl_mapped.f l0 f1 = impl_mapped.l0 f1 l0 (l0.length : Int) 0 ([] : List Int) := by kernel_rfl
set_option maxRecDepth 100000 in
theorem impl_mapped.l0_eq (fx1 : Int → Option Int) (x9 : List Int) (x10 : Int) (x11 : Int) (r0 : List Int) : impl_mapped.l0 fx1 x9 x10 x11 r0 = if x11 < x10 then (if 0 ≤ x11 then (if x11 < (x9.length : Int) then ((fx1 (rd x9 x11)).bind fun t18 => if r0.length + ([t18] : List Int).length ≤ 17592186044416 then (impl_mapped.l0 fx1 x9 x10 (wrapI (x11 + 1)) (r0 ++ ([t18] : List Int))) else none) else none) else none) else (some r0) := (loop_unfold _ _ _ _).trans (by kernel_rfl)
noncomputable def impl_mapped.con : Con := ⟨impl_mapped.fn.ins, impl_mapped.fn.outs, (List Int), fun x => impl_mapped.f x.1 (fun z0 => x.2.1 (z0, ())), fun r => ((r, ()), (()))⟩
theorem impl_mapped.valid : Valid Try.prog 61 impl_mapped.con := fn_valid (f := impl_mapped.fn) (E := impl_mapped.E) (enc := impl_mapped.enc) ⟨ttOk, conNil⟩ (Checked.mixed Try.checked) ⟨Try.func61, by kernel_rfl, by kernel_rfl, by kernel_rfl, by kernel_rfl, by decide, by kernel_rfl, by kernel_rfl⟩ (fun _ => rfl)
end Go.Proofs.Ytjknpaplgclflaa.P
namespace Go.Proofs.Ytjknpaplgclflaa.P
open Go Go.RowKit Go.Proofs.Ytjknpaplgclflaa.D
noncomputable def impl_principalMap_1.E : Env := { tt := TT, con := [], frz := [], rows := [], live := [], n := 16, pin := 0, nils := [] }
noncomputable def impl_principalMap_1.fn : D.Fn := { body := Try.f62.body.getD .skip, res := Try.f62.results.toList, ins := [.one (.v (.int .i64)), .ptr true 2 [.v (.int .i64)], .ptr true 34 [.v (.int .i64), .v (.sl 2 (.int .i64))]], outs := [.one (.v (.int .i64))] }
def impl_principalMap_1.enc (y : lsd (flats impl_principalMap_1.fn.outs) × lsd (ios impl_principalMap_1.fn.ins)) : Int := y.1.1
noncomputable def impl_principalMap_1.f (a0 : Int) (a1 : Int) (a2_0 : Int) (l2_1 : List Int) : Option Int := denF impl_principalMap_1.E impl_principalMap_1.fn impl_principalMap_1.enc (a0, a1, a2_0, l2_1, ())
set_option maxRecDepth 100000 in
theorem impl_principalMap_1.f_eq (a0 : Int) (a1 : Int) (a2_0 : Int) (l2_1 : List Int) : impl_principalMap_1.f a0 a1 a2_0 l2_1 = if a2_0 = 0 then none else (some ((wrapI ((wrapI ((wrapI (a0 * a1)) + a2_0)) - a1) : Int).tmod a2_0)) := by kernel_rfl
noncomputable def impl_principalMap_1.con : Con := ⟨impl_principalMap_1.fn.ins, impl_principalMap_1.fn.outs, Int, fun x => impl_principalMap_1.f x.1 x.2.1 x.2.2.1 x.2.2.2.1, fun r => ((r, ()), (()))⟩
theorem impl_principalMap_1.valid : Valid Try.prog 62 impl_principalMap_1.con := fn_valid (f := impl_principalMap_1.fn) (E := impl_principalMap_1.E) (enc := impl_principalMap_1.enc) ⟨ttOk, conNil⟩ (Checked.mixed Try.checked) ⟨Try.func62, by kernel_rfl, by kernel_rfl, by kernel_rfl, by kernel_rfl, by decide, by kernel_rfl, by kernel_rfl⟩ (fun _ => rfl)
end Go.Proofs.Ytjknpaplgclflaa.P
namespace Go.Proofs.Ytjknpaplgclflaa.P
open Go Go.RowKit Go.Proofs.Ytjknpaplgclflaa.D
noncomputable def impl_principalMap.E : Env := { tt := TT, con := [(61, impl_mapped.con), (62, impl_principalMap_1.con)], frz := [], rows := [], live := [], n := 9, pin := 0, nils := [] }
noncomputable def impl_principalMap.fn : D.Fn := { body := Try.f48.body.getD .skip, res := Try.f48.results.toList, ins := [.agg [.v (.int .i64), .v (.sl 2 (.int .i64))], .one (.v (.int .i64))], outs := [.one (.own 2 true (.int .i64))] }
def impl_principalMap.enc (y : lsd (flats impl_principalMap.fn.outs) × lsd (ios impl_principalMap.fn.ins)) : (List Int) := y.1.1
noncomputable def impl_principalMap.f (a0_0 : Int) (l0_1 : List Int) (a1 : Int) : Option (List Int) := denF impl_principalMap.E impl_principalMap.fn impl_principalMap.enc (a0_0, l0_1, a1, ())
set_option maxRecDepth 100000 in
theorem impl_principalMap.f_eq (a0_0 : Int) (l0_1 : List Int) (a1 : Int) : impl_principalMap.f a0_0 l0_1 a1 = (impl_mapped.f l0_1 (fun z0 => (impl_principalMap_1.f z0 a1 a0_0 l0_1).map fun z => z)).bind fun t8 => some t8 := by kernel_rfl
noncomputable def impl_principalMap.con : Con := ⟨impl_principalMap.fn.ins, impl_principalMap.fn.outs, (List Int), fun x => impl_principalMap.f x.1 x.2.1 x.2.2.1, fun r => ((r, ()), (()))⟩
theorem impl_principalMap.valid : Valid Try.prog 48 impl_principalMap.con := fn_valid (f := impl_principalMap.fn) (E := impl_principalMap.E) (enc := impl_principalMap.enc) ⟨ttOk, (conCons impl_mapped.valid (conCons impl_principalMap_1.valid conNil))⟩ (Checked.mixed Try.checked) ⟨Try.func48, by kernel_rfl, by kernel_rfl, by kernel_rfl, by kernel_rfl, by decide, by kernel_rfl, by kernel_rfl⟩ (fun _ => rfl)
end Go.Proofs.Ytjknpaplgclflaa.P
namespace Go.Proofs.Ytjknpaplgclflaa.R
open Go Go.RowKit Go.Proofs.Ytjknpaplgclflaa.D
theorem ti3 : TiOk Try.prog 3 ⟨.int .i64, 1, 8, [.int .i64 0], (.int .i64), true⟩ := tiMk (show Try.prog.underlying 3 = some (.int .i64) by kernel_rfl) (by kernel_rfl) (by kernel_rfl) (by kernel_rfl)
theorem ti4 : TiOk Try.prog 4 ⟨.bool, 1, 1, [fls], .bool, true⟩ := tiMk (show Try.prog.underlying 4 = some .bool by kernel_rfl) (by kernel_rfl) (by kernel_rfl) (by kernel_rfl)
theorem ti22 : TiOk Try.prog 22 ⟨.sl 25, 1, 24, [.nil], (.sl 25 .raw), true⟩ := tiMk (show Try.prog.underlying 22 = some (.slice 25) by kernel_rfl) (by kernel_rfl) (by kernel_rfl) (by kernel_rfl)
theorem ti25 : TiOk Try.prog 25 ⟨.sl 2, 1, 24, [.nil], .raw, true⟩ := tiMk (show Try.prog.underlying 25 = some (.slice 2) by kernel_rfl) (by kernel_rfl) (by kernel_rfl) (by kernel_rfl)
theorem ti77 : TiOk Try.prog 77 ⟨.int .u64, 1, 8, [.int .u64 0], (.int .u64), true⟩ := tiMk (show Try.prog.underlying 77 = some (.int .u64) by kernel_rfl) (by kernel_rfl) (by kernel_rfl) (by kernel_rfl)
theorem ti92 : TiOk Try.prog 92 ⟨.int .i64, 1, 8, [.int .i64 0], (.int .i64), true⟩ := tiMk (show Try.prog.underlying 92 = some (.int .i64) by kernel_rfl) (by kernel_rfl) (by kernel_rfl) (by kernel_rfl)
theorem ti102 : TiOk Try.prog 102 ⟨.int .u64, 1, 8, [.int .u64 0], (.int .u64), true⟩ := tiMk (show Try.prog.underlying 102 = some (.int .u64) by kernel_rfl) (by kernel_rfl) (by kernel_rfl) (by kernel_rfl)
theorem ti111 : TiOk Try.prog 111 ⟨.int .u64, 1, 8, [.int .u64 0], (.int .u64), true⟩ := tiMk (show Try.prog.underlying 111 = some (.int .u64) by kernel_rfl) (by kernel_rfl) (by kernel_rfl) (by kernel_rfl)
noncomputable def TT : List (Nat × TI) := [(3, ⟨.int .i64, 1, 8, [.int .i64 0], (.int .i64), true⟩), (4, ⟨.bool, 1, 1, [fls], .bool, true⟩), (22, ⟨.sl 25, 1, 24, [.nil], (.sl 25 .raw), true⟩), (25, ⟨.sl 2, 1, 24, [.nil], .raw, true⟩), (77, ⟨.int .u64, 1, 8, [.int .u64 0], (.int .u64), true⟩), (92, ⟨.int .i64, 1, 8, [.int .i64 0], (.int .i64), true⟩), (102, ⟨.int .u64, 1, 8, [.int .u64 0], (.int .u64), true⟩), (111, ⟨.int .u64, 1, 8, [.int .u64 0], (.int .u64), true⟩)]
theorem ttOk : TtOk Try.prog TT := (ttCons ti3 (ttCons ti4 (ttCons ti22 (ttCons ti25 (ttCons ti77 (ttCons ti92 (ttCons ti102 (ttCons ti111 ttNil))))))))
end Go.Proofs.Ytjknpaplgclflaa.R
namespace Go.Proofs.Ytjknpaplgclflaa.R
open Go Go.RowKit Go.Proofs.Ytjknpaplgclflaa.D
noncomputable def slices_insertionSortCmpFunc_int64.E : Env := { tt := TT, con := [], frz := [], rows := [], live := [(1, [0, 1, 2, 3, 8]), (4, [0, 1, 2, 3, 8, 9])], n := 53, pin := 1, nils := [] }
noncomputable def slices_insertionSortCmpFunc_int64.fn : D.Fn := { body := Try.f76.body.getD .skip, res := Try.f76.results.toList, ins := [.one (.own 25 true .raw), .one (.v (.int .i64)), .one (.v (.int .i64)), .one (.fn [.raw, .raw] (.int .i64))], outs := [] }
def slices_insertionSortCmpFunc_int64.enc (y : lsd (flats slices_insertionSortCmpFunc_int64.fn.outs) × lsd (ios slices_insertionSortCmpFunc_int64.fn.ins)) : (List Value) := y.2.1
noncomputable def slices_insertionSortCmpFunc_int64.f (l0 : List Value) (a1 : Int) (a2 : Int) (f3 : Value → Value → Option Int) : Option (List Value) := denF slices_insertionSortCmpFunc_int64.E slices_insertionSortCmpFunc_int64.fn slices_insertionSortCmpFunc_int64.enc (l0, a1, a2, fun x => f3 x.1 x.2.1, ())
noncomputable def slices_insertionSortCmpFunc_int64.l0 (x1 : Int) (x2 : Int) (fx3 : Value → Value → Option Int) (x8 : Int) (r0 : List Value) : Option (List Value) := denAt slices_insertionSortCmpFunc_int64.E slices_insertionSortCmpFunc_int64.fn slices_insertionSortCmpFunc_int64.enc [1, 0] { fr := [(0, .lf (.own 0)), (1, .lf (.int .i64 x1)), (2, .lf (.int .i64 x2)), (3, .lf (.fn [.raw, .raw] (.int .i64) (fun x => fx3 x.1 x.2.1))), (8, .lf (.int .i64 x8))], ob := [(0, .row 25 true .raw r0)], nx := 1 }
noncomputable def slices_insertionSortCmpFunc_int64.l1 (x1 : Int) (x2 : Int) (fx3 : Value → Value → Option Int) (x8 : Int) (x9 : Int) (r0 : List Value) : Option (List Value) := denAt slices_insertionSortCmpFunc_int64.E slices_insertionSortCmpFunc_int64.fn slices_insertionSortCmpFunc_int64.enc [1, 0, 0, 1, 0, 0, 1, 0] { fr := [(0, .lf (.own 0)), (1, .lf (.int .i64 x1)), (2, .lf (.int .i64 x2)), (3, .lf (.fn [.raw, .raw] (.int .i64) (fun x => fx3 x.1 x.2.1))), (8, .lf (.int .i64 x8)), (9, .lf (.int .i64 x9))], ob := [(0, .row 25 true .raw r0)], nx := 1 }
set_option maxRecDepth 100000 in
theorem slices_insertionSortCmpFunc_int64.f_eq (l0 : List Value) (a1 : Int) (a2 : Int) (f3 : Value → Value → Option Int) : slices_insertionSortCmpFunc_int64.f l0 a1 a2 f3 = slices_insertionSortCmpFunc_int64.l0 a1 a2 f3 (wrapI (a1 + 1)) l0 := by kernel_rfl
set_option maxRecDepth 100000 in
theorem slices_insertionSortCmpFunc_int64.l0_eq (x1 : Int) (x2 : Int) (fx3 : Value → Value → Option Int) (x8 : Int) (r0 : List Value) : slices_insertionSortCmpFunc_int64.l0 x1 x2 fx3 x8 r0 = if x8 < x2 then (slices_insertionSortCmpFunc_int64.l1 x1 x2 fx3 x8 x8 r0) else (some r0) := (loop_unfold _ _ _ _).trans (by kernel_rfl)
set_option maxRecDepth 100000 in
theorem slices_insertionSortCmpFunc_int64.l1_eq (x1 : Int) (x2 : Int) (fx3 : Value → Value → Option Int) (x8 : Int) (x9 : Int) (r0 : List Value) : slices_insertionSortCmpFunc_int64.l1 x1 x2 fx3 x8 x9 r0 = if x9 > x1 then (if 0 ≤ x9 then (if x9 < (r0.length : Int) then (if 0 ≤ x9 then (if x9 < (r0.length : Int) then (if 0 ≤ wrapI (x9 - 1) then (if wrapI (x9 - 1) < (r0.length : Int) then (if 0 ≤ wrapI (x9 - 1) then (if wrapI (x9 - 1) < (r0.length : Int) then ((fx3 (Ty.rd .raw r0 x9) (Ty.rd .raw r0 (wrapI (x9 - 1)))).bind fun t32 => if t32 < 0 then (if 0 ≤ wrapI (x9 - 1) then (if wrapI (x9 - 1) < (r0.length : Int) then (if 0 ≤ wrapI (x9 - 1) then (if wrapI (x9 - 1) < (r0.length : Int) then (if 0 ≤ x9 then (if x9 < (r0.length : Int) then (if 0 ≤ x9 then (if x9 < (r0.length : Int) then (if 0 ≤ x9 then (if x9 < (r0.length : Int) then (if 0 ≤ x9 then (if x9 < (r0.length : Int) then (if 0 ≤ wrapI (x9 - 1) then (if wrapI (x9 - 1) < ((r0.set (x9 : Int).toNat (Ty.rd .raw r0 (wrapI (x9 - 1)))).length : Int) then (if 0 ≤ wrapI (x9 - 1) then (if wrapI (x9 - 1) < ((r0.set (x9 : Int).toNat (Ty.rd .raw r0 (wrapI (x9 - 1)))).length : Int) then (slices_insertionSortCmpFunc_int64.l1 x1 x2 fx3 x8 (wrapI (x9 - 1)) ((r0.set (x9 : Int).toNat (Ty.rd .raw r0 (wrapI (x9 - 1)))).set (wrapI (x9 - 1) : Int).toNat (Ty.rd .raw r0 x9))) else none) else none) else none) else none) else none) else none) else none) else none) else none) else none) else none) else none) else none) else none) else none) else none) else (slices_insertionSortCmpFunc_int64.l0 x1 x2 fx3 (wrapI (x8 + 1)) r0)) else none) else none) else none) else none) else none) else none) else none) else none) else (slices_insertionSortCmpFunc_int64.l0 x1 x2 fx3 (wrapI (x8 + 1)) r0) := (loop_unfold _ _ _ _).trans (by kernel_rfl)
noncomputable def slices_insertionSortCmpFunc_int64.con : Con := ⟨slices_insertionSortCmpFunc_int64.fn.ins, slices_insertionSortCmpFunc_int64.fn.outs, (List Value), fun x => slices_insertionSortCmpFunc_int64.f x.1 x.2.1 x.2.2.1 (fun z0 z1 => x.2.2.2.1 (z0, z1, ())), fun r => ((()), (r, ()))⟩
theorem slices_insertionSortCmpFunc_int64.valid : Valid Try.prog 76 slices_insertionSortCmpFunc_int64.con := fn_valid (f := slices_insertionSortCmpFunc_int64.fn) (E := slices_insertionSortCmpFunc_int64.E) (enc := slices_insertionSortCmpFunc_int64.enc) ⟨ttOk, conNil⟩ (Checked.mixed Try.checked) ⟨Try.func76, by kernel_rfl, by kernel_rfl, by kernel_rfl, by kernel_rfl, by decide, by kernel_rfl, by kernel_rfl⟩ (fun _ => rfl)
end Go.Proofs.Ytjknpaplgclflaa.R
namespace Go.Proofs.Ytjknpaplgclflaa.R
open Go Go.RowKit Go.Proofs.Ytjknpaplgclflaa.D
noncomputable def slices_siftDownCmpFunc_int64.E : Env := { tt := TT, con := [], frz := [], rows := [], live := [(1, [0, 2, 3, 4, 10])], n := 82, pin := 1, nils := [] }
noncomputable def slices_siftDownCmpFunc_int64.fn : D.Fn := { body := Try.f94.body.getD .skip, res := Try.f94.results.toList, ins := [.one (.own 25 true .raw), .one (.v (.int .i64)), .one (.v (.int .i64)), .one (.v (.int .i64)), .one (.fn [.raw, .raw] (.int .i64))], outs := [] }
def slices_siftDownCmpFunc_int64.enc (y : lsd (flats slices_siftDownCmpFunc_int64.fn.outs) × lsd (ios slices_siftDownCmpFunc_int64.fn.ins)) : (List Value) := y.2.1
noncomputable def slices_siftDownCmpFunc_int64.f (l0 : List Value) (a1 : Int) (a2 : Int) (a3 : Int) (f4 : Value → Value → Option Int) : Option (List Value) := denF slices_siftDownCmpFunc_int64.E slices_siftDownCmpFunc_int64.fn slices_siftDownCmpFunc_int64.enc (l0, a1, a2, a3, fun x => f4 x.1 x.2.1, ())
noncomputable def slices_siftDownCmpFunc_int64.l0 (x2 : Int) (x3 : Int) (fx4 : Value → Value → Option Int) (x10 : Int) (r0 : List Value) : Option (List Value) := denAt slices_siftDownCmpFunc_int64.E slices_siftDownCmpFunc_int64.fn slices_siftDownCmpFunc_int64.enc [1, 0] { fr := [(0, .lf (.own 0)), (2, .lf (.int .i64 x2)), (3, .lf (.int .i64 x3)), (4, .lf (.fn [.raw, .raw] (.int .i64) (fun x => fx4 x.1 x.2.1))), (10, .lf (.int .i64 x10))], ob := [(0, .row 25 true .raw r0)], nx := 1 }
set_option maxRecDepth 100000 in
theorem slices_siftDownCmpFunc_int64.f_eq (l0 : List Value) (a1 : Int) (a2 : Int) (a3 : Int) (f4 : Value → Value → Option Int) : slices_siftDownCmpFunc_int64.f l0 a1 a2 a3 f4 = slices_siftDownCmpFunc_int64.l0 a2 a3 f4 a1 l0 := by kernel_rfl
set_option maxRecDepth 100000 in
theorem slices_siftDownCmpFunc_int64.l0_eq (x2 : Int) (x3 : Int) (fx4 : Value → Value → Option Int) (x10 : Int) (r0 : List Value) : slices_siftDownCmpFunc_int64.l0 x2 x3 fx4 x10 r0 = if (wrapI ((wrapI (2 * x10)) + 1)) ≥ x2 then (some r0) else (if (wrapI ((wrapI ((wrapI (2 * x10)) + 1)) + 1)) < x2 then (if 0 ≤ wrapI (x3 + (wrapI ((wrapI (2 * x10)) + 1))) then (if wrapI (x3 + (wrapI ((wrapI (2 * x10)) + 1))) < (r0.length : Int) then (if 0 ≤ wrapI (x3 + (wrapI ((wrapI (2 * x10)) + 1))) then (if wrapI (x3 + (wrapI ((wrapI (2 * x10)) + 1))) < (r0.length : Int) then (if 0 ≤ wrapI ((wrapI (x3 + (wrapI ((wrapI (2 * x10)) + 1)))) + 1) then (if wrapI ((wrapI (x3 + (wrapI ((wrapI (2 * x10)) + 1)))) + 1) < (r0.length : Int) then (if 0 ≤ wrapI ((wrapI (x3 + (wrapI ((wrapI (2 * x10)) + 1)))) + 1) then (if wrapI ((wrapI (x3 + (wrapI ((wrapI (2 * x10)) + 1)))) + 1) < (r0.length : Int) then ((fx4 (Ty.rd .raw r0 (wrapI (x3 + (wrapI ((wrapI (2 * x10)) + 1))))) (Ty.rd .raw r0 (wrapI ((wrapI (x3 + (wrapI ((wrapI (2 * x10)) + 1)))) + 1)))).bind fun t38 => if t38 < 0 then (if 0 ≤ wrapI (x3 + x10) then (if wrapI (x3 + x10) < (r0.length : Int) then (if 0 ≤ wrapI (x3 + x10) then (if wrapI (x3 + x10) < (r0.length : Int) then (if 0 ≤ wrapI (x3 + (wrapI ((wrapI ((wrapI (2 * x10)) + 1)) + 1))) then (if wrapI (x3 + (wrapI ((wrapI ((wrapI (2 * x10)) + 1)) + 1))) < (r0.length : Int) then (if 0 ≤ wrapI (x3 + (wrapI ((wrapI ((wrapI (2 * x10)) + 1)) + 1))) then (if wrapI (x3 + (wrapI ((wrapI ((wrapI (2 * x10)) + 1)) + 1))) < (r0.length : Int) then ((fx4 (Ty.rd .raw r0 (wrapI (x3 + x10))) (Ty.rd .raw r0 (wrapI (x3 + (wrapI ((wrapI ((wrapI (2 * x10)) + 1)) + 1)))))).bind fun t56 => if t56 < 0 then (if 0 ≤ wrapI (x3 + (wrapI ((wrapI ((wrapI (2 * x10)) + 1)) + 1))) then (if wrapI (x3 + (wrapI ((wrapI ((wrapI (2 * x10)) + 1)) + 1))) < (r0.length : Int) then (if 0 ≤ wrapI (x3 + (wrapI ((wrapI ((wrapI (2 * x10)) + 1)) + 1))) then (if wrapI (x3 + (wrapI ((wrapI ((wrapI (2 * x10)) + 1)) + 1))) < (r0.length : Int) then (if 0 ≤ wrapI (x3 + x10) then (if wrapI (x3 + x10) < (r0.length : Int) then (if 0 ≤ wrapI (x3 + x10) then (if wrapI (x3 + x10) < (r0.length : Int) then (if 0 ≤ wrapI (x3 + x10) then (if wrapI (x3 + x10) < (r0.length : Int) then (if 0 ≤ wrapI (x3 + x10) then (if wrapI (x3 + x10) < (r0.length : Int) then (if 0 ≤ wrapI (x3 + (wrapI ((wrapI ((wrapI (2 * x10)) + 1)) + 1))) then (if wrapI (x3 + (wrapI ((wrapI ((wrapI (2 * x10)) + 1)) + 1))) < ((r0.set (wrapI (x3 + x10) : Int).toNat (Ty.rd .raw r0 (wrapI (x3 + (wrapI ((wrapI ((wrapI (2 * x10)) + 1)) + 1)))))).length : Int) then (if 0 ≤ wrapI (x3 + (wrapI ((wrapI ((wrapI (2 * x10)) + 1)) + 1))) then (if wrapI (x3 + (wrapI ((wrapI ((wrapI (2 * x10)) + 1)) + 1))) < ((r0.set (wrapI (x3 + x10) : Int).toNat (Ty.rd .raw r0 (wrapI (x3 + (wrapI ((wrapI ((wrapI (2 * x10)) + 1)) + 1)))))).length : Int) then (slices_siftDownCmpFunc_int64.l0 x2 x3 fx4 (wrapI ((wrapI ((wrapI (2 * x10)) + 1)) + 1)) ((r0.set (wrapI (x3 + x10) : Int).toNat (Ty.rd .raw r0 (wrapI (x3 + (wrapI ((wrapI ((wrapI (2 * x10)) + 1)) + 1)))))).set (wrapI (x3 + (wrapI ((wrapI ((wrapI (2 * x10)) + 1)) + 1))) : Int).toNat (Ty.rd .raw r0 (wrapI (x3 + x10))))) else none) else none) else none) else none) else none) else none) else none) else none) else none) else none) else none) else none) else none) else none) else none) else none) else (some r0)) else none) else none) else none) else none) else none) else none) else none) else none) else (if 0 ≤ wrapI (x3 + x10) then (if wrapI (x3 + x10) < (r0.length : Int) then (if 0 ≤ wrapI (x3 + x10) then (if wrapI (x3 + x10) < (r0.length : Int) then (if 0 ≤ wrapI (x3 + (wrapI ((wrapI (2 * x10)) + 1))) then (if wrapI (x3 + (wrapI ((wrapI (2 * x10)) + 1))) < (r0.length : Int) then (if 0 ≤ wrapI (x3 + (wrapI ((wrapI (2 * x10)) + 1))) then (if wrapI (x3 + (wrapI ((wrapI (2 * x10)) + 1))) < (r0.length : Int) then ((fx4 (Ty.rd .raw r0 (wrapI (x3 + x10))) (Ty.rd .raw r0 (wrapI (x3 + (wrapI ((wrapI (2 * x10)) + 1)))))).bind fun t56 => if t56 < 0 then (if 0 ≤ wrapI (x3 + (wrapI ((wrapI (2 * x10)) + 1))) then (if wrapI (x3 + (wrapI ((wrapI (2 * x10)) + 1))) < (r0.length : Int) then (if 0 ≤ wrapI (x3 + (wrapI ((wrapI (2 * x10)) + 1))) then (if wrapI (x3 + (wrapI ((wrapI (2 * x10)) + 1))) < (r0.length : Int) then (if 0 ≤ wrapI (x3 + x10) then (if wrapI (x3 + x10) < (r0.length : Int) then (if 0 ≤ wrapI (x3 + x10) then (if wrapI (x3 + x10) < (r0.length : Int) then (if 0 ≤ wrapI (x3 + x10) then (if wrapI (x3 + x10) < (r0.length : Int) then (if 0 ≤ wrapI (x3 + x10) then (if wrapI (x3 + x10) < (r0.length : Int) then (if 0 ≤ wrapI (x3 + (wrapI ((wrapI (2 * x10)) + 1))) then (if wrapI (x3 + (wrapI ((wrapI (2 * x10)) + 1))) < ((r0.set (wrapI (x3 + x10) : Int).toNat (Ty.rd .raw r0 (wrapI (x3 + (wrapI ((wrapI (2 * x10)) + 1)))))).length : Int) then (if 0 ≤ wrapI (x3 + (wrapI ((wrapI (2 * x10)) + 1))) then (if wrapI (x3 + (wrapI ((wrapI (2 * x10)) + 1))) < ((r0.set (wrapI (x3 + x10) : Int).toNat (Ty.rd .raw r0 (wrapI (x3 + (wrapI ((wrapI (2 * x10)) + 1)))))).length : Int) then (slices_siftDownCmpFunc_int64.l0 x2 x3 fx4 (wrapI ((wrapI (2 * x10)) + 1)) ((r0.set (wrapI (x3 + x10) : Int).toNat (Ty.rd .raw r0 (wrapI (x3 + (wrapI ((wrapI (2 * x10)) + 1)))))).set (wrapI (x3 + (wrapI ((wrapI (2 * x10)) + 1))) : Int).toNat (Ty.rd .raw r0 (wrapI (x3 + x10))))) else none) else none) else none) else none) else none) else none) else none) else none) else none) else none) else none) else none) else none) else none) else none) else none) else (some r0)) else none) else none) else none) else none) else none) else none) else none) else none)) else none) else none) else none) else none) else none) else none) else none) else none) else (if 0 ≤ wrapI (x3 + x10) then (if wrapI (x3 + x10) < (r0.length : Int) then (if 0 ≤ wrapI (x3 + x10) then (if wrapI (x3 + x10) < (r0.length : Int) then (if 0 ≤ wrapI (x3 + (wrapI ((wrapI (2 * x10)) + 1))) then (if wrapI (x3 + (wrapI ((wrapI (2 * x10)) + 1))) < (r0.length : Int) then (if 0 ≤ wrapI (x3 + (wrapI ((wrapI (2 * x10)) + 1))) then (if wrapI (x3 + (wrapI ((wrapI (2 * x10)) + 1))) < (r0.length : Int) then ((fx4 (Ty.rd .raw r0 (wrapI (x3 + x10))) (Ty.rd .raw r0 (wrapI (x3 + (wrapI ((wrapI (2 * x10)) + 1)))))).bind fun t56 => if t56 < 0 then (if 0 ≤ wrapI (x3 + (wrapI ((wrapI (2 * x10)) + 1))) then (if wrapI (x3 + (wrapI ((wrapI (2 * x10)) + 1))) < (r0.length : Int) then (if 0 ≤ wrapI (x3 + (wrapI ((wrapI (2 * x10)) + 1))) then (if wrapI (x3 + (wrapI ((wrapI (2 * x10)) + 1))) < (r0.length : Int) then (if 0 ≤ wrapI (x3 + x10) then (if wrapI (x3 + x10) < (r0.length : Int) then (if 0 ≤ wrapI (x3 + x10) then (if wrapI (x3 + x10) < (r0.length : Int) then (if 0 ≤ wrapI (x3 + x10) then (if wrapI (x3 + x10) < (r0.length : Int) then (if 0 ≤ wrapI (x3 + x10) then (if wrapI (x3 + x10) < (r0.length : Int) then (if 0 ≤ wrapI (x3 + (wrapI ((wrapI (2 * x10)) + 1))) then (if wrapI (x3 + (wrapI ((wrapI (2 * x10)) + 1))) < ((r0.set (wrapI (x3 + x10) : Int).toNat (Ty.rd .raw r0 (wrapI (x3 + (wrapI ((wrapI (2 * x10)) + 1)))))).length : Int) then (if 0 ≤ wrapI (x3 + (wrapI ((wrapI (2 * x10)) + 1))) then (if wrapI (x3 + (wrapI ((wrapI (2 * x10)) + 1))) < ((r0.set (wrapI (x3 + x10) : Int).toNat (Ty.rd .raw r0 (wrapI (x3 + (wrapI ((wrapI (2 * x10)) + 1)))))).length : Int) then (slices_siftDownCmpFunc_int64.l0 x2 x3 fx4 (wrapI ((wrapI (2 * x10)) + 1)) ((r0.set (wrapI (x3 + x10) : Int).toNat (Ty.rd .raw r0 (wrapI (x3 + (wrapI ((wrapI (2 * x10)) + 1)))))).set (wrapI (x3 + (wrapI ((wrapI (2 * x10)) + 1))) : Int).toNat (Ty.rd .raw r0 (wrapI (x3 + x10))))) else none) else none) else none) else none) else none) else none) else none) else none) else none) else none) else none) else none) else none) else none) else none) else none) else (some r0)) else none) else none) else none) else none) else none) else none) else none) else none)) := (loop_unfold _ _ _ _).trans (by kernel_rfl)
noncomputable def slices_siftDownCmpFunc_int64.con : Con := ⟨slices_siftDownCmpFunc_int64.fn.ins, slices_siftDownCmpFunc_int64.fn.outs, (List Value), fun x => slices_siftDownCmpFunc_int64.f x.1 x.2.1 x.2.2.1 x.2.2.2.1 (fun z0 z1 => x.2.2.2.2.1 (z0, z1, ())), fun r => ((()), (r, ()))⟩
theorem slices_siftDownCmpFunc_int64.valid : Valid Try.prog 94 slices_siftDownCmpFunc_int64.con := fn_valid (f := slices_siftDownCmpFunc_int64.fn) (E := slices_siftDownCmpFunc_int64.E) (enc := slices_siftDownCmpFunc_int64.enc) ⟨ttOk, conNil⟩ (Checked.mixed Try.checked) ⟨Try.func94, by kernel_rfl, by kernel_rfl, by kernel_rfl, by kernel_rfl, by decide, by kernel_rfl, by kernel_rfl⟩ (fun _ => rfl)
end Go.Proofs.Ytjknpaplgclflaa.R
namespace Go.Proofs.Ytjknpaplgclflaa.R
open Go Go.RowKit Go.Proofs.Ytjknpaplgclflaa.D
noncomputable def slices_heapSortCmpFunc_int64.E : Env := { tt := TT, con := [(94, slices_siftDownCmpFunc_int64.con)], frz := [], rows := [], live := [(4, [0, 3, 8, 9, 10, 11]), (8, [0, 3, 8, 9, 12])], n := 60, pin := 1, nils := [] }
noncomputable def slices_heapSortCmpFunc_int64.fn : D.Fn := { body := Try.f77.body.getD .skip, res := Try.f77.results.toList, ins := [.one (.own 25 true .raw), .one (.v (.int .i64)), .one (.v (.int .i64)), .one (.fn [.raw, .raw] (.int .i64))], outs := [] }
def slices_heapSortCmpFunc_int64.enc (y : lsd (flats slices_heapSortCmpFunc_int64.fn.outs) × lsd (ios slices_heapSortCmpFunc_int64.fn.ins)) : (List Value) := y.2.1
noncomputable def slices_heapSortCmpFunc_int64.f (l0 : List Value) (a1 : Int) (a2 : Int) (f3 : Value → Value → Option Int) : Option (List Value) := denF slices_heapSortCmpFunc_int64.E slices_heapSortCmpFunc_int64.fn slices_heapSortCmpFunc_int64.enc (l0, a1, a2, fun x => f3 x.1 x.2.1, ())
noncomputable def slices_heapSortCmpFunc_int64.l0 (fx3 : Value → Value → Option Int) (x8 : Int) (x9 : Int) (x10 : Int) (x11 : Int) (r0 : List Value) : Option (List Value) := denAt slices_heapSortCmpFunc_int64.E slices_heapSortCmpFunc_int64.fn slices_heapSortCmpFunc_int64.enc [1, 1, 1, 0, 1, 0] { fr := [(0, .lf (.own 0)), (3, .lf (.fn [.raw, .raw] (.int .i64) (fun x => fx3 x.1 x.2.1))), (8, .lf (.int .i64 x8)), (9, .lf (.int .i64 x9)), (10, .lf (.int .i64 x10)), (11, .lf (.int .i64 x11))], ob := [(0, .row 25 true .raw r0)], nx := 1 }
noncomputable def slices_heapSortCmpFunc_int64.l1 (fx3 : Value → Value → Option Int) (x8 : Int) (x9 : Int) (x12 : Int) (r0 : List Value) : Option (List Value) := denAt slices_heapSortCmpFunc_int64.E slices_heapSortCmpFunc_int64.fn slices_heapSortCmpFunc_int64.enc [1, 1, 1, 1, 1, 0] { fr := [(0, .lf (.own 0)), (3, .lf (.fn [.raw, .raw] (.int .i64) (fun x => fx3 x.1 x.2.1))), (8, .lf (.int .i64 x8)), (9, .lf (.int .i64 x9)), (12, .lf (.int .i64 x12))], ob := [(0, .row 25 true .raw r0)], nx := 1 }
set_option maxRecDepth 100000 in
theorem slices_heapSortCmpFunc_int64.f_eq (l0 : List Value) (a1 : Int) (a2 : Int) (f3 : Value → Value → Option Int) : slices_heapSortCmpFunc_int64.f l0 a1 a2 f3 = slices_heapSortCmpFunc_int64.l0 f3 a1 0 (wrapI (a2 - a1)) (wrapI ((wrapI ((wrapI (a2 - a1)) - 1) : Int).tdiv 2)) l0 := by kernel_rfl
set_option maxRecDepth 100000 in
theorem slices_heapSortCmpFunc_int64.l0_eq (fx3 : Value → Value → Option Int) (x8 : Int) (x9 : Int) (x10 : Int) (x11 : Int) (r0 : List Value) : slices_heapSortCmpFunc_int64.l0 fx3 x8 x9 x10 x11 r0 = if x11 ≥ 0 then ((slices_siftDownCmpFunc_int64.f r0 x11 x10 x8 (fun z0 z1 => (fx3 z0 z1).map fun z => z)).bind fun t29 => slices_heapSortCmpFunc_int64.l0 fx3 x8 x9 x10 (wrapI (x11 - 1)) t29) else (slices_heapSortCmpFunc_int64.l1 fx3 x8 x9 (wrapI (x10 - 1)) r0) := (loop_unfold _ _ _ _).trans (by kernel_rfl)
set_option maxRecDepth 100000 in
theorem slices_heapSortCmpFunc_int64.l1_eq (fx3 : Value → Value → Option Int) (x8 : Int) (x9 : Int) (x12 : Int) (r0 : List Value) : slices_heapSortCmpFunc_int64.l1 fx3 x8 x9 x12 r0 = if x12 ≥ 0 then (if 0 ≤ wrapI (x8 + x12) then (if wrapI (x8 + x12) < (r0.length : Int) then (if 0 ≤ wrapI (x8 + x12) then (if wrapI (x8 + x12) < (r0.length : Int) then (if 0 ≤ x8 then (if x8 < (r0.length : Int) then (if 0 ≤ x8 then (if x8 < (r0.length : Int) then (if 0 ≤ x8 then (if x8 < (r0.length : Int) then (if 0 ≤ x8 then (if x8 < (r0.length : Int) then (if 0 ≤ wrapI (x8 + x12) then (if wrapI (x8 + x12) < ((r0.set (x8 : Int).toNat (Ty.rd .raw r0 (wrapI (x8 + x12)))).length : Int) then (if 0 ≤ wrapI (x8 + x12) then (if wrapI (x8 + x12) < ((r0.set (x8 : Int).toNat (Ty.rd .raw r0 (wrapI (x8 + x12)))).length : Int) then ((slices_siftDownCmpFunc_int64.f ((r0.set (x8 : Int).toNat (Ty.rd .raw r0 (wrapI (x8 + x12)))).set (wrapI (x8 + x12) : Int).toNat (Ty.rd .raw r0 x8)) x9 x12 x8 (fun z0 z1 => (fx3 z0 z1).map fun z => z)).bind fun t59 => slices_heapSortCmpFunc_int64.l1 fx3 x8 x9 (wrapI (x12 - 1)) t59) else none) else none) else none) else none) else none) else none) else none) else none) else none) else none) else none) else none) else none) else none) else none) else none) else (some r0) := (loop_unfold _ _ _ _).trans (by kernel_rfl)
noncomputable def slices_heapSortCmpFunc_int64.con : Con := ⟨slices_heapSortCmpFunc_int64.fn.ins, slices_heapSortCmpFunc_int64.fn.outs, (List Value), fun x => slices_heapSortCmpFunc_int64.f x.1 x.2.1 x.2.2.1 (fun z0 z1 => x.2.2.2.1 (z0, z1, ())), fun r => ((()), (r, ()))⟩
theorem slices_heapSortCmpFunc_int64.valid : Valid Try.prog 77 slices_heapSortCmpFunc_int64.con := fn_valid (f := slices_heapSortCmpFunc_int64.fn) (E := slices_heapSortCmpFunc_int64.E) (enc := slices_heapSortCmpFunc_int64.enc) ⟨ttOk, (conCons slices_siftDownCmpFunc_int64.valid conNil)⟩ (Checked.mixed Try.checked) ⟨Try.func77, by kernel_rfl, by kernel_rfl, by kernel_rfl, by kernel_rfl, by decide, by kernel_rfl, by kernel_rfl⟩ (fun _ => rfl)
end Go.Proofs.Ytjknpaplgclflaa.R
