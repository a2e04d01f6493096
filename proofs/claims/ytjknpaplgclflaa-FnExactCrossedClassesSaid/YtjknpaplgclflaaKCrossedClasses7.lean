/- What the proof of the law CrossedClasses stands on, part 7: words, each Go function's Lean function, and that the Go code comes to its answers; no condition. (Packed by wip/myprint/pack.py out of what the kit's printer wrote, its words among it, partly by our patches of it, and out of texts of this session.) -/
import Derived.Test.YtjknpaplgclflaaKCrossedClasses3
import Derived.Test.YtjknpaplgclflaaKCrossedClasses4
import Derived.Test.YtjknpaplgclflaaKCrossedClasses6
set_option linter.unusedVariables false
set_option linter.unusedSimpArgs false
namespace Go.Proofs.Ytjknpaplgclflaa.P
open Go Go.RowKit Go.Proofs.Ytjknpaplgclflaa.D
noncomputable def impl_zero.E : Env := { tt := TT, con := [(87, impl_cells.con)], frz := [], rows := [], live := [], n := 11, pin := 0, nils := [] }
noncomputable def impl_zero.fn : D.Fn := { body := Try.f89.body.getD .skip, res := Try.f89.results.toList, ins := [.agg [.v (.sl 25 (.sl 2 (.int .i64)))], .one (.v (.int .i64))], outs := [.agg [.v (.int .i64), .own 2 true (.int .i64)]] }
def impl_zero.enc (y : lsd (flats impl_zero.fn.outs) × lsd (ios impl_zero.fn.ins)) : Int × (List Int) := (y.1.1, y.1.2.1)
noncomputable def impl_zero.f (l0_0 : List (List Int)) (a1 : Int) : Option (Int × (List Int)) := denF impl_zero.E impl_zero.fn impl_zero.enc (l0_0, a1, ())
set_option maxRecDepth 100000 in
theorem impl_zero.f_eq (l0_0 : List (List Int)) (a1 : Int) : impl_zero.f l0_0 a1 = (impl_cells.f l0_0 a1).bind fun t8 => if t8 = t8 then (if 0 ≤ t8 then (if (t8 : Int).toNat ≤ 17592186044416 then (some (a1, List.replicate (t8 : Int).toNat (0 : Int))) else none) else none) else none := by kernel_rfl
noncomputable def impl_zero.con : Con := ⟨impl_zero.fn.ins, impl_zero.fn.outs, Int × (List Int), fun x => impl_zero.f x.1 x.2.1, fun r => ((r.1, r.2, ()), (()))⟩
theorem impl_zero.valid : Valid Try.prog 89 impl_zero.con := fn_valid (f := impl_zero.fn) (E := impl_zero.E) (enc := impl_zero.enc) ⟨ttOk, (conCons impl_cells.valid conNil)⟩ (Checked.mixed Try.checked) ⟨Try.func89, by kernel_rfl, by kernel_rfl, by kernel_rfl, by kernel_rfl, by decide, by kernel_rfl, by kernel_rfl⟩ (fun _ => rfl)
end Go.Proofs.Ytjknpaplgclflaa.P
namespace Go.Proofs.Ytjknpaplgclflaa.P
open Go Go.RowKit Go.Proofs.Ytjknpaplgclflaa.D
noncomputable def impl_span_combined.E : Env := { tt := TT, con := [], frz := [], rows := [], live := [(3, [0, 1, 3, 4, 11, 17, 18, 19])], n := 54, pin := 0, nils := [] }
noncomputable def impl_span_combined.fn : D.Fn := { body := Try.f68.body.getD .skip, res := Try.f68.results.toList, ins := [.ptr true 83 [.v (.int .i64), .v (.sl 25 (.sl 1000002 (.int .i64)))], .one (.v (.int .i64)), .one (.v (.sl 2 (.int .i64))), .one (.v (.int .i64)), .one (.v (.sl 2 (.int .i64)))], outs := [.one (.own 2 true (.int .i64))] }
def impl_span_combined.enc (y : lsd (flats impl_span_combined.fn.outs) × lsd (ios impl_span_combined.fn.ins)) : (List Int) := y.1.1
noncomputable def impl_span_combined.f (a0_0 : Int) (l0_1 : List (List Int)) (a1 : Int) (l2 : List Int) (a3 : Int) (l4 : List Int) : Option (List Int) := denF impl_span_combined.E impl_span_combined.fn impl_span_combined.enc (a0_0, l0_1, a1, l2, a3, l4, ())
noncomputable def impl_span_combined.l0 (x1 : Int) (x3 : Int) (x4 : List Int) (x17 : List Int) (x18 : Int) (x19 : Int) (b0_0 : Int) (b0_1 : List (List Int)) (r1 : List Int) : Option (List Int) := denAt impl_span_combined.E impl_span_combined.fn impl_span_combined.enc [1, 1, 0, 1, 0] { fr := [(0, .lf (.box 0 0)), (1, .lf (.int .i64 x1)), (3, .lf (.int .i64 x3)), (4, .lf (.sl (.int .i64) x4)), (11, .lf (.own 1)), (17, .lf (.sl (.int .i64) x17)), (18, .lf (.int .i64 x18)), (19, .lf (.int .i64 x19))], ob := [(0, .box 83 true [.int .i64 b0_0, .sl (.sl 1000002 (.int .i64)) b0_1]), (1, .row 2 true (.int .i64) r1)], nx := 2 }
set_option maxRecDepth 100000 in
theorem impl_span_combined.f_eq (a0_0 : Int) (l0_1 : List (List Int)) (a1 : Int) (l2 : List Int) (a3 : Int) (l4 : List Int) : impl_span_combined.f a0_0 l0_1 a1 l2 a3 l4 = if (l2.length : Int) = (l2.length : Int) then (if 0 ≤ (l2.length : Int) then (if ((l2.length : Int) : Int).toNat ≤ 17592186044416 then (impl_span_combined.l0 a1 a3 l4 l2 (l2.length : Int) 0 a0_0 l0_1 (List.replicate ((l2.length : Int) : Int).toNat (0 : Int))) else none) else none) else none := by kernel_rfl
set_option maxRecDepth 100000 in
theorem impl_span_combined.l0_eq (x1 : Int) (x3 : Int) (x4 : List Int) (x17 : List Int) (x18 : Int) (x19 : Int) (b0_0 : Int) (b0_1 : List (List Int)) (r1 : List Int) : impl_span_combined.l0 x1 x3 x4 x17 x18 x19 b0_0 b0_1 r1 = if x19 < x18 then (if 0 ≤ x19 then (if x19 < (x17.length : Int) then (if 0 ≤ x19 then (if x19 < (x4.length : Int) then (if b0_0 = 0 then none else (if b0_0 = 0 then none else (if 0 ≤ x19 then (if x19 < (r1.length : Int) then (if 0 ≤ x19 then (if x19 < (r1.length : Int) then (impl_span_combined.l0 x1 x3 x4 x17 x18 (wrapI (x19 + 1)) b0_0 b0_1 (r1.set (x19 : Int).toNat ((wrapI (((wrapI ((wrapI (x1 * (rd x17 x19))) + (wrapI (x3 * (rd x4 x19)))) : Int).tmod b0_0) + b0_0) : Int).tmod b0_0))) else none) else none) else none) else none))) else none) else none) else none) else none) else (some r1) := (loop_unfold _ _ _ _).trans (by kernel_rfl)
noncomputable def impl_span_combined.con : Con := ⟨impl_span_combined.fn.ins, impl_span_combined.fn.outs, (List Int), fun x => impl_span_combined.f x.1 x.2.1 x.2.2.1 x.2.2.2.1 x.2.2.2.2.1 x.2.2.2.2.2.1, fun r => ((r, ()), (()))⟩
theorem impl_span_combined.valid : Valid Try.prog 68 impl_span_combined.con := fn_valid (f := impl_span_combined.fn) (E := impl_span_combined.E) (enc := impl_span_combined.enc) ⟨ttOk, conNil⟩ (Checked.mixed Try.checked) ⟨Try.func68, by kernel_rfl, by kernel_rfl, by kernel_rfl, by kernel_rfl, by decide, by kernel_rfl, by kernel_rfl⟩ (fun _ => rfl)
end Go.Proofs.Ytjknpaplgclflaa.P
namespace Go.Proofs.Ytjknpaplgclflaa.P
open Go Go.RowKit Go.Proofs.Ytjknpaplgclflaa.D
noncomputable def slices_IndexFunc_int64.E : Env := { tt := TT, con := [], frz := [], rows := [], live := [(2, [0, 1, 7, 8])], n := 19, pin := 0, nils := [] }
noncomputable def slices_IndexFunc_int64.fn : D.Fn := { body := Try.f100.body.getD .skip, res := Try.f100.results.toList, ins := [.one (.v (.sl 2 (.int .i64))), .one (.fn [(.int .i64)] .bool)], outs := [.one (.v (.int .i64))] }
def slices_IndexFunc_int64.enc (y : lsd (flats slices_IndexFunc_int64.fn.outs) × lsd (ios slices_IndexFunc_int64.fn.ins)) : Int := y.1.1
noncomputable def slices_IndexFunc_int64.f (l0 : List Int) (f1 : Int → Option Bool) : Option Int := denF slices_IndexFunc_int64.E slices_IndexFunc_int64.fn slices_IndexFunc_int64.enc (l0, fun x => f1 x.1, ())
noncomputable def slices_IndexFunc_int64.l0 (x0 : List Int) (fx1 : Int → Option Bool) (x7 : Int) (x8 : Int) : Option Int := denAt slices_IndexFunc_int64.E slices_IndexFunc_int64.fn slices_IndexFunc_int64.enc [1, 0, 1, 0] { fr := [(0, .lf (.sl (.int .i64) x0)), (1, .lf (.fn [(.int .i64)] .bool (fun x => fx1 x.1))), (7, .lf (.int .i64 x7)), (8, .lf (.int .i64 x8))], ob := [], nx := 0 }
set_option maxRecDepth 100000 in
theorem slices_IndexFunc_int64.f_eq (l0 : List Int) (f1 : Int → Option Bool) : slices_IndexFunc_int64.f l0 f1 = slices_IndexFunc_int64.l0 l0 f1 (l0.length : Int) 0 := by kernel_rfl
set_option maxRecDepth 100000 in
theorem slices_IndexFunc_int64.l0_eq (x0 : List Int) (fx1 : Int → Option Bool) (x7 : Int) (x8 : Int) : slices_IndexFunc_int64.l0 x0 fx1 x7 x8 = if x8 < x7 then (if 0 ≤ x8 then (if x8 < (x0.length : Int) then ((fx1 (rd x0 x8)).bind fun t16 => if t16 = true then (some x8) else (slices_IndexFunc_int64.l0 x0 fx1 x7 (wrapI (x8 + 1)))) else none) else none) else (some (-1)) := (loop_unfold _ _ _ _).trans (by kernel_rfl)
noncomputable def slices_IndexFunc_int64.con : Con := ⟨slices_IndexFunc_int64.fn.ins, slices_IndexFunc_int64.fn.outs, Int, fun x => slices_IndexFunc_int64.f x.1 (fun z0 => x.2.1 (z0, ())), fun r => ((r, ()), (()))⟩
theorem slices_IndexFunc_int64.valid : Valid Try.prog 100 slices_IndexFunc_int64.con := fn_valid (f := slices_IndexFunc_int64.fn) (E := slices_IndexFunc_int64.E) (enc := slices_IndexFunc_int64.enc) ⟨ttOk, conNil⟩ (Checked.mixed Try.checked) ⟨Try.func100, by kernel_rfl, by kernel_rfl, by kernel_rfl, by kernel_rfl, by decide, by kernel_rfl, by kernel_rfl⟩ (fun _ => rfl)
end Go.Proofs.Ytjknpaplgclflaa.P
namespace Go.Proofs.Ytjknpaplgclflaa.P
open Go Go.RowKit Go.Proofs.Ytjknpaplgclflaa.D
noncomputable def impl_span_put_1.E : Env := { tt := TT, con := [], frz := [], rows := [], live := [], n := 5, pin := 0, nils := [] }
noncomputable def impl_span_put_1.fn : D.Fn := { body := Try.f101.body.getD .skip, res := Try.f101.results.toList, ins := [.one (.v (.int .i64))], outs := [.one (.v .bool)] }
def impl_span_put_1.enc (y : lsd (flats impl_span_put_1.fn.outs) × lsd (ios impl_span_put_1.fn.ins)) : Bool := y.1.1
noncomputable def impl_span_put_1.f (a0 : Int) : Option Bool := denF impl_span_put_1.E impl_span_put_1.fn impl_span_put_1.enc (a0, ())
set_option maxRecDepth 100000 in
theorem impl_span_put_1.f_eq (a0 : Int) : impl_span_put_1.f a0 = some (!decide (a0 = 0)) := by kernel_rfl
noncomputable def impl_span_put_1.con : Con := ⟨impl_span_put_1.fn.ins, impl_span_put_1.fn.outs, Bool, fun x => impl_span_put_1.f x.1, fun r => ((r, ()), (()))⟩
theorem impl_span_put_1.valid : Valid Try.prog 101 impl_span_put_1.con := fn_valid (f := impl_span_put_1.fn) (E := impl_span_put_1.E) (enc := impl_span_put_1.enc) ⟨ttOk, conNil⟩ (Checked.mixed Try.checked) ⟨Try.func101, by kernel_rfl, by kernel_rfl, by kernel_rfl, by kernel_rfl, by decide, by kernel_rfl, by kernel_rfl⟩ (fun _ => rfl)
end Go.Proofs.Ytjknpaplgclflaa.P
namespace Go.Proofs.Ytjknpaplgclflaa.P
open Go Go.RowKit Go.Proofs.Ytjknpaplgclflaa.D
noncomputable def impl_span_bezout.E : Env := { tt := TT, con := [(93, impl_gcd.con)], frz := [], rows := [], live := [(3, [0, 1, 2, 9, 23, 24]), (6, [0, 1, 2, 9, 10, 23, 24, 30, 31])], n := 55, pin := 0, nils := [] }
noncomputable def impl_span_bezout.fn : D.Fn := { body := Try.f102.body.getD .skip, res := Try.f102.results.toList, ins := [.ptr true 83 [.v (.int .i64), .v (.sl 25 (.sl 1000002 (.int .i64)))], .one (.v (.int .i64)), .one (.v (.int .i64))], outs := [.one (.v (.int .i64)), .one (.v (.int .i64)), .one (.v (.int .i64))] }
def impl_span_bezout.enc (y : lsd (flats impl_span_bezout.fn.outs) × lsd (ios impl_span_bezout.fn.ins)) : Int × Int × Int := (y.1.1, y.1.2.1, y.1.2.2.1)
noncomputable def impl_span_bezout.f (a0_0 : Int) (l0_1 : List (List Int)) (a1 : Int) (a2 : Int) : Option (Int × Int × Int) := denF impl_span_bezout.E impl_span_bezout.fn impl_span_bezout.enc (a0_0, l0_1, a1, a2, ())
noncomputable def impl_span_bezout.l0 (x1 : Int) (x2 : Int) (x9 : Int) (x23 : Int) (x24 : Int) (b0_0 : Int) (b0_1 : List (List Int)) : Option (Int × Int × Int) := denAt impl_span_bezout.E impl_span_bezout.fn impl_span_bezout.enc [1, 1, 0, 1, 0] { fr := [(0, .lf (.box 0 0)), (1, .lf (.int .i64 x1)), (2, .lf (.int .i64 x2)), (9, .lf (.int .i64 x9)), (23, .lf (.int .i64 x23)), (24, .lf (.int .i64 x24))], ob := [(0, .box 83 true [.int .i64 b0_0, .sl (.sl 1000002 (.int .i64)) b0_1])], nx := 1 }
noncomputable def impl_span_bezout.l1 (x1 : Int) (x2 : Int) (x9 : Int) (x10 : Int) (x23 : Int) (x24 : Int) (x30 : Int) (x31 : Int) (b0_0 : Int) (b0_1 : List (List Int)) : Option (Int × Int × Int) := denAt impl_span_bezout.E impl_span_bezout.fn impl_span_bezout.enc [1, 1, 0, 1, 0, 0, 1, 1, 0, 0, 1, 1, 0] { fr := [(0, .lf (.box 0 0)), (1, .lf (.int .i64 x1)), (2, .lf (.int .i64 x2)), (9, .lf (.int .i64 x9)), (10, .lf (.int .i64 x10)), (23, .lf (.int .i64 x23)), (24, .lf (.int .i64 x24)), (30, .lf (.int .i64 x30)), (31, .lf (.int .i64 x31))], ob := [(0, .box 83 true [.int .i64 b0_0, .sl (.sl 1000002 (.int .i64)) b0_1])], nx := 1 }
set_option maxRecDepth 100000 in
theorem impl_span_bezout.f_eq (a0_0 : Int) (l0_1 : List (List Int)) (a1 : Int) (a2 : Int) : impl_span_bezout.f a0_0 l0_1 a1 a2 = (impl_gcd.f a1 a2).bind fun t14 => (impl_gcd.f t14 a0_0).bind fun t19 => impl_span_bezout.l0 a1 a2 t19 a0_0 0 a0_0 l0_1 := by kernel_rfl
set_option maxRecDepth 100000 in
theorem impl_span_bezout.l0_eq (x1 : Int) (x2 : Int) (x9 : Int) (x23 : Int) (x24 : Int) (b0_0 : Int) (b0_1 : List (List Int)) : impl_span_bezout.l0 x1 x2 x9 x23 x24 b0_0 b0_1 = if x24 < x23 then (impl_span_bezout.l1 x1 x2 x9 x24 x23 x24 b0_0 0 b0_0 b0_1) else (some (0, 0, x9)) := (loop_unfold _ _ _ _).trans (by kernel_rfl)
set_option maxRecDepth 100000 in
theorem impl_span_bezout.l1_eq (x1 : Int) (x2 : Int) (x9 : Int) (x10 : Int) (x23 : Int) (x24 : Int) (x30 : Int) (x31 : Int) (b0_0 : Int) (b0_1 : List (List Int)) : impl_span_bezout.l1 x1 x2 x9 x10 x23 x24 x30 x31 b0_0 b0_1 = if x31 < x30 then (if b0_0 = 0 then none else (if ((wrapI ((wrapI ((wrapI (x10 * x1)) + (wrapI (x31 * x2)))) - x9) : Int).tmod b0_0) = 0 then (some (x10, x31, x9)) else (impl_span_bezout.l1 x1 x2 x9 x10 x23 x24 x30 (wrapI (x31 + 1)) b0_0 b0_1))) else (impl_span_bezout.l0 x1 x2 x9 x23 (wrapI (x24 + 1)) b0_0 b0_1) := (loop_unfold _ _ _ _).trans (by kernel_rfl)
noncomputable def impl_span_bezout.con : Con := ⟨impl_span_bezout.fn.ins, impl_span_bezout.fn.outs, Int × Int × Int, fun x => impl_span_bezout.f x.1 x.2.1 x.2.2.1 x.2.2.2.1, fun r => ((r.1, r.2.1, r.2.2, ()), (()))⟩
theorem impl_span_bezout.valid : Valid Try.prog 102 impl_span_bezout.con := fn_valid (f := impl_span_bezout.fn) (E := impl_span_bezout.E) (enc := impl_span_bezout.enc) ⟨ttOk, (conCons impl_gcd.valid conNil)⟩ (Checked.mixed Try.checked) ⟨Try.func102, by kernel_rfl, by kernel_rfl, by kernel_rfl, by kernel_rfl, by decide, by kernel_rfl, by kernel_rfl⟩ (fun _ => rfl)
end Go.Proofs.Ytjknpaplgclflaa.P
namespace Go.Proofs.Ytjknpaplgclflaa.P
open Go Go.RowKit Go.Proofs.Ytjknpaplgclflaa.D
noncomputable def impl_span_put.E : Env := { tt := TT, con := [(100, slices_IndexFunc_int64.con), (101, impl_span_put_1.con), (102, impl_span_bezout.con), (68, impl_span_combined.con)], frz := [43, 75, 97, 116, 127, 137], rows := [13, 76, 138], live := [(1, [0, 4]), (9, [0, 4, 5, 6, 7])], n := 140, pin := 1, nils := [] }
noncomputable def impl_span_put.fn : D.Fn := { body := Try.f90.body.getD .skip, res := Try.f90.results.toList, ins := [.ptr false 83 [.v (.int .i64), .own 25 false (.sl 1000002 (.int .i64))], .one (.v (.sl 2 (.int .i64)))], outs := [] }
def impl_span_put.enc (y : lsd (flats impl_span_put.fn.outs) × lsd (ios impl_span_put.fn.ins)) : Int × (List (List Int)) := (y.2.1, y.2.2.1)
noncomputable def impl_span_put.f (a0_0 : Int) (l0_1 : List (List Int)) (l1 : List Int) : Option (Int × (List (List Int))) := denF impl_span_put.E impl_span_put.fn impl_span_put.enc (a0_0, l0_1, l1, ())
noncomputable def impl_span_put.l0 (b0_0 : Int) (r1 : List (List Int)) (r2 : List (List Int)) : Option (Int × (List (List Int))) := denAt impl_span_put.E impl_span_put.fn impl_span_put.enc [1, 0] { fr := [(0, .lf (.box 0 0)), (4, .lf (.own 2))], ob := [(0, .box 83 false [.int .i64 b0_0, .own 1]), (1, .row 25 false (.sl 1000002 (.int .i64)) r1), (2, .row 25 false (.sl 2 (.int .i64)) r2)], nx := 3 }
noncomputable def impl_span_put.j1 (x5 : List Int) (x6 : Int) (x7 : List Int) (b0_0 : Int) (r1 : List (List Int)) (r2 : List (List Int)) : Option (Int × (List (List Int))) := denAt impl_span_put.E impl_span_put.fn impl_span_put.enc [1, 0, 0, 1, 0, 1, 1, 1, 1, 1, 1] { fr := [(0, .lf (.box 0 0)), (4, .lf (.own 2)), (5, .lf (.sl (.int .i64) x5)), (6, .lf (.int .i64 x6)), (7, .lf (.sl (.int .i64) x7))], ob := [(0, .box 83 false [.int .i64 b0_0, .own 1]), (1, .row 25 false (.sl 1000002 (.int .i64)) r1), (2, .row 25 false (.sl 2 (.int .i64)) r2)], nx := 3 }
set_option maxRecDepth 100000 in
theorem impl_span_put.f_eq (a0_0 : Int) (l0_1 : List (List Int)) (l1 : List Int) : impl_span_put.f a0_0 l0_1 l1 = impl_span_put.l0 a0_0 l0_1 ([l1] : List (List Int)) := by kernel_rfl
set_option maxRecDepth 100000 in
theorem impl_span_put.l0_eq (b0_0 : Int) (r1 : List (List Int)) (r2 : List (List Int)) : impl_span_put.l0 b0_0 r1 r2 = if (r2.length : Int) > 0 then (if 0 ≤ wrapI ((r2.length : Int) - 1) then (if wrapI ((r2.length : Int) - 1) < (r2.length : Int) then (if 0 ≤ wrapI ((r2.length : Int) - 1) then (if wrapI ((r2.length : Int) - 1) < (r2.length : Int) then (if 0 < (r2.length : Int) then (if 0 ≤ wrapI ((r2.length : Int) - 1) then (if wrapI ((r2.length : Int) - 1) ≤ (r2.length : Int) then ((slices_IndexFunc_int64.f (row r2 (wrapI ((r2.length : Int) - 1))) (fun z0 => (impl_span_put_1.f z0).map fun z => z)).bind fun t29 => if t29 < 0 then (impl_span_put.l0 b0_0 r1 (r2.take (wrapI ((r2.length : Int) - 1) : Int).toNat)) else (if 0 ≤ t29 then (if t29 < (r1.length : Int) then (if 0 ≤ t29 then (if t29 < (r1.length : Int) then (if (row r1 t29).length = 0 then (if ((row r2 (wrapI ((r2.length : Int) - 1))).length : Int) = ((row r2 (wrapI ((r2.length : Int) - 1))).length : Int) then (if 0 ≤ ((row r2 (wrapI ((r2.length : Int) - 1))).length : Int) then (if (((row r2 (wrapI ((r2.length : Int) - 1))).length : Int) : Int).toNat ≤ 17592186044416 then (impl_span_put.j1 (row r2 (wrapI ((r2.length : Int) - 1))) t29 (List.replicate (((row r2 (wrapI ((r2.length : Int) - 1))).length : Int) : Int).toNat (0 : Int)) b0_0 r1 (r2.take (wrapI ((r2.length : Int) - 1) : Int).toNat)) else none) else none) else none) else (if 0 < (row r1 t29).length then (impl_span_put.j1 (row r2 (wrapI ((r2.length : Int) - 1))) t29 (row r1 t29) b0_0 r1 (r2.take (wrapI ((r2.length : Int) - 1) : Int).toNat)) else none)) else none) else none) else none) else none)) else none) else none) else none) else none) else none) else none) else none) else (some (b0_0, r1)) := (loop_unfold _ _ _ _).trans (by kernel_rfl)
set_option maxRecDepth 100000 in
theorem impl_span_put.j1_eq (x5 : List Int) (x6 : Int) (x7 : List Int) (b0_0 : Int) (r1 : List (List Int)) (r2 : List (List Int)) : impl_span_put.j1 x5 x6 x7 b0_0 r1 r2 = if 0 ≤ x6 then (if x6 < (x7.length : Int) then (if (rd x7 x6) = 0 then (if 0 ≤ x6 then (if x6 < (x7.length : Int) then (if 0 ≤ x6 then (if x6 < (x5.length : Int) then ((impl_span_bezout.f b0_0 r1 (rd x7 x6) (rd x5 x6)).bind fun t88 => (impl_span_combined.f b0_0 r1 t88.1 x7 t88.2.1 x5).bind fun t97 => if 0 ≤ x6 then (if x6 < (r1.length : Int) then (if 0 ≤ x6 then (if x6 < (r1.length : Int) then (if 0 < t97.length then (if 0 ≤ x6 then (if x6 < (x7.length : Int) then (if t88.2.2 = 0 then none else ((impl_span_combined.f b0_0 (r1.set (x6 : Int).toNat t97) 1 x7 (wrapI ((wrapI (0 - (rd x7 x6)) : Int).tdiv t88.2.2)) t97).bind fun t116 => if 0 ≤ x6 then (if x6 < (x5.length : Int) then (if t88.2.2 = 0 then none else ((impl_span_combined.f b0_0 (r1.set (x6 : Int).toNat t97) 1 x5 (wrapI ((wrapI (0 - (rd x5 x6)) : Int).tdiv t88.2.2)) t97).bind fun t127 => if t88.2.2 = 0 then none else ((impl_span_combined.f b0_0 (r1.set (x6 : Int).toNat t97) (wrapI ((b0_0 : Int).tdiv t88.2.2)) t97 0 t97).bind fun t137 => if r2.length + ([t116, t127, t137] : List (List Int)).length ≤ 5864062014805 then (impl_span_put.l0 b0_0 (r1.set (x6 : Int).toNat t97) (r2 ++ ([t116, t127, t137] : List (List Int)))) else none))) else none) else none)) else none) else none) else none) else none) else none) else none) else none) else none) else none) else none) else none) else (if 0 ≤ x6 then (if x6 < (x5.length : Int) then (if 0 ≤ x6 then (if x6 < (x7.length : Int) then (if (rd x7 x6) = 0 then none else (if ((rd x5 x6 : Int).tmod (rd x7 x6)) = 0 then (if 0 ≤ x6 then (if x6 < (x5.length : Int) then (if 0 ≤ x6 then (if x6 < (x7.length : Int) then (if (rd x7 x6) = 0 then none else ((impl_span_combined.f b0_0 r1 1 x5 (wrapI ((wrapI (0 - (rd x5 x6)) : Int).tdiv (rd x7 x6))) x7).bind fun t75 => if r2.length + ([t75] : List (List Int)).length ≤ 5864062014805 then (impl_span_put.l0 b0_0 r1 (r2 ++ ([t75] : List (List Int)))) else none)) else none) else none) else none) else none) else (if 0 ≤ x6 then (if x6 < (x7.length : Int) then (if 0 ≤ x6 then (if x6 < (x5.length : Int) then ((impl_span_bezout.f b0_0 r1 (rd x7 x6) (rd x5 x6)).bind fun t88 => (impl_span_combined.f b0_0 r1 t88.1 x7 t88.2.1 x5).bind fun t97 => if 0 ≤ x6 then (if x6 < (r1.length : Int) then (if 0 ≤ x6 then (if x6 < (r1.length : Int) then (if 0 < t97.length then (if 0 ≤ x6 then (if x6 < (x7.length : Int) then (if t88.2.2 = 0 then none else ((impl_span_combined.f b0_0 (r1.set (x6 : Int).toNat t97) 1 x7 (wrapI ((wrapI (0 - (rd x7 x6)) : Int).tdiv t88.2.2)) t97).bind fun t116 => if 0 ≤ x6 then (if x6 < (x5.length : Int) then (if t88.2.2 = 0 then none else ((impl_span_combined.f b0_0 (r1.set (x6 : Int).toNat t97) 1 x5 (wrapI ((wrapI (0 - (rd x5 x6)) : Int).tdiv t88.2.2)) t97).bind fun t127 => if t88.2.2 = 0 then none else ((impl_span_combined.f b0_0 (r1.set (x6 : Int).toNat t97) (wrapI ((b0_0 : Int).tdiv t88.2.2)) t97 0 t97).bind fun t137 => if r2.length + ([t116, t127, t137] : List (List Int)).length ≤ 5864062014805 then (impl_span_put.l0 b0_0 (r1.set (x6 : Int).toNat t97) (r2 ++ ([t116, t127, t137] : List (List Int)))) else none))) else none) else none)) else none) else none) else none) else none) else none) else none) else none) else none) else none) else none) else none))) else none) else none) else none) else none)) else none) else none := by kernel_rfl
noncomputable def impl_span_put.con : Con := ⟨impl_span_put.fn.ins, impl_span_put.fn.outs, Int × (List (List Int)), fun x => impl_span_put.f x.1 x.2.1 x.2.2.1, fun r => ((()), (r.1, r.2, ()))⟩
theorem impl_span_put.valid : Valid Try.prog 90 impl_span_put.con := fn_valid (f := impl_span_put.fn) (E := impl_span_put.E) (enc := impl_span_put.enc) ⟨ttOk, (conCons slices_IndexFunc_int64.valid (conCons impl_span_put_1.valid (conCons impl_span_bezout.valid (conCons impl_span_combined.valid conNil))))⟩ (Checked.mixed Try.checked) ⟨Try.func90, by kernel_rfl, by kernel_rfl, by kernel_rfl, by kernel_rfl, by decide, by kernel_rfl, by kernel_rfl⟩ (fun _ => rfl)
end Go.Proofs.Ytjknpaplgclflaa.P
namespace Go.Proofs.Ytjknpaplgclflaa.P
open Go Go.RowKit Go.Proofs.Ytjknpaplgclflaa.D
noncomputable def impl_listOf.E : Env := { tt := TT, con := [(70, impl_order.con)], frz := [], rows := [], live := [(3, [2, 7, 8, 9])], n := 32, pin := 0, nils := [] }
noncomputable def impl_listOf.fn : D.Fn := { body := Try.f107.body.getD .skip, res := Try.f107.results.toList, ins := [.agg [.v (.sl 25 (.sl 2 (.int .i64)))], .one (.v (.int .i64)), .one (.v (.int .i64))], outs := [.one (.own 2 true (.int .i64))] }
def impl_listOf.enc (y : lsd (flats impl_listOf.fn.outs) × lsd (ios impl_listOf.fn.ins)) : (List Int) := y.1.1
noncomputable def impl_listOf.f (l0_0 : List (List Int)) (a1 : Int) (a2 : Int) : Option (List Int) := denF impl_listOf.E impl_listOf.fn impl_listOf.enc (l0_0, a1, a2, ())
noncomputable def impl_listOf.l0 (x2 : Int) (x8 : Int) (x9 : Int) (r0 : List Int) : Option (List Int) := denAt impl_listOf.E impl_listOf.fn impl_listOf.enc [1, 1, 0, 1, 0] { fr := [(2, .lf (.int .i64 x2)), (7, .lf (.own 0)), (8, .lf (.int .i64 x8)), (9, .lf (.int .i64 x9))], ob := [(0, .row 2 true (.int .i64) r0)], nx := 1 }
set_option maxRecDepth 100000 in
theorem impl_listOf.f_eq (l0_0 : List (List Int)) (a1 : Int) (a2 : Int) : impl_listOf.f l0_0 a1 a2 = if a1 = a1 then (if 0 ≤ a1 then (if (a1 : Int).toNat ≤ 17592186044416 then ((impl_order.f l0_0).bind fun t13 => impl_listOf.l0 a2 (wrapI (t13 - 1)) (wrapI (a1 - 1)) (List.replicate (a1 : Int).toNat (0 : Int))) else none) else none) else none := by kernel_rfl
set_option maxRecDepth 100000 in
theorem impl_listOf.l0_eq (x2 : Int) (x8 : Int) (x9 : Int) (r0 : List Int) : impl_listOf.l0 x2 x8 x9 r0 = if x9 ≥ 0 then (if x8 = 0 then none else (if 0 ≤ x9 then (if x9 < (r0.length : Int) then (if 0 ≤ x9 then (if x9 < (r0.length : Int) then (if x8 = 0 then none else (impl_listOf.l0 (wrapI ((x2 : Int).tdiv x8)) x8 (wrapI (x9 - 1)) (r0.set (x9 : Int).toNat (wrapI (1 + ((x2 : Int).tmod x8)))))) else none) else none) else none) else none)) else (some r0) := (loop_unfold _ _ _ _).trans (by kernel_rfl)
noncomputable def impl_listOf.con : Con := ⟨impl_listOf.fn.ins, impl_listOf.fn.outs, (List Int), fun x => impl_listOf.f x.1 x.2.1 x.2.2.1, fun r => ((r, ()), (()))⟩
theorem impl_listOf.valid : Valid Try.prog 107 impl_listOf.con := fn_valid (f := impl_listOf.fn) (E := impl_listOf.E) (enc := impl_listOf.enc) ⟨ttOk, (conCons impl_order.valid conNil)⟩ (Checked.mixed Try.checked) ⟨Try.func107, by kernel_rfl, by kernel_rfl, by kernel_rfl, by kernel_rfl, by decide, by kernel_rfl, by kernel_rfl⟩ (fun _ => rfl)
end Go.Proofs.Ytjknpaplgclflaa.P
namespace Go.Proofs.Ytjknpaplgclflaa.P
open Go Go.RowKit Go.Proofs.Ytjknpaplgclflaa.D
noncomputable def impl_told.E : Env := { tt := TT, con := [(89, impl_zero.con), (107, impl_listOf.con)], frz := [], rows := [], live := [(3, [1, 2, 3, 4, 8, 9, 16, 17])], n := 38, pin := 0, nils := [] }
noncomputable def impl_told.fn : D.Fn := { body := Try.f103.body.getD .skip, res := Try.f103.results.toList, ins := [.agg [.v (.sl 25 (.sl 2 (.int .i64)))], .one (.v (.int .i64)), .one (.v (.int .i64)), .one (.fn [(.sl 2 (.int .i64))] (.int .i64))], outs := [.agg [.v (.int .i64), .own 2 true (.int .i64)]] }
def impl_told.enc (y : lsd (flats impl_told.fn.outs) × lsd (ios impl_told.fn.ins)) : Int × (List Int) := (y.1.1, y.1.2.1)
noncomputable def impl_told.f (l0_0 : List (List Int)) (a1 : Int) (a2 : Int) (f3 : (List Int) → Option Int) : Option (Int × (List Int)) := denF impl_told.E impl_told.fn impl_told.enc (l0_0, a1, a2, fun x => f3 x.1, ())
noncomputable def impl_told.l0 (x1 : Int) (x2 : Int) (fx3 : (List Int) → Option Int) (x16 : Int) (x17 : Int) (b0_0 : List (List Int)) (b1_0 : Int) (b2_0 : Int) (r3 : List Int) : Option (Int × (List Int)) := denAt impl_told.E impl_told.fn impl_told.enc [1, 1, 0, 1, 0] { fr := [(1, .lf (.int .i64 x1)), (2, .lf (.int .i64 x2)), (3, .lf (.fn [(.sl 2 (.int .i64))] (.int .i64) (fun x => fx3 x.1))), (4, .lf (.box 0 0)), (8, .lf (.box 1 0)), (9, .lf (.box 2 0)), (16, .lf (.int .i64 x16)), (17, .lf (.int .i64 x17))], ob := [(0, .box 32 false [.sl (.sl 2 (.int .i64)) b0_0]), (1, .box 106 false [.int .i64 b1_0, .nil]), (2, .box 106 false [.int .i64 b2_0, .own 3]), (3, .row 2 true (.int .i64) r3)], nx := 4 }
set_option maxRecDepth 100000 in
theorem impl_told.f_eq (l0_0 : List (List Int)) (a1 : Int) (a2 : Int) (f3 : (List Int) → Option Int) : impl_told.f l0_0 a1 a2 f3 = (impl_zero.f l0_0 a2).bind fun t13 => impl_told.l0 a1 a2 f3 (t13.2.length : Int) 0 l0_0 0 t13.1 t13.2 := by kernel_rfl
set_option maxRecDepth 100000 in
theorem impl_told.l0_eq (x1 : Int) (x2 : Int) (fx3 : (List Int) → Option Int) (x16 : Int) (x17 : Int) (b0_0 : List (List Int)) (b1_0 : Int) (b2_0 : Int) (r3 : List Int) : impl_told.l0 x1 x2 fx3 x16 x17 b0_0 b1_0 b2_0 r3 = if x17 < x16 then ((impl_listOf.f b0_0 x2 x17).bind fun t27 => (fx3 t27).bind fun t28 => if x1 = 0 then none else (if x1 = 0 then none else (if 0 ≤ x17 then (if x17 < (r3.length : Int) then (if 0 ≤ x17 then (if x17 < (r3.length : Int) then (impl_told.l0 x1 x2 fx3 x16 (wrapI (x17 + 1)) b0_0 b1_0 b2_0 (r3.set (x17 : Int).toNat ((wrapI (((t28 : Int).tmod x1) + x1) : Int).tmod x1))) else none) else none) else none) else none))) else (some (b2_0, r3)) := (loop_unfold _ _ _ _).trans (by kernel_rfl)
noncomputable def impl_told.con : Con := ⟨impl_told.fn.ins, impl_told.fn.outs, Int × (List Int), fun x => impl_told.f x.1 x.2.1 x.2.2.1 (fun z0 => x.2.2.2.1 (z0, ())), fun r => ((r.1, r.2, ()), (()))⟩
theorem impl_told.valid : Valid Try.prog 103 impl_told.con := fn_valid (f := impl_told.fn) (E := impl_told.E) (enc := impl_told.enc) ⟨ttOk, (conCons impl_zero.valid (conCons impl_listOf.valid conNil))⟩ (Checked.mixed Try.checked) ⟨Try.func103, by kernel_rfl, by kernel_rfl, by kernel_rfl, by kernel_rfl, by decide, by kernel_rfl, by kernel_rfl⟩ (fun _ => rfl)
end Go.Proofs.Ytjknpaplgclflaa.P
namespace Go.Proofs.Ytjknpaplgclflaa.P
open Go Go.RowKit Go.Proofs.Ytjknpaplgclflaa.D
noncomputable def impl_cell.E : Env := { tt := TT, con := [(70, impl_order.con)], frz := [], rows := [], live := [(3, [2, 5, 8, 9, 10])], n := 26, pin := 0, nils := [] }
noncomputable def impl_cell.fn : D.Fn := { body := Try.f109.body.getD .skip, res := Try.f109.results.toList, ins := [.agg [.v (.sl 25 (.sl 2 (.int .i64)))], .one (.v (.sl 2 (.int .i64)))], outs := [.one (.v (.int .i64))] }
def impl_cell.enc (y : lsd (flats impl_cell.fn.outs) × lsd (ios impl_cell.fn.ins)) : Int := y.1.1
noncomputable def impl_cell.f (l0_0 : List (List Int)) (l1 : List Int) : Option Int := denF impl_cell.E impl_cell.fn impl_cell.enc (l0_0, l1, ())
noncomputable def impl_cell.l0 (x5 : Int) (x8 : List Int) (x9 : Int) (x10 : Int) (b0_0 : List (List Int)) : Option Int := denAt impl_cell.E impl_cell.fn impl_cell.enc [1, 1, 0, 1, 0] { fr := [(2, .lf (.box 0 0)), (5, .lf (.int .i64 x5)), (8, .lf (.sl (.int .i64) x8)), (9, .lf (.int .i64 x9)), (10, .lf (.int .i64 x10))], ob := [(0, .box 32 false [.sl (.sl 2 (.int .i64)) b0_0])], nx := 1 }
set_option maxRecDepth 100000 in
theorem impl_cell.f_eq (l0_0 : List (List Int)) (l1 : List Int) : impl_cell.f l0_0 l1 = impl_cell.l0 0 l1 (l1.length : Int) 0 l0_0 := by kernel_rfl
set_option maxRecDepth 100000 in
theorem impl_cell.l0_eq (x5 : Int) (x8 : List Int) (x9 : Int) (x10 : Int) (b0_0 : List (List Int)) : impl_cell.l0 x5 x8 x9 x10 b0_0 = if x10 < x9 then (if 0 ≤ x10 then (if x10 < (x8.length : Int) then (if (rd x8 x10) = 0 then (some (-1)) else ((impl_order.f b0_0).bind fun t18 => impl_cell.l0 (wrapI ((wrapI ((wrapI (x5 * (wrapI (t18 - 1)))) + (rd x8 x10))) - 1)) x8 x9 (wrapI (x10 + 1)) b0_0)) else none) else none) else (some x5) := (loop_unfold _ _ _ _).trans (by kernel_rfl)
noncomputable def impl_cell.con : Con := ⟨impl_cell.fn.ins, impl_cell.fn.outs, Int, fun x => impl_cell.f x.1 x.2.1, fun r => ((r, ()), (()))⟩
theorem impl_cell.valid : Valid Try.prog 109 impl_cell.con := fn_valid (f := impl_cell.fn) (E := impl_cell.E) (enc := impl_cell.enc) ⟨ttOk, (conCons impl_order.valid conNil)⟩ (Checked.mixed Try.checked) ⟨Try.func109, by kernel_rfl, by kernel_rfl, by kernel_rfl, by kernel_rfl, by decide, by kernel_rfl, by kernel_rfl⟩ (fun _ => rfl)
end Go.Proofs.Ytjknpaplgclflaa.P
namespace Go.Proofs.Ytjknpaplgclflaa.P
open Go Go.RowKit Go.Proofs.Ytjknpaplgclflaa.D
noncomputable def impl_Cochain_at.E : Env := { tt := TT, con := [(109, impl_cell.con)], frz := [], rows := [], live := [], n := 18, pin := 0, nils := [] }
noncomputable def impl_Cochain_at.fn : D.Fn := { body := Try.f108.body.getD .skip, res := Try.f108.results.toList, ins := [.agg [.v (.int .i64), .v (.sl 2 (.int .i64))], .agg [.v (.sl 25 (.sl 2 (.int .i64)))], .one (.v (.sl 2 (.int .i64)))], outs := [.one (.v (.int .i64))] }
def impl_Cochain_at.enc (y : lsd (flats impl_Cochain_at.fn.outs) × lsd (ios impl_Cochain_at.fn.ins)) : Int := y.1.1
noncomputable def impl_Cochain_at.f (a0_0 : Int) (l0_1 : List Int) (l1_0 : List (List Int)) (l2 : List Int) : Option Int := denF impl_Cochain_at.E impl_Cochain_at.fn impl_Cochain_at.enc (a0_0, l0_1, l1_0, l2, ())
set_option maxRecDepth 100000 in
theorem impl_Cochain_at.f_eq (a0_0 : Int) (l0_1 : List Int) (l1_0 : List (List Int)) (l2 : List Int) : impl_Cochain_at.f a0_0 l0_1 l1_0 l2 = (impl_cell.f l1_0 l2).bind fun t10 => if t10 ≥ 0 then (if 0 ≤ t10 then (if t10 < (l0_1.length : Int) then (some (rd l0_1 t10)) else none) else none) else (some 0) := by kernel_rfl
noncomputable def impl_Cochain_at.con : Con := ⟨impl_Cochain_at.fn.ins, impl_Cochain_at.fn.outs, Int, fun x => impl_Cochain_at.f x.1 x.2.1 x.2.2.1 x.2.2.2.1, fun r => ((r, ()), (()))⟩
theorem impl_Cochain_at.valid : Valid Try.prog 108 impl_Cochain_at.con := fn_valid (f := impl_Cochain_at.fn) (E := impl_Cochain_at.E) (enc := impl_Cochain_at.enc) ⟨ttOk, (conCons impl_cell.valid conNil)⟩ (Checked.mixed Try.checked) ⟨Try.func108, by kernel_rfl, by kernel_rfl, by kernel_rfl, by kernel_rfl, by decide, by kernel_rfl, by kernel_rfl⟩ (fun _ => rfl)
end Go.Proofs.Ytjknpaplgclflaa.P
namespace Go.Proofs.Ytjknpaplgclflaa.P
open Go Go.RowKit Go.Proofs.Ytjknpaplgclflaa.D
noncomputable def impl_boundaryAt.E : Env := { tt := TT, con := [(108, impl_Cochain_at.con), (75, impl_Group_times.con)], frz := [], rows := [], live := [(5, [3, 4, 6, 9, 10, 11, 30, 31])], n := 79, pin := 0, nils := [] }
noncomputable def impl_boundaryAt.fn : D.Fn := { body := Try.f105.body.getD .skip, res := Try.f105.results.toList, ins := [.agg [.v (.sl 25 (.sl 2 (.int .i64)))], .agg [.v (.int .i64), .v (.sl 2 (.int .i64))], .agg [.v (.int .i64), .v (.sl 2 (.int .i64))], .one (.v (.sl 2 (.int .i64)))], outs := [.one (.v (.int .i64))] }
def impl_boundaryAt.enc (y : lsd (flats impl_boundaryAt.fn.outs) × lsd (ios impl_boundaryAt.fn.ins)) : Int := y.1.1
noncomputable def impl_boundaryAt.f (l0_0 : List (List Int)) (a1_0 : Int) (l1_1 : List Int) (a2_0 : Int) (l2_1 : List Int) (l3 : List Int) : Option Int := denF impl_boundaryAt.E impl_boundaryAt.fn impl_boundaryAt.enc (l0_0, a1_0, l1_1, a2_0, l2_1, l3, ())
noncomputable def impl_boundaryAt.l0 (x3 : List Int) (x9 : Int) (x10 : Int) (x11 : Int) (x30 : Int) (x31 : Int) (b0_0 : List (List Int)) (b1_0 : Int) (b1_1 : List Int) : Option Int := denAt impl_boundaryAt.E impl_boundaryAt.fn impl_boundaryAt.enc [1, 1, 1, 1, 0, 1, 0] { fr := [(3, .lf (.sl (.int .i64) x3)), (4, .lf (.box 0 0)), (6, .lf (.box 1 0)), (9, .lf (.int .i64 x9)), (10, .lf (.int .i64 x10)), (11, .lf (.int .i64 x11)), (30, .lf (.int .i64 x30)), (31, .lf (.int .i64 x31))], ob := [(0, .box 32 false [.sl (.sl 2 (.int .i64)) b0_0]), (1, .box 106 false [.int .i64 b1_0, .sl (.int .i64) b1_1])], nx := 2 }
set_option maxRecDepth 100000 in
theorem impl_boundaryAt.f_eq (l0_0 : List (List Int)) (a1_0 : Int) (l1_1 : List Int) (a2_0 : Int) (l2_1 : List Int) (l3 : List Int) : impl_boundaryAt.f l0_0 a1_0 l1_1 a2_0 l2_1 l3 = if 0 < (l3.length : Int) then (if 0 ≤ rd l3 0 then (if rd l3 0 < (l1_1.length : Int) then (if 1 ≤ (l3.length : Int) then ((impl_Cochain_at.f a2_0 l2_1 l0_0 (l3.drop (1 : Int).toNat)).bind fun t28 => impl_boundaryAt.l0 l3 (wrapI ((l3.length : Int) - 1)) (wrapI ((rd l1_1 (rd l3 0)) * t28)) (-1) (wrapI ((l3.length : Int) - 1)) 0 l0_0 a2_0 l2_1) else none) else none) else none) else none := by kernel_rfl
set_option maxRecDepth 100000 in
theorem impl_boundaryAt.l0_eq (x3 : List Int) (x9 : Int) (x10 : Int) (x11 : Int) (x30 : Int) (x31 : Int) (b0_0 : List (List Int)) (b1_0 : Int) (b1_1 : List Int) : impl_boundaryAt.l0 x3 x9 x10 x11 x30 x31 b0_0 b1_0 b1_1 = if x31 < x30 then (if 0 ≤ x31 then (if x31 ≤ (x3.length : Int) then (if ([] : List Int).length + (x3.take (x31 : Int).toNat).length ≤ 17592186044416 then (if 0 ≤ x31 then (if x31 < (x3.length : Int) then (if 0 ≤ wrapI (x31 + 1) then (if wrapI (x31 + 1) < (x3.length : Int) then ((impl_Group_times.f b0_0 ([rd x3 x31, rd x3 (wrapI (x31 + 1))] : List Int)).bind fun t50 => if (([] : List Int) ++ (x3.take (x31 : Int).toNat)).length + ([t50] : List Int).length ≤ 17592186044416 then (if 0 ≤ wrapI (x31 + 2) then (if wrapI (x31 + 2) ≤ (x3.length : Int) then (if ((([] : List Int) ++ (x3.take (x31 : Int).toNat)) ++ ([t50] : List Int)).length + (x3.drop (wrapI (x31 + 2) : Int).toNat).length ≤ 17592186044416 then ((impl_Cochain_at.f b1_0 b1_1 b0_0 (((([] : List Int) ++ (x3.take (x31 : Int).toNat)) ++ ([t50] : List Int)) ++ (x3.drop (wrapI (x31 + 2) : Int).toNat))).bind fun t63 => impl_boundaryAt.l0 x3 x9 (wrapI (x10 + (wrapI (x11 * t63)))) (wrapI (0 - x11)) x30 (wrapI (x31 + 1)) b0_0 b1_0 b1_1) else none) else none) else none) else none) else none) else none) else none) else none) else none) else none) else none) else (if 0 ≤ x9 then (if x9 ≤ (x3.length : Int) then ((impl_Cochain_at.f b1_0 b1_1 b0_0 (x3.take (x9 : Int).toNat)).bind fun t76 => some (wrapI (x10 + (wrapI (x11 * t76))))) else none) else none) := (loop_unfold _ _ _ _).trans (by kernel_rfl)
noncomputable def impl_boundaryAt.con : Con := ⟨impl_boundaryAt.fn.ins, impl_boundaryAt.fn.outs, Int, fun x => impl_boundaryAt.f x.1 x.2.1 x.2.2.1 x.2.2.2.1 x.2.2.2.2.1 x.2.2.2.2.2.1, fun r => ((r, ()), (()))⟩
theorem impl_boundaryAt.valid : Valid Try.prog 105 impl_boundaryAt.con := fn_valid (f := impl_boundaryAt.fn) (E := impl_boundaryAt.E) (enc := impl_boundaryAt.enc) ⟨ttOk, (conCons impl_Cochain_at.valid (conCons impl_Group_times.valid conNil))⟩ (Checked.mixed Try.checked) ⟨Try.func105, by kernel_rfl, by kernel_rfl, by kernel_rfl, by kernel_rfl, by decide, by kernel_rfl, by kernel_rfl⟩ (fun _ => rfl)
end Go.Proofs.Ytjknpaplgclflaa.P
namespace Go.Proofs.Ytjknpaplgclflaa.P
open Go Go.RowKit Go.Proofs.Ytjknpaplgclflaa.D
noncomputable def impl_boundary_1.E : Env := { tt := TT, con := [(105, impl_boundaryAt.con)], frz := [], rows := [], live := [], n := 11, pin := 0, nils := [] }
noncomputable def impl_boundary_1.fn : D.Fn := { body := Try.f104.body.getD .skip, res := Try.f104.results.toList, ins := [.one (.v (.sl 2 (.int .i64))), .ptr true 32 [.v (.sl 25 (.sl 2 (.int .i64)))], .ptr true 34 [.v (.int .i64), .v (.sl 2 (.int .i64))], .ptr true 106 [.v (.int .i64), .v (.sl 2 (.int .i64))]], outs := [.one (.v (.int .i64))] }
def impl_boundary_1.enc (y : lsd (flats impl_boundary_1.fn.outs) × lsd (ios impl_boundary_1.fn.ins)) : Int := y.1.1
noncomputable def impl_boundary_1.f (l0 : List Int) (l1 : List (List Int)) (a2_0 : Int) (l2_1 : List Int) (a3_0 : Int) (l3_1 : List Int) : Option Int := denF impl_boundary_1.E impl_boundary_1.fn impl_boundary_1.enc (l0, l1, a2_0, l2_1, a3_0, l3_1, ())
set_option maxRecDepth 100000 in
theorem impl_boundary_1.f_eq (l0 : List Int) (l1 : List (List Int)) (a2_0 : Int) (l2_1 : List Int) (a3_0 : Int) (l3_1 : List Int) : impl_boundary_1.f l0 l1 a2_0 l2_1 a3_0 l3_1 = (impl_boundaryAt.f l1 a2_0 l2_1 a3_0 l3_1 l0).bind fun t10 => some t10 := by kernel_rfl
noncomputable def impl_boundary_1.con : Con := ⟨impl_boundary_1.fn.ins, impl_boundary_1.fn.outs, Int, fun x => impl_boundary_1.f x.1 x.2.1 x.2.2.1 x.2.2.2.1 x.2.2.2.2.1 x.2.2.2.2.2.1, fun r => ((r, ()), (()))⟩
theorem impl_boundary_1.valid : Valid Try.prog 104 impl_boundary_1.con := fn_valid (f := impl_boundary_1.fn) (E := impl_boundary_1.E) (enc := impl_boundary_1.enc) ⟨ttOk, (conCons impl_boundaryAt.valid conNil)⟩ (Checked.mixed Try.checked) ⟨Try.func104, by kernel_rfl, by kernel_rfl, by kernel_rfl, by kernel_rfl, by decide, by kernel_rfl, by kernel_rfl⟩ (fun _ => rfl)
end Go.Proofs.Ytjknpaplgclflaa.P
namespace Go.Proofs.Ytjknpaplgclflaa.P
open Go Go.RowKit Go.Proofs.Ytjknpaplgclflaa.D
noncomputable def impl_boundary.E : Env := { tt := TT, con := [(103, impl_told.con), (104, impl_boundary_1.con)], frz := [], rows := [], live := [], n := 15, pin := 0, nils := [] }
noncomputable def impl_boundary.fn : D.Fn := { body := Try.f91.body.getD .skip, res := Try.f91.results.toList, ins := [.agg [.v (.sl 25 (.sl 2 (.int .i64)))], .agg [.v (.int .i64), .v (.sl 2 (.int .i64))], .agg [.v (.int .i64), .v (.sl 2 (.int .i64))]], outs := [.agg [.v (.int .i64), .own 2 true (.int .i64)]] }
def impl_boundary.enc (y : lsd (flats impl_boundary.fn.outs) × lsd (ios impl_boundary.fn.ins)) : Int × (List Int) := (y.1.1, y.1.2.1)
noncomputable def impl_boundary.f (l0_0 : List (List Int)) (a1_0 : Int) (l1_1 : List Int) (a2_0 : Int) (l2_1 : List Int) : Option (Int × (List Int)) := denF impl_boundary.E impl_boundary.fn impl_boundary.enc (l0_0, a1_0, l1_1, a2_0, l2_1, ())
set_option maxRecDepth 100000 in
theorem impl_boundary.f_eq (l0_0 : List (List Int)) (a1_0 : Int) (l1_1 : List Int) (a2_0 : Int) (l2_1 : List Int) : impl_boundary.f l0_0 a1_0 l1_1 a2_0 l2_1 = (impl_told.f l0_0 a1_0 (wrapI (a2_0 + 1)) (fun z0 => (impl_boundary_1.f z0 l0_0 a1_0 l1_1 a2_0 l2_1).map fun z => z)).bind fun t14 => some (t14.1, t14.2) := by kernel_rfl
noncomputable def impl_boundary.con : Con := ⟨impl_boundary.fn.ins, impl_boundary.fn.outs, Int × (List Int), fun x => impl_boundary.f x.1 x.2.1 x.2.2.1 x.2.2.2.1 x.2.2.2.2.1, fun r => ((r.1, r.2, ()), (()))⟩
theorem impl_boundary.valid : Valid Try.prog 91 impl_boundary.con := fn_valid (f := impl_boundary.fn) (E := impl_boundary.E) (enc := impl_boundary.enc) ⟨ttOk, (conCons impl_told.valid (conCons impl_boundary_1.valid conNil))⟩ (Checked.mixed Try.checked) ⟨Try.func91, by kernel_rfl, by kernel_rfl, by kernel_rfl, by kernel_rfl, by decide, by kernel_rfl, by kernel_rfl⟩ (fun _ => rfl)
end Go.Proofs.Ytjknpaplgclflaa.P
namespace Go.Proofs.Ytjknpaplgclflaa.P
open Go Go.RowKit Go.Proofs.Ytjknpaplgclflaa.D
noncomputable def impl_bounded.E : Env := { tt := TT, con := [(87, impl_cells.con), (88, impl_newSpan.con), (89, impl_zero.con), (91, impl_boundary.con), (57, slices_Concat_int64.con), (90, impl_span_put.con)], frz := [46], rows := [], live := [(5, [2, 3, 4, 8, 10, 26, 27])], n := 51, pin := 0, nils := [] }
noncomputable def impl_bounded.fn : D.Fn := { body := Try.f66.body.getD .skip, res := Try.f66.results.toList, ins := [.agg [.v (.sl 25 (.sl 2 (.int .i64)))], .agg [.v (.int .i64), .v (.sl 2 (.int .i64))], .one (.v (.int .i64))], outs := [.ptr false 83 [.v (.int .i64), .own 25 false (.sl 1000002 (.int .i64))], .one (.v (.int .i64))] }
def impl_bounded.enc (y : lsd (flats impl_bounded.fn.outs) × lsd (ios impl_bounded.fn.ins)) : Int × (List (List Int)) × Int := (y.1.1, y.1.2.1, y.1.2.2.1)
noncomputable def impl_bounded.f (l0_0 : List (List Int)) (a1_0 : Int) (l1_1 : List Int) (a2 : Int) : Option (Int × (List (List Int)) × Int) := denF impl_bounded.E impl_bounded.fn impl_bounded.enc (l0_0, a1_0, l1_1, a2, ())
noncomputable def impl_bounded.l0 (x2 : Int) (x8 : Int) (x26 : Int) (x27 : Int) (b0_0 : List (List Int)) (b1_0 : Int) (b1_1 : List Int) (b2_0 : Int) (r3 : List (List Int)) : Option (Int × (List (List Int)) × Int) := denAt impl_bounded.E impl_bounded.fn impl_bounded.enc [1, 1, 1, 1, 0, 1, 0] { fr := [(2, .lf (.int .i64 x2)), (3, .lf (.box 0 0)), (4, .lf (.box 1 0)), (8, .lf (.int .i64 x8)), (10, .lf (.box 2 0)), (26, .lf (.int .i64 x26)), (27, .lf (.int .i64 x27))], ob := [(0, .box 32 false [.sl (.sl 2 (.int .i64)) b0_0]), (1, .box 34 false [.int .i64 b1_0, .sl (.int .i64) b1_1]), (2, .box 83 false [.int .i64 b2_0, .own 3]), (3, .row 25 false (.sl 1000002 (.int .i64)) r3)], nx := 4 }
set_option maxRecDepth 100000 in
theorem impl_bounded.f_eq (l0_0 : List (List Int)) (a1_0 : Int) (l1_1 : List Int) (a2 : Int) : impl_bounded.f l0_0 a1_0 l1_1 a2 = (impl_cells.f l0_0 (wrapI (a2 + 1))).bind fun t16 => (impl_cells.f l0_0 a2).bind fun t19 => (impl_newSpan.f a1_0 (wrapI (t16 + t19))).bind fun t25 => impl_bounded.l0 a2 t16 t19 0 l0_0 a1_0 l1_1 t25.1 t25.2 := by kernel_rfl
set_option maxRecDepth 100000 in
theorem impl_bounded.l0_eq (x2 : Int) (x8 : Int) (x26 : Int) (x27 : Int) (b0_0 : List (List Int)) (b1_0 : Int) (b1_1 : List Int) (b2_0 : Int) (r3 : List (List Int)) : impl_bounded.l0 x2 x8 x26 x27 b0_0 b1_0 b1_1 b2_0 r3 = if x27 < x26 then ((impl_zero.f b0_0 x2).bind fun t32 => if 0 ≤ x27 then (if x27 < (t32.2.length : Int) then (if 0 ≤ x27 then (if x27 < (t32.2.length : Int) then ((impl_boundary.f b0_0 b1_0 b1_1 t32.1 (t32.2.set (x27 : Int).toNat 1)).bind fun t41 => (slices_Concat_int64.f ([t41.2, t32.2.set (x27 : Int).toNat 1] : List (List Int))).bind fun t46 => (impl_span_put.f b2_0 r3 t46).bind fun t47 => impl_bounded.l0 x2 x8 x26 (wrapI (x27 + 1)) b0_0 b1_0 b1_1 t47.1 t47.2) else none) else none) else none) else none) else (some (b2_0, r3, x8)) := (loop_unfold _ _ _ _).trans (by kernel_rfl)
noncomputable def impl_bounded.con : Con := ⟨impl_bounded.fn.ins, impl_bounded.fn.outs, Int × (List (List Int)) × Int, fun x => impl_bounded.f x.1 x.2.1 x.2.2.1 x.2.2.2.1, fun r => ((r.1, r.2.1, r.2.2, ()), (()))⟩
theorem impl_bounded.valid : Valid Try.prog 66 impl_bounded.con := fn_valid (f := impl_bounded.fn) (E := impl_bounded.E) (enc := impl_bounded.enc) ⟨ttOk, (conCons impl_cells.valid (conCons impl_newSpan.valid (conCons impl_zero.valid (conCons impl_boundary.valid (conCons slices_Concat_int64.valid (conCons impl_span_put.valid conNil))))))⟩ (Checked.mixed Try.checked) ⟨Try.func66, by kernel_rfl, by kernel_rfl, by kernel_rfl, by kernel_rfl, by decide, by kernel_rfl, by kernel_rfl⟩ (fun _ => rfl)
end Go.Proofs.Ytjknpaplgclflaa.P
namespace Go.Proofs.Ytjknpaplgclflaa.P
open Go Go.RowKit Go.Proofs.Ytjknpaplgclflaa.D
noncomputable def impl_span_part.E : Env := { tt := TT, con := [(88, impl_newSpan.con)], frz := [], rows := [], live := [(3, [0, 1, 5, 6])], n := 55, pin := 1, nils := [] }
noncomputable def impl_span_part.fn : D.Fn := { body := Try.f67.body.getD .skip, res := Try.f67.results.toList, ins := [.ptr false 83 [.v (.int .i64), .own 25 false (.sl 1000002 (.int .i64))], .one (.v (.int .i64))], outs := [.ptr false 83 [.v (.int .i64), .own 25 false (.sl 1000002 (.int .i64))]] }
def impl_span_part.enc (y : lsd (flats impl_span_part.fn.outs) × lsd (ios impl_span_part.fn.ins)) : Int × (List (List Int)) × Int × (List (List Int)) := (y.1.1, y.1.2.1, y.2.1, y.2.2.1)
noncomputable def impl_span_part.f (a0_0 : Int) (l0_1 : List (List Int)) (a1 : Int) : Option (Int × (List (List Int)) × Int × (List (List Int))) := denF impl_span_part.E impl_span_part.fn impl_span_part.enc (a0_0, l0_1, a1, ())
noncomputable def impl_span_part.l0 (x1 : Int) (x6 : Int) (b0_0 : Int) (r1 : List (List Int)) (b2_0 : Int) (r3 : List (List Int)) : Option (Int × (List (List Int)) × Int × (List (List Int))) := denAt impl_span_part.E impl_span_part.fn impl_span_part.enc [1, 1, 0, 1, 0] { fr := [(0, .lf (.box 0 0)), (1, .lf (.int .i64 x1)), (5, .lf (.box 2 0)), (6, .lf (.int .i64 x6))], ob := [(0, .box 83 false [.int .i64 b0_0, .own 1]), (1, .row 25 false (.sl 1000002 (.int .i64)) r1), (2, .box 83 false [.int .i64 b2_0, .own 3]), (3, .row 25 false (.sl 1000002 (.int .i64)) r3)], nx := 4 }
set_option maxRecDepth 100000 in
theorem impl_span_part.f_eq (a0_0 : Int) (l0_1 : List (List Int)) (a1 : Int) : impl_span_part.f a0_0 l0_1 a1 = (impl_newSpan.f a0_0 (wrapI ((l0_1.length : Int) - a1))).bind fun t18 => impl_span_part.l0 a1 a1 a0_0 l0_1 t18.1 t18.2 := by kernel_rfl
set_option maxRecDepth 100000 in
theorem impl_span_part.l0_eq (x1 : Int) (x6 : Int) (b0_0 : Int) (r1 : List (List Int)) (b2_0 : Int) (r3 : List (List Int)) : impl_span_part.l0 x1 x6 b0_0 r1 b2_0 r3 = if x6 < (r1.length : Int) then (if 0 ≤ x6 then (if x6 < (r1.length : Int) then (if 0 ≤ x6 then (if x6 < (r1.length : Int) then (if (row r1 x6).length = 0 then (impl_span_part.l0 x1 (wrapI (x6 + 1)) b0_0 r1 b2_0 r3) else (if 0 < (row r1 x6).length then (if 0 ≤ x6 then (if x6 < (r1.length : Int) then (if 0 ≤ x6 then (if x6 < (r1.length : Int) then (if (row r1 x6).length = 0 then none else (if 0 ≤ x1 then (if x1 ≤ ((row r1 x6).length : Int) then (if 0 ≤ wrapI (x6 - x1) then (if wrapI (x6 - x1) < (r3.length : Int) then (if 0 ≤ wrapI (x6 - x1) then (if wrapI (x6 - x1) < (r3.length : Int) then (if 0 < ((row r1 x6).drop (x1 : Int).toNat).length then (impl_span_part.l0 x1 (wrapI (x6 + 1)) b0_0 r1 b2_0 (r3.set (wrapI (x6 - x1) : Int).toNat ((row r1 x6).drop (x1 : Int).toNat))) else none) else none) else none) else none) else none) else none) else none)) else none) else none) else none) else none) else none)) else none) else none) else none) else none) else (some (b2_0, r3, b0_0, r1)) := (loop_unfold _ _ _ _).trans (by kernel_rfl)
noncomputable def impl_span_part.con : Con := ⟨impl_span_part.fn.ins, impl_span_part.fn.outs, Int × (List (List Int)) × Int × (List (List Int)), fun x => impl_span_part.f x.1 x.2.1 x.2.2.1, fun r => ((r.1, r.2.1, ()), (r.2.2.1, r.2.2.2, ()))⟩
theorem impl_span_part.valid : Valid Try.prog 67 impl_span_part.con := fn_valid (f := impl_span_part.fn) (E := impl_span_part.E) (enc := impl_span_part.enc) ⟨ttOk, (conCons impl_newSpan.valid conNil)⟩ (Checked.mixed Try.checked) ⟨Try.func67, by kernel_rfl, by kernel_rfl, by kernel_rfl, by kernel_rfl, by decide, by kernel_rfl, by kernel_rfl⟩ (fun _ => rfl)
end Go.Proofs.Ytjknpaplgclflaa.P
namespace Go.Proofs.Ytjknpaplgclflaa.P
open Go Go.RowKit Go.Proofs.Ytjknpaplgclflaa.D
noncomputable def impl_cocycles.E : Env := { tt := TT, con := [(66, impl_bounded.con), (67, impl_span_part.con)], frz := [], rows := [], live := [], n := 19, pin := 0, nils := [] }
noncomputable def impl_cocycles.fn : D.Fn := { body := Try.f55.body.getD .skip, res := Try.f55.results.toList, ins := [.agg [.v (.sl 25 (.sl 2 (.int .i64)))], .agg [.v (.int .i64), .v (.sl 2 (.int .i64))], .one (.v (.int .i64))], outs := [.ptr false 83 [.v (.int .i64), .own 25 false (.sl 1000002 (.int .i64))]] }
def impl_cocycles.enc (y : lsd (flats impl_cocycles.fn.outs) × lsd (ios impl_cocycles.fn.ins)) : Int × (List (List Int)) := (y.1.1, y.1.2.1)
noncomputable def impl_cocycles.f (l0_0 : List (List Int)) (a1_0 : Int) (l1_1 : List Int) (a2 : Int) : Option (Int × (List (List Int))) := denF impl_cocycles.E impl_cocycles.fn impl_cocycles.enc (l0_0, a1_0, l1_1, a2, ())
set_option maxRecDepth 100000 in
theorem impl_cocycles.f_eq (l0_0 : List (List Int)) (a1_0 : Int) (l1_1 : List Int) (a2 : Int) : impl_cocycles.f l0_0 a1_0 l1_1 a2 = (impl_bounded.f l0_0 a1_0 l1_1 a2).bind fun t13 => (impl_span_part.f t13.1 t13.2.1 t13.2.2).bind fun t18 => some (t18.1, t18.2.1) := by kernel_rfl
noncomputable def impl_cocycles.con : Con := ⟨impl_cocycles.fn.ins, impl_cocycles.fn.outs, Int × (List (List Int)), fun x => impl_cocycles.f x.1 x.2.1 x.2.2.1 x.2.2.2.1, fun r => ((r.1, r.2, ()), (()))⟩
theorem impl_cocycles.valid : Valid Try.prog 55 impl_cocycles.con := fn_valid (f := impl_cocycles.fn) (E := impl_cocycles.E) (enc := impl_cocycles.enc) ⟨ttOk, (conCons impl_bounded.valid (conCons impl_span_part.valid conNil))⟩ (Checked.mixed Try.checked) ⟨Try.func55, by kernel_rfl, by kernel_rfl, by kernel_rfl, by kernel_rfl, by decide, by kernel_rfl, by kernel_rfl⟩ (fun _ => rfl)
end Go.Proofs.Ytjknpaplgclflaa.P
namespace Go.Proofs.Ytjknpaplgclflaa.P
open Go Go.RowKit Go.Proofs.Ytjknpaplgclflaa.D
noncomputable def impl_span_all.E : Env := { tt := TT, con := [(49, slices_SortFunc_int64.con), (50, slices_Compare_int64.con), (68, impl_span_combined.con)], frz := [30], rows := [], live := [(3, [0, 3, 20, 21, 22]), (8, [0, 4, 5, 6, 20, 21, 22, 30, 31, 32]), (11, [0, 4, 5, 6, 8, 20, 21, 22, 30, 31, 32, 44, 45])], n := 63, pin := 1, nils := [] }
noncomputable def impl_span_all.fn : D.Fn := { body := Try.f56.body.getD .skip, res := Try.f56.results.toList, ins := [.ptr false 83 [.v (.int .i64), .own 25 false (.sl 1000002 (.int .i64))]], outs := [.one (.own 25 true (.sl 2 (.int .i64)))] }
def impl_span_all.enc (y : lsd (flats impl_span_all.fn.outs) × lsd (ios impl_span_all.fn.ins)) : (List (List Int)) × Int × (List (List Int)) := (y.1.1, y.2.1, y.2.2.1)
noncomputable def impl_span_all.f (a0_0 : Int) (l0_1 : List (List Int)) : Option ((List (List Int)) × Int × (List (List Int))) := denF impl_span_all.E impl_span_all.fn impl_span_all.enc (a0_0, l0_1, ())
noncomputable def impl_span_all.l0 (x21 : Int) (x22 : Int) (b0_0 : Int) (r1 : List (List Int)) (r2 : List (List Int)) : Option ((List (List Int)) × Int × (List (List Int))) := denAt impl_span_all.E impl_span_all.fn impl_span_all.enc [1, 1, 0, 1, 0] { fr := [(0, .lf (.box 0 0)), (3, .lf (.own 2)), (20, .lf (.own 1)), (21, .lf (.int .i64 x21)), (22, .lf (.int .i64 x22))], ob := [(0, .box 83 false [.int .i64 b0_0, .own 1]), (1, .row 25 false (.sl 1000002 (.int .i64)) r1), (2, .row 25 true (.sl 2 (.int .i64)) r2)], nx := 3 }
noncomputable def impl_span_all.l1 (x4 : Int) (x5 : List Int) (x21 : Int) (x22 : Int) (x30 : List (List Int)) (x31 : Int) (x32 : Int) (b0_0 : Int) (r1 : List (List Int)) (r2 : List (List Int)) : Option ((List (List Int)) × Int × (List (List Int))) := denAt impl_span_all.E impl_span_all.fn impl_span_all.enc [1, 1, 0, 1, 0, 0, 1, 1, 0, 0, 1, 1, 1, 0, 1, 0] { fr := [(0, .lf (.box 0 0)), (4, .lf (.int .i64 x4)), (5, .lf (.sl (.int .i64) x5)), (6, .lf (.own 2)), (20, .lf (.own 1)), (21, .lf (.int .i64 x21)), (22, .lf (.int .i64 x22)), (30, .lf (.sl (.sl 2 (.int .i64)) x30)), (31, .lf (.int .i64 x31)), (32, .lf (.int .i64 x32))], ob := [(0, .box 83 false [.int .i64 b0_0, .own 1]), (1, .row 25 false (.sl 1000002 (.int .i64)) r1), (2, .row 25 true (.sl 2 (.int .i64)) r2)], nx := 3 }
noncomputable def impl_span_all.l2 (x4 : Int) (x5 : List Int) (x8 : List Int) (x21 : Int) (x22 : Int) (x30 : List (List Int)) (x31 : Int) (x32 : Int) (x44 : Int) (x45 : Int) (b0_0 : Int) (r1 : List (List Int)) (r2 : List (List Int)) : Option ((List (List Int)) × Int × (List (List Int))) := denAt impl_span_all.E impl_span_all.fn impl_span_all.enc [1, 1, 0, 1, 0, 0, 1, 1, 0, 0, 1, 1, 1, 0, 1, 0, 0, 1, 1, 0, 0, 1, 1, 0] { fr := [(0, .lf (.box 0 0)), (4, .lf (.int .i64 x4)), (5, .lf (.sl (.int .i64) x5)), (6, .lf (.own 2)), (8, .lf (.sl (.int .i64) x8)), (20, .lf (.own 1)), (21, .lf (.int .i64 x21)), (22, .lf (.int .i64 x22)), (30, .lf (.sl (.sl 2 (.int .i64)) x30)), (31, .lf (.int .i64 x31)), (32, .lf (.int .i64 x32)), (44, .lf (.int .i64 x44)), (45, .lf (.int .i64 x45))], ob := [(0, .box 83 false [.int .i64 b0_0, .own 1]), (1, .row 25 false (.sl 1000002 (.int .i64)) r1), (2, .row 25 true (.sl 2 (.int .i64)) r2)], nx := 3 }
set_option maxRecDepth 100000 in
theorem impl_span_all.f_eq (a0_0 : Int) (l0_1 : List (List Int)) : impl_span_all.f a0_0 l0_1 = if (l0_1.length : Int) = (l0_1.length : Int) then (if 0 ≤ (l0_1.length : Int) then (if ((l0_1.length : Int) : Int).toNat ≤ 17592186044416 then (impl_span_all.l0 (l0_1.length : Int) 0 a0_0 l0_1 ([List.replicate ((l0_1.length : Int) : Int).toNat (0 : Int)] : List (List Int))) else none) else none) else none := by kernel_rfl
set_option maxRecDepth 100000 in
theorem impl_span_all.l0_eq (x21 : Int) (x22 : Int) (b0_0 : Int) (r1 : List (List Int)) (r2 : List (List Int)) : impl_span_all.l0 x21 x22 b0_0 r1 r2 = if x22 < x21 then (if 0 ≤ x22 then (if x22 < (r1.length : Int) then (if 0 ≤ x22 then (if x22 < (r1.length : Int) then (if (row r1 x22).length = 0 then (impl_span_all.l0 x21 (wrapI (x22 + 1)) b0_0 r1 r2) else (if 0 < (row r1 x22).length then (impl_span_all.l1 x22 (row r1 x22) x21 x22 r2 (r2.length : Int) 0 b0_0 r1 ([] : List (List Int))) else none)) else none) else none) else none) else none) else ((slices_SortFunc_int64.f r2 (fun z0 z1 => (slices_Compare_int64.f z0 z1).map fun z => z)).bind fun t61 => some (t61, b0_0, r1)) := (loop_unfold _ _ _ _).trans (by kernel_rfl)
set_option maxRecDepth 100000 in
theorem impl_span_all.l1_eq (x4 : Int) (x5 : List Int) (x21 : Int) (x22 : Int) (x30 : List (List Int)) (x31 : Int) (x32 : Int) (b0_0 : Int) (r1 : List (List Int)) (r2 : List (List Int)) : impl_span_all.l1 x4 x5 x21 x22 x30 x31 x32 b0_0 r1 r2 = if x32 < x31 then (if 0 ≤ x32 then (if x32 < (x30.length : Int) then (if 0 ≤ x4 then (if x4 < (x5.length : Int) then (if (rd x5 x4) = 0 then none else (impl_span_all.l2 x4 x5 (row x30 x32) x21 x22 x30 x31 x32 (wrapI ((b0_0 : Int).tdiv (rd x5 x4))) 0 b0_0 r1 r2)) else none) else none) else none) else none) else (impl_span_all.l0 x21 (wrapI (x22 + 1)) b0_0 r1 r2) := (loop_unfold _ _ _ _).trans (by kernel_rfl)
set_option maxRecDepth 100000 in
theorem impl_span_all.l2_eq (x4 : Int) (x5 : List Int) (x8 : List Int) (x21 : Int) (x22 : Int) (x30 : List (List Int)) (x31 : Int) (x32 : Int) (x44 : Int) (x45 : Int) (b0_0 : Int) (r1 : List (List Int)) (r2 : List (List Int)) : impl_span_all.l2 x4 x5 x8 x21 x22 x30 x31 x32 x44 x45 b0_0 r1 r2 = if x45 < x44 then ((impl_span_combined.f b0_0 r1 1 x8 x45 x5).bind fun t53 => if r2.length + ([t53] : List (List Int)).length ≤ 5864062014805 then (impl_span_all.l2 x4 x5 x8 x21 x22 x30 x31 x32 x44 (wrapI (x45 + 1)) b0_0 r1 (r2 ++ ([t53] : List (List Int)))) else none) else (impl_span_all.l1 x4 x5 x21 x22 x30 x31 (wrapI (x32 + 1)) b0_0 r1 r2) := (loop_unfold _ _ _ _).trans (by kernel_rfl)
noncomputable def impl_span_all.con : Con := ⟨impl_span_all.fn.ins, impl_span_all.fn.outs, (List (List Int)) × Int × (List (List Int)), fun x => impl_span_all.f x.1 x.2.1, fun r => ((r.1, ()), (r.2.1, r.2.2, ()))⟩
theorem impl_span_all.valid : Valid Try.prog 56 impl_span_all.con := fn_valid (f := impl_span_all.fn) (E := impl_span_all.E) (enc := impl_span_all.enc) ⟨ttOk, (conCons slices_SortFunc_int64.valid (conCons slices_Compare_int64.valid (conCons impl_span_combined.valid conNil)))⟩ (Checked.mixed Try.checked) ⟨Try.func56, by kernel_rfl, by kernel_rfl, by kernel_rfl, by kernel_rfl, by decide, by kernel_rfl, by kernel_rfl⟩ (fun _ => rfl)
end Go.Proofs.Ytjknpaplgclflaa.P
namespace Go.Proofs.Ytjknpaplgclflaa.P
open Go Go.RowKit Go.Proofs.Ytjknpaplgclflaa.D
noncomputable def impl_crossedMaps.E : Env := { tt := TT, con := [(55, impl_cocycles.con), (56, impl_span_all.con), (57, slices_Concat_int64.con)], frz := [12, 19], rows := [21], live := [(3, [5, 12, 13, 14])], n := 27, pin := 0, nils := [] }
noncomputable def impl_crossedMaps.fn : D.Fn := { body := Try.f36.body.getD .skip, res := Try.f36.results.toList, ins := [.agg [.v (.sl 25 (.sl 2 (.int .i64)))], .agg [.v (.int .i64), .v (.sl 2 (.int .i64))]], outs := [.one (.own 25 true (.sl 2 (.int .i64)))] }
def impl_crossedMaps.enc (y : lsd (flats impl_crossedMaps.fn.outs) × lsd (ios impl_crossedMaps.fn.ins)) : (List (List Int)) := y.1.1
noncomputable def impl_crossedMaps.f (l0_0 : List (List Int)) (a1_0 : Int) (l1_1 : List Int) : Option (List (List Int)) := denF impl_crossedMaps.E impl_crossedMaps.fn impl_crossedMaps.enc (l0_0, a1_0, l1_1, ())
noncomputable def impl_crossedMaps.l0 (x12 : List (List Int)) (x13 : Int) (x14 : Int) (r0 : List (List Int)) : Option (List (List Int)) := denAt impl_crossedMaps.E impl_crossedMaps.fn impl_crossedMaps.enc [1, 1, 0, 1, 0] { fr := [(5, .lf (.own 0)), (12, .lf (.sl (.sl 2 (.int .i64)) x12)), (13, .lf (.int .i64 x13)), (14, .lf (.int .i64 x14))], ob := [(0, .row 25 true (.sl 2 (.int .i64)) r0)], nx := 1 }
set_option maxRecDepth 100000 in
theorem impl_crossedMaps.f_eq (l0_0 : List (List Int)) (a1_0 : Int) (l1_1 : List Int) : impl_crossedMaps.f l0_0 a1_0 l1_1 = (impl_cocycles.f l0_0 a1_0 l1_1 1).bind fun t11 => (impl_span_all.f t11.1 t11.2).bind fun t12 => impl_crossedMaps.l0 t12.1 (t12.1.length : Int) 0 ([] : List (List Int)) := by kernel_rfl
set_option maxRecDepth 100000 in
theorem impl_crossedMaps.l0_eq (x12 : List (List Int)) (x13 : Int) (x14 : Int) (r0 : List (List Int)) : impl_crossedMaps.l0 x12 x13 x14 r0 = if x14 < x13 then (if 0 ≤ x14 then (if x14 < (x12.length : Int) then ((slices_Concat_int64.f ([([0] : List Int), row x12 x14] : List (List Int))).bind fun t22 => if r0.length + ([t22] : List (List Int)).length ≤ 5864062014805 then (impl_crossedMaps.l0 x12 x13 (wrapI (x14 + 1)) (r0 ++ ([t22] : List (List Int)))) else none) else none) else none) else (some r0) := (loop_unfold _ _ _ _).trans (by kernel_rfl)
noncomputable def impl_crossedMaps.con : Con := ⟨impl_crossedMaps.fn.ins, impl_crossedMaps.fn.outs, (List (List Int)), fun x => impl_crossedMaps.f x.1 x.2.1 x.2.2.1, fun r => ((r, ()), (()))⟩
theorem impl_crossedMaps.valid : Valid Try.prog 36 impl_crossedMaps.con := fn_valid (f := impl_crossedMaps.fn) (E := impl_crossedMaps.E) (enc := impl_crossedMaps.enc) ⟨ttOk, (conCons impl_cocycles.valid (conCons impl_span_all.valid (conCons slices_Concat_int64.valid conNil)))⟩ (Checked.mixed Try.checked) ⟨Try.func36, by kernel_rfl, by kernel_rfl, by kernel_rfl, by kernel_rfl, by decide, by kernel_rfl, by kernel_rfl⟩ (fun _ => rfl)
end Go.Proofs.Ytjknpaplgclflaa.P
namespace Go.Proofs.Ytjknpaplgclflaa.R
open Go Go.RowKit Go.Proofs.Ytjknpaplgclflaa.D
noncomputable def slices_IndexFunc_int64.E : Env := { tt := TT, con := [], frz := [], rows := [], live := [(2, [0, 1, 7, 8])], n := 19, pin := 0, nils := [] }
noncomputable def slices_IndexFunc_int64.fn : D.Fn := { body := Try.f58.body.getD .skip, res := Try.f58.results.toList, ins := [.one (.v (.sl 25 .raw)), .one (.fn [.raw] .bool)], outs := [.one (.v (.int .i64))] }
def slices_IndexFunc_int64.enc (y : lsd (flats slices_IndexFunc_int64.fn.outs) × lsd (ios slices_IndexFunc_int64.fn.ins)) : Int := y.1.1
noncomputable def slices_IndexFunc_int64.f (l0 : List Value) (f1 : Value → Option Bool) : Option Int := denF slices_IndexFunc_int64.E slices_IndexFunc_int64.fn slices_IndexFunc_int64.enc (l0, fun x => f1 x.1, ())
noncomputable def slices_IndexFunc_int64.l0 (x0 : List Value) (fx1 : Value → Option Bool) (x7 : Int) (x8 : Int) : Option Int := denAt slices_IndexFunc_int64.E slices_IndexFunc_int64.fn slices_IndexFunc_int64.enc [1, 0, 1, 0] { fr := [(0, .lf (.sl .raw x0)), (1, .lf (.fn [.raw] .bool (fun x => fx1 x.1))), (7, .lf (.int .i64 x7)), (8, .lf (.int .i64 x8))], ob := [], nx := 0 }
set_option maxRecDepth 100000 in
theorem slices_IndexFunc_int64.f_eq (l0 : List Value) (f1 : Value → Option Bool) : slices_IndexFunc_int64.f l0 f1 = slices_IndexFunc_int64.l0 l0 f1 (l0.length : Int) 0 := by kernel_rfl
set_option maxRecDepth 100000 in
theorem slices_IndexFunc_int64.l0_eq (x0 : List Value) (fx1 : Value → Option Bool) (x7 : Int) (x8 : Int) : slices_IndexFunc_int64.l0 x0 fx1 x7 x8 = if x8 < x7 then (if 0 ≤ x8 then (if x8 < (x0.length : Int) then ((fx1 (Ty.rd .raw x0 x8)).bind fun t16 => if t16 = true then (some x8) else (slices_IndexFunc_int64.l0 x0 fx1 x7 (wrapI (x8 + 1)))) else none) else none) else (some (-1)) := (loop_unfold _ _ _ _).trans (by kernel_rfl)
noncomputable def slices_IndexFunc_int64.con : Con := ⟨slices_IndexFunc_int64.fn.ins, slices_IndexFunc_int64.fn.outs, Int, fun x => slices_IndexFunc_int64.f x.1 (fun z0 => x.2.1 (z0, ())), fun r => ((r, ()), (()))⟩
theorem slices_IndexFunc_int64.valid : Valid Try.prog 58 slices_IndexFunc_int64.con := fn_valid (f := slices_IndexFunc_int64.fn) (E := slices_IndexFunc_int64.E) (enc := slices_IndexFunc_int64.enc) ⟨ttOk, conNil⟩ (Checked.mixed Try.checked) ⟨Try.func58, by kernel_rfl, by kernel_rfl, by kernel_rfl, by kernel_rfl, by decide, by kernel_rfl, by kernel_rfl⟩ (fun _ => rfl)
end Go.Proofs.Ytjknpaplgclflaa.R
namespace Go.Proofs.Ytjknpaplgclflaa.R
open Go Go.RowKit Go.Proofs.Ytjknpaplgclflaa.D
noncomputable def slices_DeleteFunc_int64.E : Env := { tt := TT, con := [(58, slices_IndexFunc_int64.con)], frz := [], rows := [], live := [(5, [0, 1, 5, 6])], n := 42, pin := 0, nils := [] }
noncomputable def slices_DeleteFunc_int64.fn : D.Fn := { body := Try.f39.body.getD .skip, res := Try.f39.results.toList, ins := [.eat 25 true .raw, .one (.fn [.raw] .bool)], outs := [.one (.own 25 true .raw)] }
def slices_DeleteFunc_int64.enc (y : lsd (flats slices_DeleteFunc_int64.fn.outs) × lsd (ios slices_DeleteFunc_int64.fn.ins)) : (List Value) := y.1.1
noncomputable def slices_DeleteFunc_int64.f (l0 : List Value) (f1 : Value → Option Bool) : Option (List Value) := denF slices_DeleteFunc_int64.E slices_DeleteFunc_int64.fn slices_DeleteFunc_int64.enc (l0, fun x => f1 x.1, ())
noncomputable def slices_DeleteFunc_int64.l0 (fx1 : Value → Option Bool) (x5 : Int) (x6 : Int) (r0 : List Value) : Option (List Value) := denAt slices_DeleteFunc_int64.E slices_DeleteFunc_int64.fn slices_DeleteFunc_int64.enc [1, 1, 1, 0, 1, 0] { fr := [(0, .lf (.own 0)), (1, .lf (.fn [.raw] .bool (fun x => fx1 x.1))), (5, .lf (.int .i64 x5)), (6, .lf (.int .i64 x6))], ob := [(0, .row 25 true .raw r0)], nx := 1 }
set_option maxRecDepth 100000 in
theorem slices_DeleteFunc_int64.f_eq (l0 : List Value) (f1 : Value → Option Bool) : slices_DeleteFunc_int64.f l0 f1 = (slices_IndexFunc_int64.f l0 (fun z0 => (f1 z0).map fun z => z)).bind fun t10 => if t10 = (-1) then (some l0) else (slices_DeleteFunc_int64.l0 f1 t10 (wrapI (t10 + 1)) l0) := by kernel_rfl
set_option maxRecDepth 100000 in
theorem slices_DeleteFunc_int64.l0_eq (fx1 : Value → Option Bool) (x5 : Int) (x6 : Int) (r0 : List Value) : slices_DeleteFunc_int64.l0 fx1 x5 x6 r0 = if x6 < (r0.length : Int) then (if 0 ≤ x6 then (if x6 < (r0.length : Int) then (if 0 ≤ x6 then (if x6 < (r0.length : Int) then ((fx1 (Ty.rd .raw r0 x6)).bind fun t28 => if t28 = true then (slices_DeleteFunc_int64.l0 fx1 x5 (wrapI (x6 + 1)) r0) else (if 0 ≤ x5 then (if x5 < (r0.length : Int) then (if 0 ≤ x5 then (if x5 < (r0.length : Int) then (slices_DeleteFunc_int64.l0 fx1 (wrapI (x5 + 1)) (wrapI (x6 + 1)) (r0.set (x5 : Int).toNat (Ty.rd .raw r0 x6))) else none) else none) else none) else none)) else none) else none) else none) else none) else (if 0 < (r0.length : Int) then (if 0 ≤ x5 then (if x5 ≤ (r0.length : Int) then (if 0 < ((r0.take ((x5 : Int).toNat) ++ List.replicate (r0.length - ((x5 : Int).toNat)) (Value.slice none 0 0)).length : Int) then (if 0 ≤ x5 then (if x5 ≤ ((r0.take ((x5 : Int).toNat) ++ List.replicate (r0.length - ((x5 : Int).toNat)) (Value.slice none 0 0)).length : Int) then (some ((r0.take ((x5 : Int).toNat) ++ List.replicate (r0.length - ((x5 : Int).toNat)) (Value.slice none 0 0)).take (x5 : Int).toNat)) else none) else none) else none) else none) else none) else none) := (loop_unfold _ _ _ _).trans (by kernel_rfl)
noncomputable def slices_DeleteFunc_int64.con : Con := ⟨slices_DeleteFunc_int64.fn.ins, slices_DeleteFunc_int64.fn.outs, (List Value), fun x => slices_DeleteFunc_int64.f x.1 (fun z0 => x.2.1 (z0, ())), fun r => ((r, ()), (()))⟩
theorem slices_DeleteFunc_int64.valid : Valid Try.prog 39 slices_DeleteFunc_int64.con := fn_valid (f := slices_DeleteFunc_int64.fn) (E := slices_DeleteFunc_int64.E) (enc := slices_DeleteFunc_int64.enc) ⟨ttOk, (conCons slices_IndexFunc_int64.valid conNil)⟩ (Checked.mixed Try.checked) ⟨Try.func39, by kernel_rfl, by kernel_rfl, by kernel_rfl, by kernel_rfl, by decide, by kernel_rfl, by kernel_rfl⟩ (fun _ => rfl)
end Go.Proofs.Ytjknpaplgclflaa.R
namespace Go.Proofs.Ytjknpaplgclflaa.P
open Go Go.RowKit Go.Proofs.Ytjknpaplgclflaa.D
noncomputable def slices_DeleteFunc_int64.f (l0 : List (List Int)) (f1 : (List Int) → Option Bool) : Option (List (List Int)) := G1 R.slices_DeleteFunc_int64.f l0 f1
noncomputable def slices_DeleteFunc_int64.con : Con := ⟨[.eat 25 true (.sl 2 (.int .i64)), .one (.fn [(.sl 2 (.int .i64))] .bool)], [.one (.own 25 true (.sl 2 (.int .i64)))], List (List Int), fun x => slices_DeleteFunc_int64.f x.1 (fun z0 => x.2.1 (z0, ())), fun r => ((r, ()), (()))⟩
theorem slices_DeleteFunc_int64.valid : Valid Try.prog 39 slices_DeleteFunc_int64.con := deep_eat1 R.slices_DeleteFunc_int64.valid
end Go.Proofs.Ytjknpaplgclflaa.P
namespace Go.Proofs.Ytjknpaplgclflaa.P
open Go Go.RowKit Go.Proofs.Ytjknpaplgclflaa.D
noncomputable def impl_classOf.E : Env := { tt := TT, con := [(50, slices_Compare_int64.con)], frz := [], rows := [], live := [(3, [1, 3, 7, 13, 14, 15]), (7, [1, 3, 7, 9, 10, 13, 14, 15, 20, 21, 22])], n := 51, pin := 0, nils := [] }
noncomputable def impl_classOf.fn : D.Fn := { body := Try.f42.body.getD .skip, res := Try.f42.results.toList, ins := [.agg [.v (.int .i64), .v (.sl 2 (.int .i64))], .one (.v (.sl 2 (.int .i64))), .one (.v (.sl 25 (.sl 2 (.int .i64))))], outs := [.one (.own 2 true (.int .i64))] }
def impl_classOf.enc (y : lsd (flats impl_classOf.fn.outs) × lsd (ios impl_classOf.fn.ins)) : (List Int) := y.1.1
noncomputable def impl_classOf.f (a0_0 : Int) (l0_1 : List Int) (l1 : List Int) (l2 : List (List Int)) : Option (List Int) := denF impl_classOf.E impl_classOf.fn impl_classOf.enc (a0_0, l0_1, l1, l2, ())
noncomputable def impl_classOf.l0 (x1 : List Int) (x13 : List (List Int)) (x14 : Int) (x15 : Int) (b0_0 : Int) (b0_1 : List Int) : Option (List Int) := denAt impl_classOf.E impl_classOf.fn impl_classOf.enc [1, 1, 0, 1, 0] { fr := [(1, .lf (.sl (.int .i64) x1)), (3, .lf (.box 0 0)), (7, .lf (.nil)), (13, .lf (.sl (.sl 2 (.int .i64)) x13)), (14, .lf (.int .i64 x14)), (15, .lf (.int .i64 x15))], ob := [(0, .box 34 false [.int .i64 b0_0, .sl (.int .i64) b0_1])], nx := 1 }
noncomputable def impl_classOf.l1 (x1 : List Int) (x9 : List Int) (x13 : List (List Int)) (x14 : Int) (x15 : Int) (x20 : List Int) (x21 : Int) (x22 : Int) (b0_0 : Int) (b0_1 : List Int) (r1 : List Int) : Option (List Int) := denAt impl_classOf.E impl_classOf.fn impl_classOf.enc [1, 1, 0, 1, 0, 0, 1, 1, 0, 0, 1, 1, 0, 1, 0] { fr := [(1, .lf (.sl (.int .i64) x1)), (3, .lf (.box 0 0)), (7, .lf (.nil)), (9, .lf (.sl (.int .i64) x9)), (10, .lf (.own 1)), (13, .lf (.sl (.sl 2 (.int .i64)) x13)), (14, .lf (.int .i64 x14)), (15, .lf (.int .i64 x15)), (20, .lf (.sl (.int .i64) x20)), (21, .lf (.int .i64 x21)), (22, .lf (.int .i64 x22))], ob := [(0, .box 34 false [.int .i64 b0_0, .sl (.int .i64) b0_1]), (1, .row 2 true (.int .i64) r1)], nx := 2 }
noncomputable def impl_classOf.l2 (x1 : List Int) (x13 : List (List Int)) (x14 : Int) (x15 : Int) (b0_0 : Int) (b0_1 : List Int) (r1 : List Int) : Option (List Int) := denAt impl_classOf.E impl_classOf.fn impl_classOf.enc [1, 1, 0, 1, 0] { fr := [(1, .lf (.sl (.int .i64) x1)), (3, .lf (.box 0 0)), (7, .lf (.own 1)), (13, .lf (.sl (.sl 2 (.int .i64)) x13)), (14, .lf (.int .i64 x14)), (15, .lf (.int .i64 x15))], ob := [(0, .box 34 false [.int .i64 b0_0, .sl (.int .i64) b0_1]), (1, .row 2 true (.int .i64) r1)], nx := 2 }
noncomputable def impl_classOf.l3 (x1 : List Int) (x9 : List Int) (x13 : List (List Int)) (x14 : Int) (x15 : Int) (x20 : List Int) (x21 : Int) (x22 : Int) (b0_0 : Int) (b0_1 : List Int) (r1 : List Int) (r2 : List Int) : Option (List Int) := denAt impl_classOf.E impl_classOf.fn impl_classOf.enc [1, 1, 0, 1, 0, 0, 1, 1, 0, 0, 1, 1, 0, 1, 0] { fr := [(1, .lf (.sl (.int .i64) x1)), (3, .lf (.box 0 0)), (7, .lf (.own 1)), (9, .lf (.sl (.int .i64) x9)), (10, .lf (.own 2)), (13, .lf (.sl (.sl 2 (.int .i64)) x13)), (14, .lf (.int .i64 x14)), (15, .lf (.int .i64 x15)), (20, .lf (.sl (.int .i64) x20)), (21, .lf (.int .i64 x21)), (22, .lf (.int .i64 x22))], ob := [(0, .box 34 false [.int .i64 b0_0, .sl (.int .i64) b0_1]), (1, .row 2 true (.int .i64) r1), (2, .row 2 true (.int .i64) r2)], nx := 3 }
set_option maxRecDepth 100000 in
theorem impl_classOf.f_eq (a0_0 : Int) (l0_1 : List Int) (l1 : List Int) (l2 : List (List Int)) : impl_classOf.f a0_0 l0_1 l1 l2 = impl_classOf.l0 l1 l2 (l2.length : Int) 0 a0_0 l0_1 := by kernel_rfl
set_option maxRecDepth 100000 in
theorem impl_classOf.l0_eq (x1 : List Int) (x13 : List (List Int)) (x14 : Int) (x15 : Int) (b0_0 : Int) (b0_1 : List Int) : impl_classOf.l0 x1 x13 x14 x15 b0_0 b0_1 = if x15 < x14 then (if 0 ≤ x15 then (if x15 < (x13.length : Int) then (impl_classOf.l1 x1 (row x13 x15) x13 x14 x15 x1 (x1.length : Int) 0 b0_0 b0_1 ([] : List Int)) else none) else none) else (some ([] : List Int)) := (loop_unfold _ _ _ _).trans (by kernel_rfl)
set_option maxRecDepth 100000 in
theorem impl_classOf.l1_eq (x1 : List Int) (x9 : List Int) (x13 : List (List Int)) (x14 : Int) (x15 : Int) (x20 : List Int) (x21 : Int) (x22 : Int) (b0_0 : Int) (b0_1 : List Int) (r1 : List Int) : impl_classOf.l1 x1 x9 x13 x14 x15 x20 x21 x22 b0_0 b0_1 r1 = if x22 < x21 then (if 0 ≤ x22 then (if x22 < (x20.length : Int) then (if 0 ≤ x22 then (if x22 < (x9.length : Int) then (if b0_0 = 0 then none else (if r1.length + ([(wrapI ((rd x20 x22) + (rd x9 x22)) : Int).tmod b0_0] : List Int).length ≤ 17592186044416 then (impl_classOf.l1 x1 x9 x13 x14 x15 x20 x21 (wrapI (x22 + 1)) b0_0 b0_1 (r1 ++ ([(wrapI ((rd x20 x22) + (rd x9 x22)) : Int).tmod b0_0] : List Int))) else none)) else none) else none) else none) else none) else (impl_classOf.l2 x1 x13 x14 (wrapI (x15 + 1)) b0_0 b0_1 r1) := (loop_unfold _ _ _ _).trans (by kernel_rfl)
set_option maxRecDepth 100000 in
theorem impl_classOf.l2_eq (x1 : List Int) (x13 : List (List Int)) (x14 : Int) (x15 : Int) (b0_0 : Int) (b0_1 : List Int) (r1 : List Int) : impl_classOf.l2 x1 x13 x14 x15 b0_0 b0_1 r1 = if x15 < x14 then (if 0 ≤ x15 then (if x15 < (x13.length : Int) then (impl_classOf.l3 x1 (row x13 x15) x13 x14 x15 x1 (x1.length : Int) 0 b0_0 b0_1 r1 ([] : List Int)) else none) else none) else (some r1) := (loop_unfold _ _ _ _).trans (by kernel_rfl)
set_option maxRecDepth 100000 in
theorem impl_classOf.l3_eq (x1 : List Int) (x9 : List Int) (x13 : List (List Int)) (x14 : Int) (x15 : Int) (x20 : List Int) (x21 : Int) (x22 : Int) (b0_0 : Int) (b0_1 : List Int) (r1 : List Int) (r2 : List Int) : impl_classOf.l3 x1 x9 x13 x14 x15 x20 x21 x22 b0_0 b0_1 r1 r2 = if x22 < x21 then (if 0 ≤ x22 then (if x22 < (x20.length : Int) then (if 0 ≤ x22 then (if x22 < (x9.length : Int) then (if b0_0 = 0 then none else (if r2.length + ([(wrapI ((rd x20 x22) + (rd x9 x22)) : Int).tmod b0_0] : List Int).length ≤ 17592186044416 then (impl_classOf.l3 x1 x9 x13 x14 x15 x20 x21 (wrapI (x22 + 1)) b0_0 b0_1 r1 (r2 ++ ([(wrapI ((rd x20 x22) + (rd x9 x22)) : Int).tmod b0_0] : List Int))) else none)) else none) else none) else none) else none) else (if 0 < r1.length then ((slices_Compare_int64.f r2 r1).bind fun t45 => if t45 < 0 then (impl_classOf.l2 x1 x13 x14 (wrapI (x15 + 1)) b0_0 b0_1 r2) else (impl_classOf.l2 x1 x13 x14 (wrapI (x15 + 1)) b0_0 b0_1 r1)) else none) := (loop_unfold _ _ _ _).trans (by kernel_rfl)
noncomputable def impl_classOf.con : Con := ⟨impl_classOf.fn.ins, impl_classOf.fn.outs, (List Int), fun x => impl_classOf.f x.1 x.2.1 x.2.2.1 x.2.2.2.1, fun r => ((r, ()), (()))⟩
theorem impl_classOf.valid : Valid Try.prog 42 impl_classOf.con := fn_valid (f := impl_classOf.fn) (E := impl_classOf.E) (enc := impl_classOf.enc) ⟨ttOk, (conCons slices_Compare_int64.valid conNil)⟩ (Checked.mixed Try.checked) ⟨Try.func42, by kernel_rfl, by kernel_rfl, by kernel_rfl, by kernel_rfl, by decide, by kernel_rfl, by kernel_rfl⟩ (fun _ => rfl)
end Go.Proofs.Ytjknpaplgclflaa.P
namespace Go.Proofs.Ytjknpaplgclflaa.P
open Go Go.RowKit Go.Proofs.Ytjknpaplgclflaa.D
noncomputable def impl_CrossedClasses_1.E : Env := { tt := TT, con := [(42, impl_classOf.con), (41, slices_Equal_int64.con)], frz := [], rows := [], live := [], n := 12, pin := 0, nils := [] }
noncomputable def impl_CrossedClasses_1.fn : D.Fn := { body := Try.f40.body.getD .skip, res := Try.f40.results.toList, ins := [.one (.v (.sl 2 (.int .i64))), .ptr true 34 [.v (.int .i64), .v (.sl 2 (.int .i64))], .ptr true 22 [.v (.sl 25 (.sl 2 (.int .i64)))]], outs := [.one (.v .bool)] }
def impl_CrossedClasses_1.enc (y : lsd (flats impl_CrossedClasses_1.fn.outs) × lsd (ios impl_CrossedClasses_1.fn.ins)) : Bool := y.1.1
noncomputable def impl_CrossedClasses_1.f (l0 : List Int) (a1_0 : Int) (l1_1 : List Int) (l2 : List (List Int)) : Option Bool := denF impl_CrossedClasses_1.E impl_CrossedClasses_1.fn impl_CrossedClasses_1.enc (l0, a1_0, l1_1, l2, ())
set_option maxRecDepth 100000 in
theorem impl_CrossedClasses_1.f_eq (l0 : List Int) (a1_0 : Int) (l1_1 : List Int) (l2 : List (List Int)) : impl_CrossedClasses_1.f l0 a1_0 l1_1 l2 = (impl_classOf.f a1_0 l1_1 l0 l2).bind fun t8 => (slices_Equal_int64.f t8 l0).bind fun t10 => some (!decide (t10 = true)) := by kernel_rfl
noncomputable def impl_CrossedClasses_1.con : Con := ⟨impl_CrossedClasses_1.fn.ins, impl_CrossedClasses_1.fn.outs, Bool, fun x => impl_CrossedClasses_1.f x.1 x.2.1 x.2.2.1 x.2.2.2.1, fun r => ((r, ()), (()))⟩
theorem impl_CrossedClasses_1.valid : Valid Try.prog 40 impl_CrossedClasses_1.con := fn_valid (f := impl_CrossedClasses_1.fn) (E := impl_CrossedClasses_1.E) (enc := impl_CrossedClasses_1.enc) ⟨ttOk, (conCons impl_classOf.valid (conCons slices_Equal_int64.valid conNil))⟩ (Checked.mixed Try.checked) ⟨Try.func40, by kernel_rfl, by kernel_rfl, by kernel_rfl, by kernel_rfl, by decide, by kernel_rfl, by kernel_rfl⟩ (fun _ => rfl)
end Go.Proofs.Ytjknpaplgclflaa.P
namespace Go.Proofs.Ytjknpaplgclflaa.P
open Go Go.RowKit Go.Proofs.Ytjknpaplgclflaa.D
noncomputable def impl_CrossedClasses.E : Env := { tt := TT, con := [(30, impl_moduleCode.con), (31, impl_principalMaps.con), (36, impl_crossedMaps.con), (39, slices_DeleteFunc_int64.con), (40, impl_CrossedClasses_1.con)], frz := [], rows := [10], live := [], n := 22, pin := 0, nils := [] }
noncomputable def impl_CrossedClasses.fn : D.Fn := { body := Try.f22.body.getD .skip, res := Try.f22.results.toList, ins := [.agg [.v (.sl 25 (.sl 2 (.int .i64)))], .agg [.v (.int .i64), .v (.sl 2 (.int .i64))]], outs := [.one (.own 25 true (.sl 2 (.int .i64))), .one (.v (.int .i64))] }
def impl_CrossedClasses.enc (y : lsd (flats impl_CrossedClasses.fn.outs) × lsd (ios impl_CrossedClasses.fn.ins)) : (List (List Int)) × Int := (y.1.1, y.1.2.1)
noncomputable def impl_CrossedClasses.f (l0_0 : List (List Int)) (a1_0 : Int) (l1_1 : List Int) : Option ((List (List Int)) × Int) := denF impl_CrossedClasses.E impl_CrossedClasses.fn impl_CrossedClasses.enc (l0_0, a1_0, l1_1, ())
set_option maxRecDepth 100000 in
theorem impl_CrossedClasses.f_eq (l0_0 : List (List Int)) (a1_0 : Int) (l1_1 : List Int) : impl_CrossedClasses.f l0_0 a1_0 l1_1 = (impl_moduleCode.f l0_0 ([(a1_0, l1_1)] : List (Int × (List Int)))).bind fun t11 => if t11 = 0 then ((impl_principalMaps.f a1_0 l1_1).bind fun t16 => (impl_crossedMaps.f l0_0 a1_0 l1_1).bind fun t19 => (slices_DeleteFunc_int64.f t19 (fun z0 => (impl_CrossedClasses_1.f z0 a1_0 l1_1 t16).map fun z => z)).bind fun t21 => some (t21, 0)) else (some (([] : List (List Int)), t11)) := by kernel_rfl
noncomputable def impl_CrossedClasses.con : Con := ⟨impl_CrossedClasses.fn.ins, impl_CrossedClasses.fn.outs, (List (List Int)) × Int, fun x => impl_CrossedClasses.f x.1 x.2.1 x.2.2.1, fun r => ((r.1, r.2, ()), (()))⟩
theorem impl_CrossedClasses.valid : Valid Try.prog 22 impl_CrossedClasses.con := fn_valid (f := impl_CrossedClasses.fn) (E := impl_CrossedClasses.E) (enc := impl_CrossedClasses.enc) ⟨ttOk, (conCons impl_moduleCode.valid (conCons impl_principalMaps.valid (conCons impl_crossedMaps.valid (conCons slices_DeleteFunc_int64.valid (conCons impl_CrossedClasses_1.valid conNil)))))⟩ (Checked.mixed Try.checked) ⟨Try.func22, by kernel_rfl, by kernel_rfl, by kernel_rfl, by kernel_rfl, by decide, by kernel_rfl, by kernel_rfl⟩ (fun _ => rfl)
end Go.Proofs.Ytjknpaplgclflaa.P
namespace Go.Proofs.Ytjknpaplgclflaa.P
open Go Go.RowKit Go.Proofs.Ytjknpaplgclflaa.D
noncomputable def laws_FnExactCrossedClasses.E : Env := { tt := TT, con := [(6, laws_szGroup.con), (7, laws_szModule.con), (9, laws_toGroup.con), (10, laws_toModule.con), (21, spec_CrossedClasses.con), (22, impl_CrossedClasses.con), (12, laws_eqInt64SS.con), (13, laws_eqGroup.con), (14, laws_eqModule.con), (15, laws_markGroup.con), (16, laws_markModule.con), (17, laws_markInt64SS.con), (18, laws_heldInt64SS.con)], frz := [29, 31], rows := [], live := [], n := 119, pin := 0, nils := [] }
noncomputable def laws_FnExactCrossedClasses.fn : D.Fn := { body := Try.f5.body.getD .skip, res := Try.f5.results.toList, ins := [.agg [.v (.sl 25 (.sl 2 (.int .i64)))], .agg [.v (.int .i64), .v (.sl 2 (.int .i64))]], outs := [.one (.v .bool)] }
def laws_FnExactCrossedClasses.enc (y : lsd (flats laws_FnExactCrossedClasses.fn.outs) × lsd (ios laws_FnExactCrossedClasses.fn.ins)) : Bool := y.1.1
noncomputable def laws_FnExactCrossedClasses.f (l0_0 : List (List Int)) (a1_0 : Int) (l1_1 : List Int) : Option Bool := denF laws_FnExactCrossedClasses.E laws_FnExactCrossedClasses.fn laws_FnExactCrossedClasses.enc (l0_0, a1_0, l1_1, ())
set_option maxRecDepth 100000 in
theorem laws_FnExactCrossedClasses.f_eq (l0_0 : List (List Int)) (a1_0 : Int) (l1_1 : List Int) : laws_FnExactCrossedClasses.f l0_0 a1_0 l1_1 = (laws_szGroup.f l0_0 1048576).bind fun t19 => if t19 < 0 then (some true) else ((laws_szModule.f a1_0 l1_1 t19).bind fun t24 => if t24 < 0 then (some true) else ((laws_toGroup.f l0_0).bind fun t29 => (laws_toModule.f a1_0 l1_1).bind fun t31 => (spec_CrossedClasses.f t29 t31.1 t31.2).bind fun t32 => (laws_toGroup.f l0_0).bind fun t36 => (laws_toModule.f a1_0 l1_1).bind fun t38 => (impl_CrossedClasses.f t36 t38.1 t38.2).bind fun t42 => (laws_eqInt64SS.f t42.1 t32.1).bind fun t47 => if t47 = true then (if t42.2 = t32.2 then ((laws_toGroup.f l0_0).bind fun t56 => (laws_eqGroup.f t36 t56).bind fun t57 => if t57 = true then ((laws_toModule.f a1_0 l1_1).bind fun t61 => (laws_eqModule.f t38.1 t38.2 t61.1 t61.2).bind fun t62 => if t62 = true then ((laws_markGroup.f t36 1).bind fun t66 => (laws_markModule.f t38.1 t38.2 t66.1).bind fun t69 => if t69.1 < 0 then (some false) else ((laws_eqInt64SS.f t42.1 t32.1).bind fun t75 => if t75 = true then (if t42.2 = t32.2 then ((laws_markInt64SS.f t42.1 1).bind fun t85 => (laws_heldInt64SS.f t85.2 1).bind fun t88 => if t88 < 0 then (some false) else (if t88 = t85.1 then ((laws_toGroup.f l0_0).bind fun t96 => (laws_toModule.f a1_0 l1_1).bind fun t98 => (impl_CrossedClasses.f t96 t98.1 t98.2).bind fun t99 => (laws_eqInt64SS.f t99.1 t32.1).bind fun t104 => if t104 = true then (if t99.2 = t32.2 then ((laws_heldInt64SS.f t85.2 1).bind fun t113 => if t113 < 0 then (some false) else (if t113 = t85.1 then (some true) else (some false))) else (some false)) else (some false)) else (some false))) else (some false)) else (some false))) else (some false)) else (some false)) else (some false)) else (some false))) := by kernel_rfl
noncomputable def laws_FnExactCrossedClasses.con : Con := ⟨laws_FnExactCrossedClasses.fn.ins, laws_FnExactCrossedClasses.fn.outs, Bool, fun x => laws_FnExactCrossedClasses.f x.1 x.2.1 x.2.2.1, fun r => ((r, ()), (()))⟩
theorem laws_FnExactCrossedClasses.valid : Valid Try.prog 5 laws_FnExactCrossedClasses.con := fn_valid (f := laws_FnExactCrossedClasses.fn) (E := laws_FnExactCrossedClasses.E) (enc := laws_FnExactCrossedClasses.enc) ⟨ttOk, (conCons laws_szGroup.valid (conCons laws_szModule.valid (conCons laws_toGroup.valid (conCons laws_toModule.valid (conCons spec_CrossedClasses.valid (conCons impl_CrossedClasses.valid (conCons laws_eqInt64SS.valid (conCons laws_eqGroup.valid (conCons laws_eqModule.valid (conCons laws_markGroup.valid (conCons laws_markModule.valid (conCons laws_markInt64SS.valid (conCons laws_heldInt64SS.valid conNil)))))))))))))⟩ (Checked.mixed Try.checked) ⟨Try.func5, by kernel_rfl, by kernel_rfl, by kernel_rfl, by kernel_rfl, by decide, by kernel_rfl, by kernel_rfl⟩ (fun _ => rfl)
end Go.Proofs.Ytjknpaplgclflaa.P
namespace Go.Proofs.Ytjknpaplgclflaa.V
open Go Go.RowKit Go.Proofs.Ytjknpaplgclflaa.D
theorem w64 {x : Int} (h0 : -9223372036854775808 ≤ x) (h1 : x ≤ 9223372036854775807) : wrapI x = x := by unfold wrapI; rw [hid_eq]; unfold wrap64; omega
theorem wn {j : Nat} (h : j < 4611686018427387904) : wrapI ((j : Int) + 1) = ((j + 1 : Nat) : Int) := by rw [w64 (by omega) (by omega)]; omega
theorem go_pos {α : Type} {p : Prop} {inst : Decidable p} {a b r : α} (h : p) (k : a = r) : (if p then a else b) = r := by rw [if_pos h]; exact k
theorem go_neg {α : Type} {p : Prop} {inst : Decidable p} {a b r : α} (h : ¬ p) (k : b = r) : (if p then a else b) = r := by rw [if_neg h]; exact k
theorem go_bind {α β : Type} {c : Option α} {f : α → Option β} {a : α} {r : Option β} (h : c = some a) (k : f a = r) : c.bind f = r := by rw [h]; exact k
theorem maxLen_le : maxLen ≤ 9223372036854775807 := by unfold maxLen; omega
theorem le_maxLen {n : Nat} (h : n ≤ 9223372036854775807) : n ≤ maxLen := by unfold maxLen; omega
noncomputable def ite_ {α : Type} (p : Prop) (a b : α) : α := @ite α p (Classical.propDecidable p) a b
theorem ite_pos {α : Type} {p : Prop} (h : p) (a b : α) : ite_ p a b = a := by unfold ite_; simp [h]
theorem ite_neg {α : Type} {p : Prop} (h : ¬ p) (a b : α) : ite_ p a b = b := by unfold ite_; simp [h]
noncomputable def B (p : Prop) : Bool := @decide p (Classical.propDecidable p)
theorem B_pos {p : Prop} (h : p) : B p = true := by unfold B; simp [h]
theorem B_neg {p : Prop} (h : ¬ p) : B p = false := by unfold B; simp [h]
theorem B_not {p : Prop} (h : ¬ p) : ¬ (B p = true) := by rw [B_neg h]; decide
theorem B_congr {p q : Prop} (h : p ↔ q) : B p = B q := by rw [show p = q from propext h]
theorem B_decide (p : Prop) {inst : Decidable p} : decide p = B p := by by_cases h : p <;> simp [h, B]
theorem B_true : B True = true := B_pos trivial
theorem scan {R : Type} (n : Nat) (L : Int → R) (P : Int → Prop) (bad : R)
  (hs : ∀ i : Int, 0 ≤ i → i < n → (∀ j : Int, 0 ≤ j → j < i → P j) → (P i → L i = L (i + 1)) ∧ (¬ P i → L i = bad)) :
  ((∀ j : Int, 0 ≤ j → j < n → P j) ∧ L 0 = L n) ∨ (∃ m : Int, 0 ≤ m ∧ m < n ∧ (∀ j : Int, 0 ≤ j → j < m → P j) ∧ ¬ P m ∧ L 0 = L m ∧ L 0 = bad) := by
 suffices H : ∀ d m : Nat, m + d = n → (∀ j : Int, 0 ≤ j → j < m → P j) →
   ((∀ j : Int, 0 ≤ j → j < n → P j) ∧ L m = L n) ∨ (∃ i : Int, 0 ≤ i ∧ i < n ∧ (∀ j : Int, 0 ≤ j → j < i → P j) ∧ ¬ P i ∧ L m = L i ∧ L m = bad) by
  simpa using H n 0 (by omega) (fun j h0 h1 => by omega)
 intro d
 induction d with
 | zero =>
  intro m hm hp
  have : (m : Int) = n := by omega
  rw [this] at hp ⊢
  exact .inl ⟨hp, rfl⟩
 | succ d ih =>
  intro m hm hp
  obtain ⟨h1, h2⟩ := hs m (by omega) (by omega) hp
  by_cases h : P m
  ·
   have hp' : ∀ j : Int, 0 ≤ j → j < ((m + 1 : Nat) : Int) → P j := fun j h0 hj => by
    by_cases e : j = m
    ·
     rw [e]; exact h
    ·
     exact hp j h0 (by omega)
   have := ih (m + 1) (by omega) hp'
   rwa [Int.natCast_add, Int.natCast_one, ← h1 h] at this
  ·
   exact .inr ⟨m, by omega, by omega, hp, h, rfl, h2 h⟩
theorem scanB (n : Nat) (L : Int → Option Bool) (P : Int → Prop) (Q : Prop)
  (hs : ∀ i : Int, 0 ≤ i → i < n → (∀ j : Int, 0 ≤ j → j < i → P j) → (P i → L i = L (i + 1)) ∧ (¬ P i → L i = some false))
  (he : (∀ j : Int, 0 ≤ j → j < n → P j) → L n = some (B Q)) : L 0 = some (B ((∀ j : Int, 0 ≤ j → j < n → P j) ∧ Q)) := by
 rcases scan n L P (some false) hs with ⟨h1, h2⟩ | ⟨j, h0, h1, _, h2, _, h3⟩
 ·
  rw [B_congr (show ((∀ j : Int, 0 ≤ j → j < n → P j) ∧ Q) ↔ Q from ⟨fun h => h.2, fun h => ⟨h1, h⟩⟩), h2]
  exact he h1
 ·
  rw [B_neg fun h => h2 (h.1 j h0 h1)]
  exact h3
theorem scanT (n : Nat) (L : Int → Option Bool) (P : Int → Prop)
  (hs : ∀ i : Int, 0 ≤ i → i < n → (∀ j : Int, 0 ≤ j → j < i → P j) → (P i → L i = L (i + 1)) ∧ (¬ P i → L i = some false))
  (he : (∀ j : Int, 0 ≤ j → j < n → P j) → L n = some true) : L 0 = some (B (∀ j : Int, 0 ≤ j → j < n → P j)) := by
 have := scanB n L P True hs (fun h => by rw [B_true]; exact he h)
 rwa [B_congr (show ((∀ j : Int, 0 ≤ j → j < n → P j) ∧ True) ↔ _ from ⟨fun h => h.1, fun h => ⟨h, trivial⟩⟩)] at this
theorem scanI {R : Type} (n : Nat) (L : Int → R) (P : Int → Prop) (bad go : R)
  (hs : ∀ i : Int, 0 ≤ i → i < n → (∀ j : Int, 0 ≤ j → j < i → P j) → (P i → L i = L (i + 1)) ∧ (¬ P i → L i = bad)) (he : (∀ j : Int, 0 ≤ j → j < n → P j) → L n = go) :
  ((∀ j : Int, 0 ≤ j → j < n → P j) → L 0 = go) ∧ (¬ (∀ j : Int, 0 ≤ j → j < n → P j) → L 0 = bad) := by
 rcases scan n L P bad hs with ⟨h1, h2⟩ | ⟨j, h0, h1, _, h2, _, h3⟩
 ·
  exact ⟨fun _ => h2.trans (he h1), fun h => absurd h1 h⟩
 ·
  exact ⟨fun h => absurd (h j h0 h1) h2, fun _ => h3⟩
theorem up {R : Type} (n : Nat) (L : Nat → R) (h : ∀ i, i < n → L i = L (i + 1)) : L 0 = L n := by
 suffices H : ∀ m, m ≤ n → L 0 = L m from H n (Nat.le_refl _)
 intro m
 induction m with
 | zero => exact fun _ => rfl
 | succ m ih => exact fun hm => (ih (by omega)).trans (h m (by omega))
theorem rd_get {xs : List Int} {j : Nat} (h : j < xs.length) : rd xs (j : Int) = xs[j] := by simp [rd, List.getD_eq_getElem?_getD, List.getElem?_eq_getElem h]
theorem rd_at {xs : List Int} {i : Int} (h0 : 0 ≤ i) (h1 : i < xs.length) : xs[i.toNat]? = some (rd xs i) := by
 have h : i.toNat < xs.length := by omega
 simp [rd, List.getD_eq_getElem?_getD, List.getElem?_eq_getElem h]
theorem rd_mem {xs : List Int} {i : Int} (h0 : 0 ≤ i) (h1 : i < xs.length) : rd xs i ∈ xs := List.mem_of_getElem? (rd_at h0 h1)
theorem ext_rd {xs ys : List Int} (hl : xs.length = ys.length) (h : ∀ i : Int, 0 ≤ i → i < xs.length → rd xs i = rd ys i) : xs = ys := by
 apply List.ext_getElem hl
 intro i h1 h2
 have := h i (by omega) (by omega)
 simpa [rd, List.getD_eq_getElem?_getD, List.getElem?_eq_getElem h1, List.getElem?_eq_getElem h2] using this
theorem row_get {g : List (List Int)} {j : Nat} (h : j < g.length) : row g (j : Int) = g[j] := by simp [row, List.getD_eq_getElem?_getD, List.getElem?_eq_getElem h]
theorem row_mem {g : List (List Int)} {a : Int} (h0 : 0 ≤ a) (h1 : a < g.length) : row g a ∈ g := by
 have h : a.toNat < g.length := by omega
 unfold row
 rw [List.getD_eq_getElem?_getD, List.getElem?_eq_getElem h]
 exact List.getElem_mem h
theorem mem_row {g : List (List Int)} {r : List Int} (h : r ∈ g) : ∃ i : Int, 0 ≤ i ∧ i < g.length ∧ row g i = r := by
 obtain ⟨i, hi, rfl⟩ := List.mem_iff_getElem.1 h
 exact ⟨i, by omega, by omega, row_get hi⟩
theorem ext_row {xs ys : List (List Int)} (hl : xs.length = ys.length) (h : ∀ i : Int, 0 ≤ i → i < xs.length → row xs i = row ys i) : xs = ys := by
 apply List.ext_getElem hl
 intro i h1 h2
 have := h i (by omega) (by omega)
 rwa [row_get h1, row_get h2] at this
def AllIn (n : Int) (xs : List Int) : Prop := ∀ i : Int, 0 ≤ i → i < xs.length → 0 ≤ rd xs i ∧ rd xs i < n
theorem allIn_one {n x : Int} (h0 : 0 ≤ x) (h1 : x < n) : AllIn n [x] := by
 intro i i0 i1
 have : i = 0 := by simp at i1; omega
 subst this; simp [rd, *]
theorem allIn_two {n x y : Int} (h0 : 0 ≤ x) (h1 : x < n) (h2 : 0 ≤ y) (h3 : y < n) : AllIn n [x, y] := by
 intro i i0 i1
 have : i = 0 ∨ i = 1 := by simp at i1; omega
 rcases this with rfl | rfl <;> simp [rd, *]
theorem AllIn.mem {n : Int} {xs : List Int} (h : AllIn n xs) {x : Int} (hx : x ∈ xs) : 0 ≤ x ∧ x < n := by
 obtain ⟨i, hi, rfl⟩ := List.mem_iff_getElem.1 hx
 have := h i (by omega) (by omega)
 rwa [rd_get hi] at this
theorem allIn_of {n : Int} {xs : List Int} (h : ∀ x ∈ xs, 0 ≤ x ∧ x < n) : AllIn n xs := fun i i0 i1 => h _ (rd_mem i0 i1)
theorem AllIn.drop {n : Int} {xs : List Int} (h : AllIn n xs) (j : Nat) : AllIn n (xs.drop j) := allIn_of fun x hx => h.mem (List.mem_of_mem_drop hx)
theorem AllIn.take {n : Int} {xs : List Int} (h : AllIn n xs) (j : Nat) : AllIn n (xs.take j) := allIn_of fun x hx => h.mem (List.mem_of_mem_take hx)
theorem AllIn.append {n : Int} {xs ys : List Int} (h : AllIn n xs) (k : AllIn n ys) : AllIn n (xs ++ ys) := allIn_of fun x hx => by
 rcases List.mem_append.1 hx with h' | h'
 ·
  exact h.mem h'
 ·
  exact k.mem h'
theorem tmod_nn {a m : Int} (h : 0 ≤ a) : Int.tmod a m = a % m := Int.tmod_eq_emod_of_nonneg h
theorem tdiv_nn {a m : Int} (h : 0 ≤ a) : Int.tdiv a m = a / m := Int.tdiv_eq_ediv_of_nonneg h
end Go.Proofs.Ytjknpaplgclflaa.V
set_option maxHeartbeats 2000000
set_option maxRecDepth 20000
namespace Go.Proofs.Ytjknpaplgclflaa.V
open Go.RowKit Go.Proofs.Ytjknpaplgclflaa.D Go.Proofs.Ytjknpaplgclflaa.P
theorem copy_step {α : Type} (xs : List α) (d : α) (m : Nat) (hm : m < xs.length) :
  (xs.take m ++ List.replicate (xs.length - m) d).set m xs[m] = xs.take (m + 1) ++ List.replicate (xs.length - (m + 1)) d := by
 have h1 : (xs.take m).length = m := by rw [List.length_take]; omega
 rw [List.set_append, if_neg (by omega), h1, Nat.sub_self]
 rw [show xs.length - m = (xs.length - (m + 1)) + 1 by omega, List.replicate_succ, List.set_cons_zero]
 rw [List.take_succ_eq_append_getElem hm, List.append_assoc]; rfl
theorem copy_len {α : Type} (xs : List α) (d : α) (m : Nat) (hm : m ≤ xs.length) : (xs.take m ++ List.replicate (xs.length - m) d).length = xs.length := by
 rw [List.length_append, List.length_take, List.length_replicate]; omega
theorem toInt64S (xs : List Int) (hl : xs.length ≤ 1048576) : laws_toInt64S.f xs = some xs := by
 rw [laws_toInt64S.f_eq, Int.toNat_natCast]
 (with_reducible repeat (first | refine go_pos (by first | assumption | omega | rfl | exact B_pos (by omega)) ?_ | refine go_neg (by first | assumption | omega | decide | exact B_not (by omega)) ?_ | refine go_bind (by first | assumption) ?_ | dsimp only))
 have := up xs.length (fun m => laws_toInt64S.l0 xs (m : Int) (xs.take m ++ List.replicate (xs.length - m) 0)) (fun m hm => by
  have hw : wrapI ((m : Int) + 1) = ((m + 1 : Nat) : Int) := by rw [w64 (by omega) (by omega)]; omega
  have l1 := copy_len xs (0 : Int) m (by omega)
  rw [← copy_step xs 0 m hm, laws_toInt64S.l0_eq, hw, Int.toNat_natCast, rd_get hm]
  ((with_reducible repeat (first | refine go_pos (by first | assumption | omega | rfl | exact B_pos (by omega)) ?_ | refine go_neg (by first | assumption | omega | decide | exact B_not (by omega)) ?_ | refine go_bind (by first | assumption) ?_ | dsimp only)); first | done | (with_reducible rfl) | simp (disch := omega) only [w64] | (show False; done)))
 simp only [List.take_zero, List.nil_append, Nat.sub_zero, List.take_length, Nat.sub_self, List.replicate_zero, List.append_nil, Int.natCast_zero] at this
 rw [this, laws_toInt64S.l0_eq]
 ((with_reducible repeat (first | refine go_pos (by first | assumption | omega | rfl | exact B_pos (by omega)) ?_ | refine go_neg (by first | assumption | omega | decide | exact B_not (by omega)) ?_ | refine go_bind (by first | assumption) ?_ | dsimp only)); first | done | (with_reducible rfl) | simp (disch := omega) only [w64] | (show False; done))
theorem toInt64SS (g : List (List Int)) (hl : g.length ≤ 1048576) (hr : ∀ r ∈ g, r.length ≤ 1048576) : laws_toInt64SS.f g = some g := by
 rw [laws_toInt64SS.f_eq, Int.toNat_natCast]
 (with_reducible repeat (first | refine go_pos (by first | assumption | omega | rfl | exact B_pos (by omega)) ?_ | refine go_neg (by first | assumption | omega | decide | exact B_not (by omega)) ?_ | refine go_bind (by first | assumption) ?_ | dsimp only))
 have := up g.length (fun m => laws_toInt64SS.l0 g (m : Int) (g.take m ++ List.replicate (g.length - m) [])) (fun m hm => by
  have hw : wrapI ((m : Int) + 1) = ((m + 1 : Nat) : Int) := by rw [w64 (by omega) (by omega)]; omega
  have l1 := copy_len g ([] : List Int) m (by omega)
  have ht := toInt64S g[m] (hr _ (List.getElem_mem hm))
  rw [← copy_step g [] m hm, laws_toInt64SS.l0_eq, hw, Int.toNat_natCast, row_get hm]
  ((with_reducible repeat (first | refine go_pos (by first | assumption | omega | rfl | exact B_pos (by omega)) ?_ | refine go_neg (by first | assumption | omega | decide | exact B_not (by omega)) ?_ | refine go_bind (by first | assumption) ?_ | dsimp only)); first | done | (with_reducible rfl) | simp (disch := omega) only [w64] | (show False; done)))
 simp only [List.take_zero, List.nil_append, Nat.sub_zero, List.take_length, Nat.sub_self, List.replicate_zero, List.append_nil, Int.natCast_zero] at this
 rw [this, laws_toInt64SS.l0_eq]
 ((with_reducible repeat (first | refine go_pos (by first | assumption | omega | rfl | exact B_pos (by omega)) ?_ | refine go_neg (by first | assumption | omega | decide | exact B_not (by omega)) ?_ | refine go_bind (by first | assumption) ?_ | dsimp only)); first | done | (with_reducible rfl) | simp (disch := omega) only [w64] | (show False; done))
theorem toGroup (g : List (List Int)) (hl : g.length ≤ 1048576) (hr : ∀ r ∈ g, r.length ≤ 1048576) : laws_toGroup.f g = some g := by
 rw [laws_toGroup.f_eq]; ((with_reducible repeat (first | refine go_pos (by first | assumption | omega | rfl | exact B_pos (by omega)) ?_ | refine go_neg (by first | assumption | omega | decide | exact B_not (by omega)) ?_ | refine go_bind (by first | assumption | exact toInt64SS _ hl hr) ?_ | dsimp only)); first | done | (with_reducible rfl) | simp (disch := omega) only [w64] | (show False; done))
theorem toModule (m : Int) (u : List Int) (hl : u.length ≤ 1048576) : laws_toModule.f m u = some (m, u) := by
 rw [laws_toModule.f_eq]; ((with_reducible repeat (first | refine go_pos (by first | assumption | omega | rfl | exact B_pos (by omega)) ?_ | refine go_neg (by first | assumption | omega | decide | exact B_not (by omega)) ?_ | refine go_bind (by first | assumption | exact toInt64S _ hl) ?_ | dsimp only)); first | done | (with_reducible rfl) | simp (disch := omega) only [w64] | (show False; done))
theorem eqInt64S (xs ys : List Int) (hl : xs.length ≤ maxLen) : laws_eqInt64S.f xs ys = some (B (xs = ys)) := by
 have hm := maxLen_le
 rw [laws_eqInt64S.f_eq]
 by_cases h : (xs.length : Int) = ys.length
 rotate_left
 ·
  rw [B_neg fun e => h (by rw [e])]
  ((with_reducible repeat (first | refine go_pos (by first | assumption | omega | rfl | exact B_pos (by omega)) ?_ | refine go_neg (by first | assumption | omega | decide | exact B_not (by omega)) ?_ | refine go_bind (by first | assumption) ?_ | dsimp only)); first | done | (with_reducible rfl) | simp (disch := omega) only [w64] | (show False; done))
 (with_reducible repeat (first | refine go_pos (by first | assumption | omega | rfl | exact B_pos (by omega)) ?_ | refine go_neg (by first | assumption | omega | decide | exact B_not (by omega)) ?_ | refine go_bind (by first | assumption) ?_ | dsimp only))
 rw [B_congr (show xs = ys ↔ ∀ i : Int, 0 ≤ i → i < xs.length → rd xs i = rd ys i from ⟨fun e i _ _ => by rw [e], fun e => ext_rd (by omega) e⟩)]
 refine scanT xs.length (fun i => laws_eqInt64S.l0 xs ys i) (fun i => rd xs i = rd ys i) (fun i i0 i1 _ => ?_) (fun _ => by (rw [laws_eqInt64S.l0_eq]); ((with_reducible repeat (first | refine go_pos (by first | assumption | omega | rfl | exact B_pos (by omega)) ?_ | refine go_neg (by first | assumption | omega | decide | exact B_not (by omega)) ?_ | refine go_bind (by first | assumption) ?_ | dsimp only)); first | done | (with_reducible rfl) | simp (disch := omega) only [w64] | (show False; done)))
 refine ⟨fun h => ?_, fun h => ?_⟩ <;> (rw [laws_eqInt64S.l0_eq]) <;> ((with_reducible repeat (first | refine go_pos (by first | assumption | omega | rfl | exact B_pos (by omega)) ?_ | refine go_neg (by first | assumption | omega | decide | exact B_not (by omega)) ?_ | refine go_bind (by first | assumption) ?_ | dsimp only)); first | done | (with_reducible rfl) | simp (disch := omega) only [w64] | (show False; done))
theorem eqInt64SS (xs ys : List (List Int)) (hl : xs.length ≤ maxLen) (hr : ∀ r ∈ xs, r.length ≤ maxLen) : laws_eqInt64SS.f xs ys = some (B (xs = ys)) := by
 have hm := maxLen_le
 rw [laws_eqInt64SS.f_eq]
 by_cases h : (xs.length : Int) = ys.length
 rotate_left
 ·
  rw [B_neg fun e => h (by rw [e])]
  ((with_reducible repeat (first | refine go_pos (by first | assumption | omega | rfl | exact B_pos (by omega)) ?_ | refine go_neg (by first | assumption | omega | decide | exact B_not (by omega)) ?_ | refine go_bind (by first | assumption) ?_ | dsimp only)); first | done | (with_reducible rfl) | simp (disch := omega) only [w64] | (show False; done))
 (with_reducible repeat (first | refine go_pos (by first | assumption | omega | rfl | exact B_pos (by omega)) ?_ | refine go_neg (by first | assumption | omega | decide | exact B_not (by omega)) ?_ | refine go_bind (by first | assumption) ?_ | dsimp only))
 rw [B_congr (show xs = ys ↔ ∀ i : Int, 0 ≤ i → i < xs.length → row xs i = row ys i from ⟨fun e i _ _ => by rw [e], fun e => ext_row (by omega) e⟩)]
 refine scanT xs.length (fun i => laws_eqInt64SS.l0 xs ys i) (fun i => row xs i = row ys i) (fun i i0 i1 _ => ?_) (fun _ => by (rw [laws_eqInt64SS.l0_eq]); ((with_reducible repeat (first | refine go_pos (by first | assumption | omega | rfl | exact B_pos (by omega)) ?_ | refine go_neg (by first | assumption | omega | decide | exact B_not (by omega)) ?_ | refine go_bind (by first | assumption) ?_ | dsimp only)); first | done | (with_reducible rfl) | simp (disch := omega) only [w64] | (show False; done)))
 have he := eqInt64S (row xs i) (row ys i) (hr _ (row_mem i0 i1))
 refine ⟨fun h => ?_, fun h => ?_⟩
 ·
  rw [B_pos h] at he
  (rw [laws_eqInt64SS.l0_eq])
  ((with_reducible repeat (first | refine go_pos (by first | assumption | omega | rfl | exact B_pos (by omega)) ?_ | refine go_neg (by first | assumption | omega | decide | exact B_not (by omega)) ?_ | refine go_bind (by first | assumption) ?_ | dsimp only)); first | done | (with_reducible rfl) | simp (disch := omega) only [w64] | (show False; done))
 ·
  rw [B_neg h] at he
  (rw [laws_eqInt64SS.l0_eq])
  ((with_reducible repeat (first | refine go_pos (by first | assumption | omega | rfl | exact B_pos (by omega)) ?_ | refine go_neg (by first | assumption | omega | decide | exact B_not (by omega)) ?_ | refine go_bind (by first | assumption) ?_ | dsimp only)); first | done | (with_reducible rfl) | simp (disch := omega) only [w64] | (show False; done))
theorem eqGroup (xs ys : List (List Int)) (hl : xs.length ≤ maxLen) (hr : ∀ r ∈ xs, r.length ≤ maxLen) : laws_eqGroup.f xs ys = some (B (xs = ys)) := by
 have he := eqInt64SS xs ys hl hr
 rw [laws_eqGroup.f_eq, he]
 by_cases h : xs = ys
 ·
  rw [B_pos h]; rfl
 ·
  rw [B_neg h]; rfl
theorem eqModule (m n : Int) (u v : List Int) (hl : u.length ≤ maxLen) : laws_eqModule.f m u n v = some (B (m = n ∧ u = v)) := by
 have he := eqInt64S u v hl
 rw [laws_eqModule.f_eq]
 by_cases h : m = n ∧ u = v
 ·
  rw [B_pos h.2] at he; rw [B_pos h]; ((with_reducible repeat (first | refine go_pos (by first | assumption | omega | rfl | exact B_pos (by omega)) ?_ | refine go_neg (by first | assumption | omega | decide | exact B_not (by omega)) ?_ | refine go_bind (by first | assumption) ?_ | dsimp only)); first | done | (with_reducible rfl) | simp (disch := omega) only [w64] | (show False; done))
 ·
  rw [B_neg h]
  by_cases h1 : m = n
  ·
   rw [B_neg fun k => h ⟨h1, k⟩] at he; ((with_reducible repeat (first | refine go_pos (by first | assumption | omega | rfl | exact B_pos (by omega)) ?_ | refine go_neg (by first | assumption | omega | decide | exact B_not (by omega)) ?_ | refine go_bind (by first | assumption) ?_ | dsimp only)); first | done | (with_reducible rfl) | simp (disch := omega) only [w64] | (show False; done))
  ·
   ((with_reducible repeat (first | refine go_pos (by first | assumption | omega | rfl | exact B_pos (by omega)) ?_ | refine go_neg (by first | assumption | omega | decide | exact B_not (by omega)) ?_ | refine go_bind (by first | assumption) ?_ | dsimp only)); first | done | (with_reducible rfl) | simp (disch := omega) only [w64] | (show False; done))
theorem same_Rows (xs : List (List Int)) (hl : xs.length ≤ maxLen) (hr : ∀ r ∈ xs, r.length ≤ maxLen) : laws_eqInt64SS.f xs xs = some true := by rw [eqInt64SS xs xs hl hr, B_pos rfl]
theorem same_Group (xs : List (List Int)) (hl : xs.length ≤ maxLen) (hr : ∀ r ∈ xs, r.length ≤ maxLen) : laws_eqGroup.f xs xs = some true := by rw [eqGroup xs xs hl hr, B_pos rfl]
theorem same_Module (m : Int) (u : List Int) (hl : u.length ≤ maxLen) : laws_eqModule.f m u m u = some true := by rw [eqModule m m u u hl, B_pos ⟨rfl, rfl⟩]
theorem szInt64S (xs : List Int) (left : Int) (hl : xs.length ≤ maxLen) (l0 : 0 ≤ left) (l1 : left ≤ 1048576) :
  ∃ t, laws_szInt64S.f xs left = some t ∧ (t < 0 ∨ (0 ≤ t ∧ t ≤ 1048576 ∧ xs.length ≤ 1048576)) := by
 have hm := maxLen_le
 rw [laws_szInt64S.f_eq, w64 (by omega) (by omega)]
 by_cases h : left - (xs.length : Int) < 0
 ·
  exact ⟨_, if_pos h, .inl (by omega)⟩
 ·
  exact ⟨_, if_neg h, .inr (by omega)⟩
theorem szInt64SS (g : List (List Int)) (left : Int) (hl : g.length ≤ maxLen) (hr : ∀ r ∈ g, r.length ≤ maxLen) (l0 : 0 ≤ left) (l1 : left ≤ 1048576) :
  ∃ t, laws_szInt64SS.f g left = some t ∧ (t < 0 ∨ (0 ≤ t ∧ t ≤ 1048576 ∧ g.length ≤ 1048576 ∧ ∀ r ∈ g, r.length ≤ 1048576)) := by
 have hm := maxLen_le
 rw [laws_szInt64SS.f_eq, w64 (by omega) (by omega)]
 by_cases h : left - (g.length : Int) < 0
 ·
  exact ⟨_, if_pos h, .inl (by omega)⟩
 rw [if_neg h]
 have H : ∀ d m : Nat, m + d = g.length → ∀ s : Int, 0 ≤ s → s ≤ 1048576 → (∀ j, j < m → (row g j).length ≤ 1048576) → ∃ t, laws_szInt64SS.l0 g s (m : Int) = some t ∧ (t < 0 ∨ (0 ≤ t ∧ t ≤ 1048576 ∧ g.length ≤ 1048576 ∧ ∀ r ∈ g, r.length ≤ 1048576)) := by
  intro d
  induction d with
  | zero =>
   intro m hd s s0 s1 hs
   obtain rfl : m = g.length := by omega
   refine ⟨s, by (rw [laws_szInt64SS.l0_eq]); ((with_reducible repeat (first | refine go_pos (by first | assumption | omega | rfl | exact B_pos (by omega)) ?_ | refine go_neg (by first | assumption | omega | decide | exact B_not (by omega)) ?_ | refine go_bind (by first | assumption) ?_ | dsimp only)); first | done | (with_reducible rfl) | simp (disch := omega) only [w64] | (show False; done)), .inr ⟨s0, s1, by omega, fun r hr' => ?_⟩⟩
   obtain ⟨i, i0, i1, rfl⟩ := mem_row hr'
   have := hs i.toNat (by omega)
   rwa [show ((i.toNat : Nat) : Int) = i by omega] at this
  | succ d ih =>
   intro m hd s s0 s1 hs
   obtain ⟨t, ht, h⟩ := szInt64S (row g m) s (hr _ (row_mem (by omega) (by omega))) s0 s1
   have hw : wrapI ((m : Int) + 1) = ((m + 1 : Nat) : Int) := by rw [w64 (by omega) (by omega)]; omega
   rcases h with h | ⟨h0, h1, h2⟩
   ·
    refine ⟨-1, ?_, .inl (by omega)⟩
    (rw [laws_szInt64SS.l0_eq])
    ((with_reducible repeat (first | refine go_pos (by first | assumption | omega | rfl | exact B_pos (by omega)) ?_ | refine go_neg (by first | assumption | omega | decide | exact B_not (by omega)) ?_ | refine go_bind (by first | assumption) ?_ | dsimp only)); first | done | (with_reducible rfl) | simp (disch := omega) only [w64] | (show False; done))
   ·
    obtain ⟨t', ht', h'⟩ := ih (m + 1) (by omega) t h0 h1 (fun j hj => by
     by_cases e : j = m
     ·
      rw [e]; exact h2
     ·
      exact hs j (by omega))
    refine ⟨t', ?_, h'⟩
    (rw [laws_szInt64SS.l0_eq, hw])
    (with_reducible repeat (first | refine go_pos (by first | assumption | omega | rfl | exact B_pos (by omega)) ?_ | refine go_neg (by first | assumption | omega | decide | exact B_not (by omega)) ?_ | refine go_bind (by first | assumption) ?_ | dsimp only))
    exact ht'
 have := H g.length 0 (by omega) (left - g.length) (by omega) (by omega) (fun j hj => by omega)
 exact this
theorem szGroup (g : List (List Int)) (left : Int) (hl : g.length ≤ maxLen) (hr : ∀ r ∈ g, r.length ≤ maxLen) (l0 : 0 ≤ left) (l1 : left ≤ 1048576) :
  ∃ t, laws_szGroup.f g left = some t ∧ (t < 0 ∨ (0 ≤ t ∧ t ≤ 1048576 ∧ g.length ≤ 1048576 ∧ ∀ r ∈ g, r.length ≤ 1048576)) := by
 obtain ⟨t, ht, h⟩ := szInt64SS g left hl hr l0 l1
 rw [laws_szGroup.f_eq]
 rcases h with h | h
 ·
  exact ⟨-1, by ((with_reducible repeat (first | refine go_pos (by first | assumption | omega | rfl | exact B_pos (by omega)) ?_ | refine go_neg (by first | assumption | omega | decide | exact B_not (by omega)) ?_ | refine go_bind (by first | assumption) ?_ | dsimp only)); first | done | (with_reducible rfl) | simp (disch := omega) only [w64] | (show False; done)), .inl (by omega)⟩
 ·
  have := h.1
  exact ⟨t, by ((with_reducible repeat (first | refine go_pos (by first | assumption | omega | rfl | exact B_pos (by omega)) ?_ | refine go_neg (by first | assumption | omega | decide | exact B_not (by omega)) ?_ | refine go_bind (by first | assumption) ?_ | dsimp only)); first | done | (with_reducible rfl) | simp (disch := omega) only [w64] | (show False; done)), .inr h⟩
theorem szModule (m : Int) (u : List Int) (left : Int) (hl : u.length ≤ maxLen) (l0 : 0 ≤ left) (l1 : left ≤ 1048576) :
  ∃ t, laws_szModule.f m u left = some t ∧ (t < 0 ∨ (0 ≤ t ∧ t ≤ 1048576 ∧ u.length ≤ 1048576)) := by
 obtain ⟨t, ht, h⟩ := szInt64S u left hl l0 l1
 rw [laws_szModule.f_eq]
 rcases h with h | h
 ·
  exact ⟨-1, by ((with_reducible repeat (first | refine go_pos (by first | assumption | omega | rfl | exact B_pos (by omega)) ?_ | refine go_neg (by first | assumption | omega | decide | exact B_not (by omega)) ?_ | refine go_bind (by first | assumption) ?_ | dsimp only)); first | done | (with_reducible rfl) | simp (disch := omega) only [w64] | (show False; done)), .inl (by omega)⟩
 ·
  have := h.1
  exact ⟨t, by ((with_reducible repeat (first | refine go_pos (by first | assumption | omega | rfl | exact B_pos (by omega)) ?_ | refine go_neg (by first | assumption | omega | decide | exact B_not (by omega)) ?_ | refine go_bind (by first | assumption) ?_ | dsimp only)); first | done | (with_reducible rfl) | simp (disch := omega) only [w64] | (show False; done)), .inr h⟩
def MkS (a : Int) (n : Nat) : List Int := (List.range n).map fun (i : Nat) => a + (i : Int)
theorem MkS_length (a : Int) (n : Nat) : (MkS a n).length = n := by simp [MkS]
theorem MkS_rd {a : Int} {n : Nat} {i : Int} (h0 : 0 ≤ i) (h1 : i < n) : rd (MkS a n) i = a + i := by
 have h : i.toNat < n := by omega
 simp [rd, MkS, List.getD_eq_getElem?_getD, h]
 omega
theorem MkS_step (a : Int) (xs : List Int) (m : Nat) (hm : m < xs.length) : (MkS a m ++ xs.drop m).set m (a + m) = MkS a (m + 1) ++ xs.drop (m + 1) := by
 rw [List.set_append, if_neg (by rw [MkS_length]; omega), MkS_length, Nat.sub_self, List.drop_eq_getElem_cons hm, List.set_cons_zero]
 simp [MkS, List.range_succ]
theorem markS (xs : List Int) (a : Int) (h0 : 0 ≤ a) (h1 : a + xs.length ≤ 4611686018427387904) : laws_markInt64S.f xs a = some (a + xs.length, MkS a xs.length) := by
 rw [laws_markInt64S.f_eq]
 have := up xs.length (fun m => laws_markInt64S.l0 (a + (m : Int)) (m : Int) (MkS a m ++ xs.drop m)) (fun m hm => by
  have hw : wrapI ((m : Int) + 1) = ((m + 1 : Nat) : Int) := by rw [w64 (by omega) (by omega)]; omega
  have hw2 : wrapI (a + (m : Int) + 1) = a + ((m + 1 : Nat) : Int) := by rw [w64 (by omega) (by omega)]; omega
  have l1 : (MkS a m ++ xs.drop m).length = xs.length := by rw [List.length_append, MkS_length, List.length_drop]; omega
  rw [← MkS_step a xs m hm, laws_markInt64S.l0_eq, hw, hw2, Int.toNat_natCast]
  ((with_reducible repeat (first | refine go_pos (by first | assumption | omega | rfl | exact B_pos (by omega)) ?_ | refine go_neg (by first | assumption | omega | decide | exact B_not (by omega)) ?_ | refine go_bind (by first | assumption) ?_ | dsimp only)); first | done | (with_reducible rfl) | simp (disch := omega) only [w64] | (show False; done)))
 simp only [Int.natCast_zero, Int.add_zero, List.drop_zero, List.drop_length, List.append_nil, show MkS a 0 = [] from rfl, List.nil_append] at this
 have hl := MkS_length a xs.length
 rw [this, laws_markInt64S.l0_eq]
 ((with_reducible repeat (first | refine go_pos (by first | assumption | omega | rfl | exact B_pos (by omega)) ?_ | refine go_neg (by first | assumption | omega | decide | exact B_not (by omega)) ?_ | refine go_bind (by first | assumption) ?_ | dsimp only)); first | done | (with_reducible rfl) | simp (disch := omega) only [w64] | (show False; done))
theorem heldS (a : Int) (n : Nat) (h0 : 0 ≤ a) (h1 : a + n ≤ 4611686018427387904) : laws_heldInt64S.f (MkS a n) a = some (a + n) := by
 rw [laws_heldInt64S.f_eq]
 have hl := MkS_length a n
 have := up n (fun m => laws_heldInt64S.l0 (MkS a n) (a + (m : Int)) (m : Int)) (fun m hm => by
  have hw : wrapI ((m : Int) + 1) = ((m + 1 : Nat) : Int) := by rw [w64 (by omega) (by omega)]; omega
  have hw2 : wrapI (a + (m : Int) + 1) = a + ((m + 1 : Nat) : Int) := by rw [w64 (by omega) (by omega)]; omega
  have e := MkS_rd (a := a) (n := n) (i := m) (by omega) (by omega)
  rw [laws_heldInt64S.l0_eq, hw, hw2]
  ((with_reducible repeat (first | refine go_pos (by first | assumption | omega | rfl | exact B_pos (by omega)) ?_ | refine go_neg (by first | assumption | omega | decide | exact B_not (by omega)) ?_ | refine go_bind (by first | assumption) ?_ | dsimp only)); first | done | (with_reducible rfl) | simp (disch := omega) only [w64] | (show False; done)))
 simp only [Int.natCast_zero, Int.add_zero] at this
 rw [this, laws_heldInt64S.l0_eq]
 ((with_reducible repeat (first | refine go_pos (by first | assumption | omega | rfl | exact B_pos (by omega)) ?_ | refine go_neg (by first | assumption | omega | decide | exact B_not (by omega)) ?_ | refine go_bind (by first | assumption) ?_ | dsimp only)); first | done | (with_reducible rfl) | simp (disch := omega) only [w64] | (show False; done))
def tot : List (List Int) → Nat
 | [] => 0
 | r :: g => r.length + tot g
def MkSS (a : Int) : List (List Int) → List (List Int)
 | [] => []
 | r :: g => MkS a r.length :: MkSS (a + r.length) g
theorem MkSS_length (g : List (List Int)) : ∀ a, (MkSS a g).length = g.length := by
 induction g with
 | nil => intro a; rfl
 | cons r g ih => intro a; simp [MkSS, ih]
theorem tot_le (b : Nat) (g : List (List Int)) (h : ∀ r ∈ g, r.length ≤ b) : tot g ≤ g.length * b := by
 induction g with
 | nil => simp [tot]
 | cons r g ih =>
  have h1 := ih fun r hr => h r (List.mem_cons_of_mem _ hr)
  have h2 := h r (List.mem_cons_self ..)
  rw [List.length_cons, Nat.succ_mul, tot]
  omega
theorem tot_small {g : List (List Int)} (h1 : g.length ≤ 1048576) (h2 : ∀ r ∈ g, r.length ≤ 1048576) : tot g ≤ 1099511627776 :=
 Nat.le_trans (tot_le 1048576 g h2) (Nat.mul_le_mul_right 1048576 h1)
theorem tot_small9 {g : List (List Int)} (h1 : g.length ≤ 1000000000) (h2 : ∀ r ∈ g, r.length ≤ 1048576) : tot g ≤ 1048576000000000 :=
 Nat.le_trans (tot_le 1048576 g h2) (Nat.mul_le_mul_right 1048576 h1)
theorem markSS (g : List (List Int)) (a : Int) (h0 : 0 ≤ a) (h1 : a + tot g ≤ 4611686018427387904) (hl : g.length ≤ 4611686018427387904) : laws_markInt64SS.f g a = some (a + tot g, MkSS a g) := by
 rw [laws_markInt64SS.f_eq]
 suffices H : ∀ (g done : List (List Int)) (b : Int), 0 ≤ b → b + tot g ≤ 4611686018427387904 → done.length + g.length ≤ 4611686018427387904 → laws_markInt64SS.l0 b (done.length : Int) (done ++ g) = some (b + tot g, done ++ MkSS b g) from by
  simpa using H g [] a h0 h1 (by simpa using hl)
 intro g
 induction g with
 | nil =>
  intro done b b0 b1 hd
  rw [laws_markInt64SS.l0_eq, List.append_nil]
  have : b + ((tot [] : Nat) : Int) = b := by simp [tot]
  rw [this, MkSS, List.append_nil]
  ((with_reducible repeat (first | refine go_pos (by first | assumption | omega | rfl | exact B_pos (by omega)) ?_ | refine go_neg (by first | assumption | omega | decide | exact B_not (by omega)) ?_ | refine go_bind (by first | assumption) ?_ | dsimp only)); first | done | (with_reducible rfl) | simp (disch := omega) only [w64] | (show False; done))
 | cons r g ih =>
  intro done b b0 b1 hd
  simp only [tot, List.length_cons] at b1 hd
  have m1 : (done ++ r :: g).length = done.length + g.length + 1 := by rw [List.length_append, List.length_cons]; omega
  have hw : wrapI ((done.length : Int) + 1) = (((done ++ [MkS b r.length]).length : Nat) : Int) := by
   rw [w64 (by omega) (by omega), List.length_append, List.length_singleton]; omega
  have e : row (done ++ r :: g) (done.length : Int) = r := by simp [row, List.getD_eq_getElem?_getD]
  have e2 : (done ++ r :: g).set done.length (MkS b r.length) = (done ++ [MkS b r.length]) ++ g := by
   rw [List.set_append, if_neg (by omega), Nat.sub_self, List.set_cons_zero]; simp
  have hm := markS r b b0 (by omega)
  rw [laws_markInt64SS.l0_eq, hw, e, Int.toNat_natCast]
  (with_reducible repeat (first | refine go_pos (by first | assumption | omega | rfl | exact B_pos (by omega)) ?_ | refine go_neg (by first | assumption | omega | decide | exact B_not (by omega)) ?_ | refine go_bind (by first | assumption) ?_ | dsimp only))
  have := ih (done ++ [MkS b r.length]) (b + r.length) (by omega) (by omega) (by rw [List.length_append, List.length_singleton]; omega)
  rw [e2, this]
  simp only [MkSS, tot, List.append_assoc, List.singleton_append, Int.natCast_add, Int.add_assoc]
theorem markGroup (g : List (List Int)) (a : Int) (h0 : 0 ≤ a) (h1 : a + tot g ≤ 4611686018427387904) (hl : g.length ≤ 4611686018427387904) : laws_markGroup.f g a = some (a + tot g, MkSS a g) := by
 have := markSS g a h0 h1 hl
 rw [laws_markGroup.f_eq]; ((with_reducible repeat (first | refine go_pos (by first | assumption | omega | rfl | exact B_pos (by omega)) ?_ | refine go_neg (by first | assumption | omega | decide | exact B_not (by omega)) ?_ | refine go_bind (by first | assumption) ?_ | dsimp only)); first | done | (with_reducible rfl) | simp (disch := omega) only [w64] | (show False; done))
theorem markModule (m : Int) (xs : List Int) (a : Int) (h0 : 0 ≤ a) (h1 : a + xs.length ≤ 4611686018427387904) : laws_markModule.f m xs a = some (a + xs.length, MkS a xs.length) := by
 have := markS xs a h0 h1
 rw [laws_markModule.f_eq]; ((with_reducible repeat (first | refine go_pos (by first | assumption | omega | rfl | exact B_pos (by omega)) ?_ | refine go_neg (by first | assumption | omega | decide | exact B_not (by omega)) ?_ | refine go_bind (by first | assumption) ?_ | dsimp only)); first | done | (with_reducible rfl) | simp (disch := omega) only [w64] | (show False; done))
theorem heldSS (g : List (List Int)) (a : Int) (h0 : 0 ≤ a) (h1 : a + tot g ≤ 4611686018427387904) (hl : g.length ≤ 4611686018427387904) : laws_heldInt64SS.f (MkSS a g) a = some (a + tot g) := by
 rw [laws_heldInt64SS.f_eq]
 suffices H : ∀ (g done : List (List Int)) (b : Int), 0 ≤ b → b + tot g ≤ 4611686018427387904 → done.length + g.length ≤ 4611686018427387904 → laws_heldInt64SS.l0 (done ++ MkSS b g) b (done.length : Int) = some (b + tot g) from by
  simpa using H g [] a h0 h1 (by simpa using hl)
 intro g
 induction g with
 | nil =>
  intro done b b0 b1 hd
  rw [laws_heldInt64SS.l0_eq, MkSS, List.append_nil]
  have : b + ((tot [] : Nat) : Int) = b := by simp [tot]
  rw [this]
  ((with_reducible repeat (first | refine go_pos (by first | assumption | omega | rfl | exact B_pos (by omega)) ?_ | refine go_neg (by first | assumption | omega | decide | exact B_not (by omega)) ?_ | refine go_bind (by first | assumption) ?_ | dsimp only)); first | done | (with_reducible rfl) | simp (disch := omega) only [w64] | (show False; done))
 | cons r g ih =>
  intro done b b0 b1 hd
  simp only [tot, List.length_cons] at b1 hd
  have m1 : (done ++ MkSS b (r :: g)).length = done.length + g.length + 1 := by rw [List.length_append, MkSS_length, List.length_cons]; omega
  have e : row (done ++ MkSS b (r :: g)) (done.length : Int) = MkS b r.length := by simp [row, MkSS, List.getD_eq_getElem?_getD]
  have hm := heldS b r.length b0 (by omega)
  have := ih (done ++ [MkS b r.length]) (b + r.length) (by omega) (by omega) (by rw [List.length_append, List.length_singleton]; omega)
  rw [List.length_append, List.length_singleton] at this
  rw [laws_heldInt64SS.l0_eq, wn (j := done.length) (by omega), e]
  (with_reducible repeat (first | refine go_pos (by first | assumption | omega | rfl | exact B_pos (by omega)) ?_ | refine go_neg (by first | assumption | omega | decide | exact B_not (by omega)) ?_ | refine go_bind (by first | assumption) ?_ | dsimp only))
  have e2 : done ++ MkSS b (r :: g) = (done ++ [MkS b r.length]) ++ MkSS (b + r.length) g := by simp [MkSS]
  rw [e2, this]
  simp only [tot, Int.natCast_add, Int.add_assoc]
end Go.Proofs.Ytjknpaplgclflaa.V
namespace Go.Proofs.Ytjknpaplgclflaa.V
open Go.RowKit Go.Proofs.Ytjknpaplgclflaa.D Go.Proofs.Ytjknpaplgclflaa.P
theorem areIn (n : Int) (xs : List Int) (hl : xs.length ≤ maxLen) : impl_areIn.f n xs = some (B (AllIn n xs)) := by
 have hm := maxLen_le
 rw [impl_areIn.f_eq]
 refine scanT xs.length (fun i => impl_areIn.l0 n xs (xs.length : Int) i) (fun i => 0 ≤ rd xs i ∧ rd xs i < n) (fun i h0 h1 _ => ?_) (fun _ => ?_)
 ·
  refine ⟨fun h => ?_, fun h => ?_⟩ <;> (rw [impl_areIn.l0_eq])
  ·
   ((with_reducible repeat (first | refine go_pos (by first | assumption | omega | rfl | exact B_pos (by omega)) ?_ | refine go_neg (by first | assumption | omega | decide | exact B_not (by omega)) ?_ | refine go_bind (by first | assumption) ?_ | dsimp only)); first | done | (with_reducible rfl) | simp (disch := omega) only [w64] | (show False; done))
  ·
   by_cases h2 : rd xs i < 0 <;> ((with_reducible repeat (first | refine go_pos (by first | assumption | omega | rfl | exact B_pos (by omega)) ?_ | refine go_neg (by first | assumption | omega | decide | exact B_not (by omega)) ?_ | refine go_bind (by first | assumption) ?_ | dsimp only)); first | done | (with_reducible rfl) | simp (disch := omega) only [w64] | (show False; done))
 ·
  (rw [impl_areIn.l0_eq])
  ((with_reducible repeat (first | refine go_pos (by first | assumption | omega | rfl | exact B_pos (by omega)) ?_ | refine go_neg (by first | assumption | omega | decide | exact B_not (by omega)) ?_ | refine go_bind (by first | assumption) ?_ | dsimp only)); first | done | (with_reducible rfl) | simp (disch := omega) only [w64] | (show False; done))
theorem index_ (xs : List Int) (x : Int) (hl : xs.length ≤ maxLen) :
  ((∀ i : Int, 0 ≤ i → i < xs.length → rd xs i ≠ x) ∧ slices_Index_int64.f xs x = some (-1)) ∨
  ∃ i : Int, 0 ≤ i ∧ i < xs.length ∧ (∀ j : Int, 0 ≤ j → j < i → rd xs j ≠ x) ∧ rd xs i = x ∧ slices_Index_int64.f xs x = some i := by
 have hm := maxLen_le
 rw [slices_Index_int64.f_eq]
 suffices H : ∀ d m : Nat, m + d = xs.length → (∀ j : Int, 0 ≤ j → j < m → rd xs j ≠ x) →
   ((∀ i : Int, 0 ≤ i → i < xs.length → rd xs i ≠ x) ∧ slices_Index_int64.l0 xs x (xs.length : Int) m = some (-1)) ∨
   ∃ i : Int, 0 ≤ i ∧ i < xs.length ∧ (∀ j : Int, 0 ≤ j → j < i → rd xs j ≠ x) ∧ rd xs i = x ∧ slices_Index_int64.l0 xs x (xs.length : Int) m = some i from
  H xs.length 0 (by omega) (fun j h0 h1 => by omega)
 intro d
 induction d with
 | zero =>
  intro m hd hp
  obtain rfl : m = xs.length := by omega
  refine .inl ⟨hp, ?_⟩
  (rw [slices_Index_int64.l0_eq])
  ((with_reducible repeat (first | refine go_pos (by first | assumption | omega | rfl | exact B_pos (by omega)) ?_ | refine go_neg (by first | assumption | omega | decide | exact B_not (by omega)) ?_ | refine go_bind (by first | assumption) ?_ | dsimp only)); first | done | (with_reducible rfl) | simp (disch := omega) only [w64] | (show False; done))
 | succ d ih =>
  intro m hd hp
  by_cases h2 : x = rd xs m
  ·
   refine .inr ⟨m, by omega, by omega, hp, h2.symm, ?_⟩
   (rw [slices_Index_int64.l0_eq])
   ((with_reducible repeat (first | refine go_pos (by first | assumption | omega | rfl | exact B_pos (by omega)) ?_ | refine go_neg (by first | assumption | omega | decide | exact B_not (by omega)) ?_ | refine go_bind (by first | assumption) ?_ | dsimp only)); first | done | (with_reducible rfl) | simp (disch := omega) only [w64] | (show False; done))
  ·
   have st : slices_Index_int64.l0 xs x (xs.length : Int) m = slices_Index_int64.l0 xs x (xs.length : Int) ((m + 1 : Nat) : Int) := by
    rw [Int.natCast_add, Int.natCast_one]
    (rw [slices_Index_int64.l0_eq])
    ((with_reducible repeat (first | refine go_pos (by first | assumption | omega | rfl | exact B_pos (by omega)) ?_ | refine go_neg (by first | assumption | omega | decide | exact B_not (by omega)) ?_ | refine go_bind (by first | assumption) ?_ | dsimp only)); first | done | (with_reducible rfl) | simp (disch := omega) only [w64] | (show False; done))
   rw [st]
   refine ih (m + 1) (by omega) fun j k0 k1 => ?_
   by_cases e : j = m
   ·
    rw [e]; exact fun h => h2 h.symm
   ·
    exact hp j k0 (by omega)
theorem contains_ (xs : List Int) (x : Int) (hl : xs.length ≤ maxLen) : slices_Contains_int64.f xs x = some (B (∃ i : Int, 0 ≤ i ∧ i < xs.length ∧ rd xs i = x)) := by
 rw [slices_Contains_int64.f_eq]
 rcases index_ xs x hl with ⟨h, e⟩ | ⟨i, h0, h1, _, h2, e⟩
 ·
  rw [e, B_neg fun ⟨i, h0, h1, h2⟩ => h i h0 h1 h2]; rfl
 ·
  rw [e, B_pos ⟨i, h0, h1, h2⟩]; simp [h0]
structure Grp (g : List (List Int)) : Prop where
 n1 : 1 ≤ g.length
 n8 : g.length ≤ 8
 row : ∀ a : Int, 0 ≤ a → a < g.length → (row g a).length = g.length
 ent : ∀ a b : Int, 0 ≤ a → a < g.length → 0 ≤ b → b < g.length → 0 ≤ T g a b ∧ T g a b < g.length
 one : ∀ a : Int, 0 ≤ a → a < g.length → T g 0 a = a
 one' : ∀ a : Int, 0 ≤ a → a < g.length → T g a 0 = a
 assoc : ∀ a b c : Int, 0 ≤ a → a < g.length → 0 ≤ b → b < g.length → 0 ≤ c → c < g.length → T g (T g a b) c = T g a (T g b c)
 inv : ∀ a : Int, 0 ≤ a → a < g.length → ∃ b : Int, 0 ≤ b ∧ b < g.length ∧ T g a b = 0
theorem Grp.inv2 {g : List (List Int)} (h : Grp g) {a : Int} (h0 : 0 ≤ a) (h1 : a < g.length) : ∃ b : Int, 0 ≤ b ∧ b < g.length ∧ T g a b = 0 ∧ T g b a = 0 := by
 obtain ⟨b, b0, b1, hb⟩ := h.inv a h0 h1
 obtain ⟨c, c0, c1, hc⟩ := h.inv b b0 b1
 refine ⟨b, b0, b1, hb, ?_⟩
 have hac : c = a := by
  have e1 := h.assoc a b c h0 h1 b0 b1 c0 c1
  rw [hb, hc, h.one c c0 c1, h.one' a h0 h1] at e1
  exact e1
 rw [← hac]; exact hc
theorem rows_len {g : List (List Int)} (hr : ∀ r ∈ g, r.length ≤ maxLen) {a : Int} (h0 : 0 ≤ a) (h1 : a < g.length) : (row g a).length ≤ maxLen := hr _ (row_mem h0 h1)
def Tab (g : List (List Int)) : Prop := ∀ a : Int, 0 ≤ a → a < g.length → (row g a).length = g.length ∧ AllIn g.length (row g a)
def Law (g : List (List Int)) (a : Int) : Prop := T g 0 a = a ∧ T g a 0 = a ∧ (∃ b : Int, 0 ≤ b ∧ b < g.length ∧ T g a b = 0) ∧ ∀ b : Int, 0 ≤ b → b < g.length → ∀ c : Int, 0 ≤ c → c < g.length → T g (T g a b) c = T g a (T g b c)
theorem grp_iff (g : List (List Int)) : Grp g ↔ (1 ≤ g.length ∧ g.length ≤ 8) ∧ Tab g ∧ ∀ a : Int, 0 ≤ a → a < g.length → Law g a := by
 constructor
 ·
  intro h
  refine ⟨⟨h.n1, h.n8⟩, fun a h0 h1 => ⟨h.row a h0 h1, fun i i0 i1 => ?_⟩, fun a h0 h1 => ⟨h.one a h0 h1, h.one' a h0 h1, h.inv a h0 h1, fun b b0 b1 c c0 c1 => h.assoc a b c h0 h1 b0 b1 c0 c1⟩⟩
  have := h.row a h0 h1
  exact h.ent a i h0 h1 i0 (by omega)
 ·
  rintro ⟨⟨h1, h8⟩, ht, hl⟩
  refine ⟨h1, h8, fun a a0 a1 => (ht a a0 a1).1, fun a b a0 a1 b0 b1 => ?_, fun a a0 a1 => (hl a a0 a1).1, fun a a0 a1 => (hl a a0 a1).2.1, fun a b c a0 a1 b0 b1 c0 c1 => (hl a a0 a1).2.2.2 b b0 b1 c c0 c1, fun a a0 a1 => (hl a a0 a1).2.2.1⟩
  have := (ht a a0 a1).1
  exact (ht a a0 a1).2 b b0 (by omega)
theorem isGroup (g : List (List Int)) (hl : g.length ≤ maxLen) (hr : ∀ r ∈ g, r.length ≤ maxLen) : impl_IsGroup.f g = some (B (Grp g)) := by
 have hm := maxLen_le
 rw [B_congr (grp_iff g)]
 (rw [impl_IsGroup.f_eq])
 by_cases c1 : (g.length : Int) < 1 ∨ (g.length : Int) > 8
 ·
  rw [B_neg fun h => by omega]
  by_cases c2 : (g.length : Int) < 1 <;> ((with_reducible repeat (first | refine go_pos (by first | assumption | omega | rfl | exact B_pos (by omega)) ?_ | refine go_neg (by first | assumption | omega | decide | exact B_not (by omega)) ?_ | refine go_bind (by first | assumption | exact impl_order.f_eq _) ?_ | dsimp only)); first | done | (with_reducible rfl) | simp (disch := omega) only [w64] | (show False; done))
 rw [B_congr (show ((1 ≤ g.length ∧ g.length ≤ 8) ∧ Tab g ∧ ∀ a : Int, 0 ≤ a → a < g.length → Law g a) ↔ (Tab g ∧ ∀ a : Int, 0 ≤ a → a < g.length → Law g a) from ⟨fun h => h.2, fun h => ⟨by omega, h⟩⟩)]
 (with_reducible repeat (first | refine go_pos (by first | assumption | omega | rfl | exact B_pos (by omega)) ?_ | refine go_neg (by first | assumption | omega | decide | exact B_not (by omega)) ?_ | refine go_bind (by first | assumption | exact impl_order.f_eq _) ?_ | dsimp only))
 refine scanB g.length (fun i => impl_IsGroup.l0 (g.length : Int) g (g.length : Int) i g) (fun a => (row g a).length = g.length ∧ AllIn g.length (row g a)) _ (fun i h0 h1 _ => ?_) (fun ht => ?_)
 ·
  have ha := areIn g.length (row g i) (rows_len hr h0 h1)
  refine ⟨fun h => ?_, fun h => ?_⟩ <;> (rw [impl_IsGroup.l0_eq])
  ·
   have h1 := h.1
   rw [B_pos h.2] at ha
   ((with_reducible repeat (first | refine go_pos (by first | assumption | omega | rfl | exact B_pos (by omega)) ?_ | refine go_neg (by first | assumption | omega | decide | exact B_not (by omega)) ?_ | refine go_bind (by first | assumption) ?_ | dsimp only)); first | done | (with_reducible rfl) | simp (disch := omega) only [w64] | (show False; done))
  ·
   by_cases h2 : ((row g i).length : Int) = g.length
   ·
    rw [B_neg fun h3 => h ⟨by omega, h3⟩] at ha
    ((with_reducible repeat (first | refine go_pos (by first | assumption | omega | rfl | exact B_pos (by omega)) ?_ | refine go_neg (by first | assumption | omega | decide | exact B_not (by omega)) ?_ | refine go_bind (by first | assumption) ?_ | dsimp only)); first | done | (with_reducible rfl) | simp (disch := omega) only [w64] | (show False; done))
   ·
    ((with_reducible repeat (first | refine go_pos (by first | assumption | omega | rfl | exact B_pos (by omega)) ?_ | refine go_neg (by first | assumption | omega | decide | exact B_not (by omega)) ?_ | refine go_bind (by first | assumption) ?_ | dsimp only)); first | done | (with_reducible rfl) | simp (disch := omega) only [w64] | (show False; done))
 (rw [impl_IsGroup.l0_eq])
 (with_reducible repeat (first | refine go_pos (by first | assumption | omega | rfl | exact B_pos (by omega)) ?_ | refine go_neg (by first | assumption | omega | decide | exact B_not (by omega)) ?_ | refine go_bind (by first | assumption) ?_ | dsimp only))
 refine scanT g.length (fun i => impl_IsGroup.l1 (g.length : Int) (g.length : Int) i g) (Law g) (fun a a0 a1 _ => ?_) (fun _ => ?_)
 rotate_left
 ·
  (rw [impl_IsGroup.l1_eq])
  ((with_reducible repeat (first | refine go_pos (by first | assumption | omega | rfl | exact B_pos (by omega)) ?_ | refine go_neg (by first | assumption | omega | decide | exact B_not (by omega)) ?_ | refine go_bind (by first | assumption) ?_ | dsimp only)); first | done | (with_reducible rfl) | simp (disch := omega) only [w64] | (show False; done))
 have hlen : ∀ x : Int, 0 ≤ x → x < g.length → ((row g x).length : Int) = g.length := fun x x0 x1 => by rw [(ht x x0 x1).1]
 have hent : ∀ x y : Int, 0 ≤ x → x < g.length → 0 ≤ y → y < g.length → 0 ≤ T g x y ∧ T g x y < g.length := fun x y x0 x1 y0 y1 => (ht x x0 x1).2 y y0 (by rw [hlen x x0 x1]; exact y1)
 have l0 := hlen 0 (by omega) (by omega)
 have la := hlen a a0 a1
 have hc := contains_ (row g a) 0 (rows_len hr a0 a1)
 rw [B_congr (show (∃ i : Int, 0 ≤ i ∧ i < (row g a).length ∧ rd (row g a) i = 0) ↔ ∃ b : Int, 0 ≤ b ∧ b < g.length ∧ T g a b = 0 by rw [la]; exact Iff.rfl)] at hc
 by_cases h2 : T g 0 a = a
 rotate_left
 ·
  refine ⟨fun h => absurd h.1 h2, fun _ => ?_⟩
  (rw [impl_IsGroup.l1_eq])
  ((with_reducible repeat (first | refine go_pos (by first | assumption | omega | rfl | exact B_pos (by omega)) ?_ | refine go_neg (by first | assumption | omega | decide | exact B_not (by omega)) ?_ | refine go_bind (by first | assumption) ?_ | dsimp only)); first | done | (with_reducible rfl) | simp (disch := omega) only [w64] | (show False; done))
 by_cases h3 : T g a 0 = a
 rotate_left
 ·
  refine ⟨fun h => absurd h.2.1 h3, fun _ => ?_⟩
  (rw [impl_IsGroup.l1_eq])
  ((with_reducible repeat (first | refine go_pos (by first | assumption | omega | rfl | exact B_pos (by omega)) ?_ | refine go_neg (by first | assumption | omega | decide | exact B_not (by omega)) ?_ | refine go_bind (by first | assumption) ?_ | dsimp only)); first | done | (with_reducible rfl) | simp (disch := omega) only [w64] | (show False; done))
 by_cases h4 : ∃ b : Int, 0 ≤ b ∧ b < g.length ∧ T g a b = 0
 rotate_left
 ·
  refine ⟨fun h => absurd h.2.2.1 h4, fun _ => ?_⟩
  rw [B_neg h4] at hc
  (rw [impl_IsGroup.l1_eq])
  ((with_reducible repeat (first | refine go_pos (by first | assumption | omega | rfl | exact B_pos (by omega)) ?_ | refine go_neg (by first | assumption | omega | decide | exact B_not (by omega)) ?_ | refine go_bind (by first | assumption) ?_ | dsimp only)); first | done | (with_reducible rfl) | simp (disch := omega) only [w64] | (show False; done))
 rw [B_pos h4] at hc
 have inner := scanI g.length (fun b => impl_IsGroup.l2 (g.length : Int) a (g.length : Int) a (g.length : Int) b g) (fun b => ∀ c : Int, 0 ≤ c → c < g.length → T g (T g a b) c = T g a (T g b c)) (some false) (impl_IsGroup.l1 (g.length : Int) (g.length : Int) (a + 1) g)
  (fun b b0 b1 _ => by
   obtain ⟨e0, e1⟩ := hent a b a0 a1 b0 b1
   have le := hlen _ e0 e1
   have lb := hlen b b0 b1
   have := scanI g.length (fun c => impl_IsGroup.l3 (g.length : Int) a b (g.length : Int) a (g.length : Int) b (g.length : Int) c g) (fun c => T g (T g a b) c = T g a (T g b c)) (some false) (impl_IsGroup.l2 (g.length : Int) a (g.length : Int) a (g.length : Int) (b + 1) g)
    (fun c c0 c1 _ => by
     obtain ⟨f0, f1⟩ := hent b c b0 b1 c0 c1
     refine ⟨fun h => ?_, fun h => ?_⟩ <;> (rw [impl_IsGroup.l3_eq]) <;> ((with_reducible repeat (first | refine go_pos (by first | assumption | omega | rfl | exact B_pos (by omega)) ?_ | refine go_neg (by first | assumption | omega | decide | exact B_not (by omega)) ?_ | refine go_bind (by first | assumption) ?_ | dsimp only)); first | done | (with_reducible rfl) | simp (disch := omega) only [w64] | (show False; done))) (fun _ => by (rw [impl_IsGroup.l3_eq]); ((with_reducible repeat (first | refine go_pos (by first | assumption | omega | rfl | exact B_pos (by omega)) ?_ | refine go_neg (by first | assumption | omega | decide | exact B_not (by omega)) ?_ | refine go_bind (by first | assumption) ?_ | dsimp only)); first | done | (with_reducible rfl) | simp (disch := omega) only [w64] | (show False; done)))
   refine ⟨fun h => ?_, fun h => ?_⟩ <;> (rw [impl_IsGroup.l2_eq])
   ·
    (with_reducible repeat (first | refine go_pos (by first | assumption | omega | rfl | exact B_pos (by omega)) ?_ | refine go_neg (by first | assumption | omega | decide | exact B_not (by omega)) ?_ | refine go_bind (by first | assumption) ?_ | dsimp only))
    exact this.1 h
   ·
    (with_reducible repeat (first | refine go_pos (by first | assumption | omega | rfl | exact B_pos (by omega)) ?_ | refine go_neg (by first | assumption | omega | decide | exact B_not (by omega)) ?_ | refine go_bind (by first | assumption) ?_ | dsimp only))
    exact this.2 h) (fun _ => by (rw [impl_IsGroup.l2_eq]); ((with_reducible repeat (first | refine go_pos (by first | assumption | omega | rfl | exact B_pos (by omega)) ?_ | refine go_neg (by first | assumption | omega | decide | exact B_not (by omega)) ?_ | refine go_bind (by first | assumption) ?_ | dsimp only)); first | done | (with_reducible rfl) | simp (disch := omega) only [w64] | (show False; done)))
 refine ⟨fun h => ?_, fun h => ?_⟩ <;> (rw [impl_IsGroup.l1_eq]) <;> (with_reducible repeat (first | refine go_pos (by first | assumption | omega | rfl | exact B_pos (by omega)) ?_ | refine go_neg (by first | assumption | omega | decide | exact B_not (by omega)) ?_ | refine go_bind (by first | assumption) ?_ | dsimp only))
 ·
  exact inner.1 h.2.2.2
 ·
  exact inner.2 fun k => h ⟨h2, h3, h4, k⟩
end Go.Proofs.Ytjknpaplgclflaa.V
namespace Go.Proofs.Ytjknpaplgclflaa.V
open Go.RowKit Go.Proofs.Ytjknpaplgclflaa.D Go.Proofs.Ytjknpaplgclflaa.P
theorem In_ (x lo hi : Int) : spec_l01In.f x lo hi = some (B (lo ≤ x ∧ x ≤ hi)) := by
 rw [spec_l01In.f_eq]
 by_cases h : x ≥ lo
 ·
  rw [if_pos h, B_decide, B_congr (show x ≤ hi ↔ (lo ≤ x ∧ x ≤ hi) from ⟨fun h' => ⟨h, h'⟩, fun h' => h'.2⟩)]
 ·
  rw [if_neg h, B_neg (fun h' => h h'.1)]
def LawS (g : List (List Int)) (a : Int) : Prop := T g 0 a = a ∧ T g a 0 = a ∧ (∀ b : Int, 0 ≤ b → b < g.length → ∀ c : Int, 0 ≤ c → c < g.length → T g (T g a b) c = T g a (T g b c)) ∧ ∃ b : Int, 0 ≤ b ∧ b < g.length ∧ T g a b = 0 ∧ T g b a = 0
theorem grp_iffS (g : List (List Int)) : Grp g ↔ (1 ≤ g.length ∧ g.length ≤ 8) ∧ Tab g ∧ ∀ a : Int, 0 ≤ a → a < g.length → LawS g a := by
 rw [grp_iff]
 constructor
 ·
  intro h
  have hg := (grp_iff g).2 h
  refine ⟨h.1, h.2.1, fun a a0 a1 => ?_⟩
  obtain ⟨h1, h2, _, h4⟩ := h.2.2 a a0 a1
  exact ⟨h1, h2, h4, hg.inv2 a0 a1⟩
 ·
  rintro ⟨h1, h2, h3⟩
  refine ⟨h1, h2, fun a a0 a1 => ?_⟩
  obtain ⟨k1, k2, k3, b, b0, b1, hb, _⟩ := h3 a a0 a1
  exact ⟨k1, k2, ⟨b, b0, b1, hb⟩, k3⟩
theorem Is_ (g : List (List Int)) : spec_l01Is.f g = some (B (Grp g)) := by
 rw [B_congr (grp_iffS g)]
 (rw [spec_l01Is.f_eq])
 by_cases c1 : 1 ≤ (g.length : Int) ∧ (g.length : Int) ≤ 8
 rotate_left
 ·
  rw [B_neg fun h => c1 (by omega)]
  ((with_reducible repeat (first | refine go_pos (by first | assumption | omega | rfl | exact B_pos (by omega)) ?_ | refine go_neg (by first | assumption | omega | decide | exact B_not (by omega)) ?_ | refine go_bind (by first | assumption | exact In_ _ _ _) ?_ | dsimp only)); first | done | (with_reducible rfl) | simp (disch := omega) only [w64] | (show False; done))
 rw [B_congr (show ((1 ≤ g.length ∧ g.length ≤ 8) ∧ Tab g ∧ ∀ a : Int, 0 ≤ a → a < g.length → LawS g a) ↔ (Tab g ∧ ∀ a : Int, 0 ≤ a → a < g.length → LawS g a) from ⟨fun h => h.2, fun h => ⟨by omega, h⟩⟩)]
 (with_reducible repeat (first | refine go_pos (by first | assumption | omega | rfl | exact B_pos (by omega)) ?_ | refine go_neg (by first | assumption | omega | decide | exact B_not (by omega)) ?_ | refine go_bind (by first | assumption | exact In_ _ _ _) ?_ | dsimp only))
 have hw1 : wrapI ((g.length : Int) - 1) = g.length - 1 := w64 (by omega) (by omega)
 refine scanB g.length (fun i => spec_l01Is.l0 (g.length : Int) i g) (fun a => (row g a).length = g.length ∧ AllIn g.length (row g a)) (∀ a : Int, 0 ≤ a → a < g.length → LawS g a) (fun a a0 a1 _ => ?_) (fun ht => ?_)
 ·
  by_cases h2 : ((row g a).length : Int) = g.length
  rotate_left
  ·
   refine ⟨fun h => absurd h.1 (by omega), fun _ => ?_⟩
   (rw [spec_l01Is.l0_eq])
   ((with_reducible repeat (first | refine go_pos (by first | assumption | omega | rfl | exact B_pos (by omega)) ?_ | refine go_neg (by first | assumption | omega | decide | exact B_not (by omega)) ?_ | refine go_bind (by first | assumption) ?_ | dsimp only)); first | done | (with_reducible rfl) | simp (disch := omega) only [w64] | (show False; done))
  have inner := scanI g.length (fun b => spec_l01Is.l1 (g.length : Int) a b g) (fun b => 0 ≤ T g a b ∧ T g a b < g.length) (some false) (spec_l01Is.l0 (g.length : Int) (a + 1) g)
   (fun b b0 b1 _ => by refine ⟨fun h => ?_, fun h => ?_⟩ <;> (rw [spec_l01Is.l1_eq, hw1]) <;> ((with_reducible repeat (first | refine go_pos (by first | assumption | omega | rfl | exact B_pos (by omega)) ?_ | refine go_neg (by first | assumption | omega | decide | exact B_not (by omega)) ?_ | refine go_bind (by first | assumption | exact In_ _ _ _) ?_ | dsimp only)); first | done | (with_reducible rfl) | simp (disch := omega) only [w64] | (show False; done))) (fun _ => by (rw [spec_l01Is.l1_eq]); ((with_reducible repeat (first | refine go_pos (by first | assumption | omega | rfl | exact B_pos (by omega)) ?_ | refine go_neg (by first | assumption | omega | decide | exact B_not (by omega)) ?_ | refine go_bind (by first | assumption) ?_ | dsimp only)); first | done | (with_reducible rfl) | simp (disch := omega) only [w64] | (show False; done)))
  refine ⟨fun h => ?_, fun h => ?_⟩ <;> (rw [spec_l01Is.l0_eq]) <;> (with_reducible repeat (first | refine go_pos (by first | assumption | omega | rfl | exact B_pos (by omega)) ?_ | refine go_neg (by first | assumption | omega | decide | exact B_not (by omega)) ?_ | refine go_bind (by first | assumption) ?_ | dsimp only))
  ·
   exact inner.1 fun j j0 j1 => h.2 j j0 (by omega)
  ·
   exact inner.2 fun k => h ⟨by omega, fun j j0 j1 => k j j0 (by omega)⟩
 (rw [spec_l01Is.l0_eq])
 (with_reducible repeat (first | refine go_pos (by first | assumption | omega | rfl | exact B_pos (by omega)) ?_ | refine go_neg (by first | assumption | omega | decide | exact B_not (by omega)) ?_ | refine go_bind (by first | assumption) ?_ | dsimp only))
 refine scanT g.length (fun i => spec_l01Is.l2 (g.length : Int) i g) (LawS g) (fun a a0 a1 _ => ?_) (fun _ => by (rw [spec_l01Is.l2_eq]); ((with_reducible repeat (first | refine go_pos (by first | assumption | omega | rfl | exact B_pos (by omega)) ?_ | refine go_neg (by first | assumption | omega | decide | exact B_not (by omega)) ?_ | refine go_bind (by first | assumption) ?_ | dsimp only)); first | done | (with_reducible rfl) | simp (disch := omega) only [w64] | (show False; done)))
 have hlen : ∀ x : Int, 0 ≤ x → x < g.length → ((row g x).length : Int) = g.length := fun x x0 x1 => by rw [(ht x x0 x1).1]
 have hent : ∀ x y : Int, 0 ≤ x → x < g.length → 0 ≤ y → y < g.length → 0 ≤ T g x y ∧ T g x y < g.length := fun x y x0 x1 y0 y1 => (ht x x0 x1).2 y y0 (by rw [hlen x x0 x1]; exact y1)
 have l0 := hlen 0 (by omega) (by omega)
 have la := hlen a a0 a1
 by_cases h2 : T g 0 a = a
 rotate_left
 ·
  refine ⟨fun h => absurd h.1 h2, fun _ => ?_⟩
  (rw [spec_l01Is.l2_eq])
  ((with_reducible repeat (first | refine go_pos (by first | assumption | omega | rfl | exact B_pos (by omega)) ?_ | refine go_neg (by first | assumption | omega | decide | exact B_not (by omega)) ?_ | refine go_bind (by first | assumption) ?_ | dsimp only)); first | done | (with_reducible rfl) | simp (disch := omega) only [w64] | (show False; done))
 by_cases h3 : T g a 0 = a
 rotate_left
 ·
  refine ⟨fun h => absurd h.2.1 h3, fun _ => ?_⟩
  (rw [spec_l01Is.l2_eq])
  ((with_reducible repeat (first | refine go_pos (by first | assumption | omega | rfl | exact B_pos (by omega)) ?_ | refine go_neg (by first | assumption | omega | decide | exact B_not (by omega)) ?_ | refine go_bind (by first | assumption) ?_ | dsimp only)); first | done | (with_reducible rfl) | simp (disch := omega) only [w64] | (show False; done))
 let Fd : Int → Prop := fun b => ∃ j : Int, 0 ≤ j ∧ j < b ∧ T g a j = 0 ∧ T g j a = 0
 have fd0 : B (Fd 0) = false := B_neg fun ⟨j, j0, j1, _⟩ => by omega
 have inner := scan g.length (fun b => spec_l01Is.l3 (g.length : Int) a (B (Fd b)) b g) (fun b => ∀ c : Int, 0 ≤ c → c < g.length → T g (T g a b) c = T g a (T g b c)) (some false) (fun b b0 b1 _ => by
  obtain ⟨e0, e1⟩ := hent a b a0 a1 b0 b1
  have le := hlen _ e0 e1
  have lb := hlen b b0 b1
  have toj : spec_l01Is.l3 (g.length : Int) a (B (Fd b)) b g = spec_l01Is.l4 (g.length : Int) a (B (Fd (b + 1))) b 0 g := by
   by_cases k1 : Fd b
   ·
    rw [B_pos k1, B_pos (show Fd (b + 1) from by obtain ⟨j, j0, j1, h⟩ := k1; exact ⟨j, j0, by omega, h⟩)]
    (rw [spec_l01Is.l3_eq])
    ((with_reducible repeat (first | refine go_pos (by first | assumption | omega | rfl | exact B_pos (by omega)) ?_ | refine go_neg (by first | assumption | omega | decide | exact B_not (by omega)) ?_ | refine go_bind (by first | assumption) ?_ | dsimp only)); first | done | (with_reducible rfl) | simp (disch := omega) only [w64] | (show False; done))
   ·
    rw [B_neg k1]
    by_cases k2 : T g a b = 0
    ·
     have e : B (Fd (b + 1)) = decide (T g b a = 0) := by
      by_cases k3 : T g b a = 0
      ·
       rw [B_pos ⟨b, b0, by omega, k2, k3⟩]; simp [k3]
      ·
       rw [B_neg]
       ·
        simp [k3]
       ·
        rintro ⟨j, j0, j1, ja, jb⟩
        by_cases ej : j = b
        ·
         subst ej; exact k3 jb
        ·
         exact k1 ⟨j, j0, by omega, ja, jb⟩
     rw [e]
     (rw [spec_l01Is.l3_eq])
     ((with_reducible repeat (first | refine go_pos (by first | assumption | omega | rfl | exact B_pos (by omega)) ?_ | refine go_neg (by first | assumption | omega | decide | exact B_not (by omega)) ?_ | refine go_bind (by first | assumption) ?_ | dsimp only)); first | done | (with_reducible rfl) | simp (disch := omega) only [w64] | (show False; done))
    ·
     rw [B_neg (show ¬ Fd (b + 1) from by
      rintro ⟨j, j0, j1, ja, jb⟩
      by_cases ej : j = b
      ·
       subst ej; exact k2 ja
      ·
       exact k1 ⟨j, j0, by omega, ja, jb⟩)]
     (rw [spec_l01Is.l3_eq])
     ((with_reducible repeat (first | refine go_pos (by first | assumption | omega | rfl | exact B_pos (by omega)) ?_ | refine go_neg (by first | assumption | omega | decide | exact B_not (by omega)) ?_ | refine go_bind (by first | assumption) ?_ | dsimp only)); first | done | (with_reducible rfl) | simp (disch := omega) only [w64] | (show False; done))
  have inner4 := scanI g.length (fun c => spec_l01Is.l4 (g.length : Int) a (B (Fd (b + 1))) b c g) (fun c => T g (T g a b) c = T g a (T g b c)) (some false) (spec_l01Is.l3 (g.length : Int) a (B (Fd (b + 1))) (b + 1) g) (fun c c0 c1 _ => by
   obtain ⟨f0, f1⟩ := hent b c b0 b1 c0 c1
   refine ⟨fun h => ?_, fun h => ?_⟩ <;> (rw [spec_l01Is.l4_eq]) <;> ((with_reducible repeat (first | refine go_pos (by first | assumption | omega | rfl | exact B_pos (by omega)) ?_ | refine go_neg (by first | assumption | omega | decide | exact B_not (by omega)) ?_ | refine go_bind (by first | assumption) ?_ | dsimp only)); first | done | (with_reducible rfl) | simp (disch := omega) only [w64] | (show False; done))) (fun _ => by (rw [spec_l01Is.l4_eq]); ((with_reducible repeat (first | refine go_pos (by first | assumption | omega | rfl | exact B_pos (by omega)) ?_ | refine go_neg (by first | assumption | omega | decide | exact B_not (by omega)) ?_ | refine go_bind (by first | assumption) ?_ | dsimp only)); first | done | (with_reducible rfl) | simp (disch := omega) only [w64] | (show False; done)))
  exact ⟨fun h => toj.trans (inner4.1 h), fun h => toj.trans (inner4.2 h)⟩)
 have st : spec_l01Is.l2 (g.length : Int) a g = spec_l01Is.l3 (g.length : Int) a (B (Fd 0)) 0 g := by
  rw [fd0]
  (rw [spec_l01Is.l2_eq])
  ((with_reducible repeat (first | refine go_pos (by first | assumption | omega | rfl | exact B_pos (by omega)) ?_ | refine go_neg (by first | assumption | omega | decide | exact B_not (by omega)) ?_ | refine go_bind (by first | assumption) ?_ | dsimp only)); first | done | (with_reducible rfl) | simp (disch := omega) only [w64] | (show False; done))
 rw [st]
 rcases inner with ⟨h5, h6⟩ | ⟨b, b0, b1, _, h5, _, h6⟩
 ·
  simp only [h6]
  by_cases h7 : Fd g.length
  ·
   refine ⟨fun _ => ?_, fun h => absurd ⟨h2, h3, h5, h7⟩ h⟩
   rw [B_pos h7]
   (rw [spec_l01Is.l3_eq])
   ((with_reducible repeat (first | refine go_pos (by first | assumption | omega | rfl | exact B_pos (by omega)) ?_ | refine go_neg (by first | assumption | omega | decide | exact B_not (by omega)) ?_ | refine go_bind (by first | assumption) ?_ | dsimp only)); first | done | (with_reducible rfl) | simp (disch := omega) only [w64] | (show False; done))
  ·
   refine ⟨fun h => absurd h.2.2.2 h7, fun h => ?_⟩
   rw [B_neg h7]
   (rw [spec_l01Is.l3_eq])
   ((with_reducible repeat (first | refine go_pos (by first | assumption | omega | rfl | exact B_pos (by omega)) ?_ | refine go_neg (by first | assumption | omega | decide | exact B_not (by omega)) ?_ | refine go_bind (by first | assumption) ?_ | dsimp only)); first | done | (with_reducible rfl) | simp (disch := omega) only [w64] | (show False; done))
 ·
  exact ⟨fun h => absurd (h.2.2.1 b b0 b1) h5, fun _ => h6⟩
theorem gcd0 (y : Nat) : ∀ x : Nat, impl_gcd.l0 (x : Int) (y : Int) = some ((Nat.gcd x y : Nat) : Int) := by
 induction y using Nat.strongRecOn with
 | _ y ih =>
  intro x
  (rw [impl_gcd.l0_eq])
  by_cases h : y = 0
  ·
   subst h
   simp
  ·
   have e : Int.tmod (x : Int) (y : Int) = ((x % y : Nat) : Int) := by rw [Int.ofNat_tmod]
   have := ih (x % y) (Nat.mod_lt _ (by omega)) y
   rw [show Nat.gcd y (x % y) = Nat.gcd x y by rw [Nat.gcd_comm x y, Nat.gcd_rec y x, Nat.gcd_comm]] at this
   rw [e]
   (with_reducible repeat (first | refine go_pos (by first | assumption | omega | rfl | exact B_pos (by omega)) ?_ | refine go_neg (by first | assumption | omega | decide | exact B_not (by omega)) ?_ | refine go_bind (by first | assumption) ?_ | dsimp only))
   exact this
theorem gcd_ {a b : Int} (ha : 0 ≤ a) (hb : 0 ≤ b) : impl_gcd.f a b = some ((Int.gcd a b : Nat) : Int) := by
 obtain ⟨x, rfl⟩ := Int.eq_ofNat_of_zero_le ha
 obtain ⟨y, rfl⟩ := Int.eq_ofNat_of_zero_le hb
 have := gcd0 y x
 rw [impl_gcd.f_eq]
 simpa [Int.gcd] using this
theorem Gcd0 (y : Nat) : ∀ x : Nat, x ≤ 9223372036854775807 → y ≤ 9223372036854775807 → spec_l01Gcd.l0 (x : Int) (y : Int) = some ((Nat.gcd x y : Nat) : Int) := by
 induction y using Nat.strongRecOn with
 | _ y ih =>
  intro x hx hy
  (rw [spec_l01Gcd.l0_eq])
  by_cases h : y = 0
  ·
   subst h
   have hw : wrapI (0 - (x : Int)) = -(x : Int) := by rw [w64 (by omega) (by omega)]; omega
   rw [hw, if_pos (by simp), if_neg (by omega)]
   simp
  ·
   have e : Int.tmod (x : Int) (y : Int) = ((x % y : Nat) : Int) := by rw [Int.ofNat_tmod]
   have hlt := Nat.mod_lt x (show y > 0 by omega)
   have := ih (x % y) hlt y hy (by omega)
   rw [show Nat.gcd y (x % y) = Nat.gcd x y by rw [Nat.gcd_comm x y, Nat.gcd_rec y x, Nat.gcd_comm]] at this
   rw [e]
   (with_reducible repeat (first | refine go_pos (by first | assumption | omega | rfl | exact B_pos (by omega)) ?_ | refine go_neg (by first | assumption | omega | decide | exact B_not (by omega)) ?_ | refine go_bind (by first | assumption) ?_ | dsimp only))
   exact this
theorem Gcd_ {a b : Int} (ha : 0 ≤ a) (hb : 0 ≤ b) (ha' : a ≤ 9223372036854775807) (hb' : b ≤ 9223372036854775807) : spec_l01Gcd.f a b = some ((Int.gcd a b : Nat) : Int) := by
 obtain ⟨x, rfl⟩ := Int.eq_ofNat_of_zero_le ha
 obtain ⟨y, rfl⟩ := Int.eq_ofNat_of_zero_le hb
 have := Gcd0 y x (by omega) (by omega)
 rw [spec_l01Gcd.f_eq]
 simpa [Int.gcd] using this
theorem Grp.foldl_in {g : List (List Int)} (hg : Grp g) : ∀ (xs : List Int) (x : Int), AllIn g.length xs → 0 ≤ x → x < g.length → 0 ≤ xs.foldl (T g) x ∧ xs.foldl (T g) x < g.length := by
 intro xs
 induction xs with
 | nil => exact fun x _ a b => ⟨a, b⟩
 | cons y ys ih =>
  intro x hx x0 x1
  obtain ⟨y0, y1⟩ := hx.mem (List.mem_cons_self ..)
  obtain ⟨z0, z1⟩ := hg.ent x y x0 x1 y0 y1
  exact ih _ (allIn_of fun z hz => hx.mem (List.mem_cons_of_mem _ hz)) z0 z1
theorem take_rd {xs : List Int} {m : Nat} (h : m < xs.length) : xs.take (m + 1) = xs.take m ++ [rd xs m] := by
 rw [List.take_succ_eq_append_getElem h, rd_get h]
theorem times {g : List (List Int)} (hg : Grp g) (xs : List Int) (hx : AllIn g.length xs) (hl : xs.length ≤ maxLen) : impl_Group_times.f g xs = some (xs.foldl (T g) 0) := by
 have hm := maxLen_le
 have n1 := hg.n1
 rw [impl_Group_times.f_eq]
 have := up xs.length (fun i => impl_Group_times.l0 ((xs.take i).foldl (T g) 0) xs (xs.length : Int) (i : Int) g) (fun i hi => by
  obtain ⟨z0, z1⟩ := hg.foldl_in (xs.take i) 0 (hx.take i) (by omega) (by omega)
  obtain ⟨y0, y1⟩ := hx i (by omega) (by omega)
  have hr : ((row g ((xs.take i).foldl (T g) 0)).length : Int) = g.length := by rw [hg.row _ z0 z1]
  have hw : wrapI ((i : Int) + 1) = ((i + 1 : Nat) : Int) := by rw [w64 (by omega) (by omega)]; omega
  rw [take_rd hi, List.foldl_append, List.foldl_cons, List.foldl_nil]
  (rw [impl_Group_times.l0_eq, hw])
  ((with_reducible repeat (first | refine go_pos (by first | assumption | omega | rfl | exact B_pos (by omega)) ?_ | refine go_neg (by first | assumption | omega | decide | exact B_not (by omega)) ?_ | refine go_bind (by first | assumption) ?_ | dsimp only)); first | done | (with_reducible rfl) | simp (disch := omega) only [w64] | (show False; done)))
 simp only [List.take_zero, List.foldl_nil, List.take_length, Int.natCast_zero] at this
 rw [this]
 (rw [impl_Group_times.l0_eq])
 ((with_reducible repeat (first | refine go_pos (by first | assumption | omega | rfl | exact B_pos (by omega)) ?_ | refine go_neg (by first | assumption | omega | decide | exact B_not (by omega)) ?_ | refine go_bind (by first | assumption) ?_ | dsimp only)); first | done | (with_reducible rfl) | simp (disch := omega) only [w64] | (show False; done))
theorem times2 {g : List (List Int)} (hg : Grp g) {x y : Int} (x0 : 0 ≤ x) (x1 : x < g.length) (y0 : 0 ≤ y) (y1 : y < g.length) : impl_Group_times.f g [x, y] = some (T g x y) := by
 have := times hg [x, y] (allIn_two x0 x1 y0 y1) (by unfold maxLen; simp)
 simpa [hg.one x x0 x1] using this
end Go.Proofs.Ytjknpaplgclflaa.V
