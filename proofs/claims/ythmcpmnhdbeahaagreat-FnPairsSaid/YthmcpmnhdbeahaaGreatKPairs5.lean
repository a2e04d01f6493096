/- What the proof of the law Pairs stands on, part 5: words, each Go function's Lean function, and that the Go code comes to its answers; no condition. (Packed by wip/myprint/pack.py out of what the kit's printer wrote, its words among it, partly by our patches of it, and out of texts of this session.) -/
import Derived.Test.YthmcpmnhdbeahaaGreatKPairs3
import Derived.Test.YthmcpmnhdbeahaaGreatKPairs4
set_option linter.unusedVariables false
set_option linter.unusedSimpArgs false
namespace Go.Proofs.YthmcpmnhdbeahaaGreat.P
open Go Go.RowKit Go.Proofs.YthmcpmnhdbeahaaGreat.D
noncomputable def spec_l05Numbers.E : Env := { tt := TT, con := [(103, spec_l01In.con)], frz := [], rows := [], live := [(2, [2, 3, 4, 7])], n := 29, pin := 0, nils := [] }
noncomputable def spec_l05Numbers.fn : D.Fn := { body := Tryz.f193.body.getD .skip, res := Tryz.f193.results.toList, ins := [.agg [.v (.sl 27 (.sl 2 (.int .i64)))], .agg [.v (.int .i64), .v (.sl 2 (.int .i64))], .one (.v (.sl 2 (.int .i64)))], outs := [.one (.v .bool)] }
def spec_l05Numbers.enc (y : lsd (flats spec_l05Numbers.fn.outs) × lsd (ios spec_l05Numbers.fn.ins)) : Bool := y.1.1
noncomputable def spec_l05Numbers.f (l0_0 : List (List Int)) (a1_0 : Int) (l1_1 : List Int) (l2 : List Int) : Option Bool := denF spec_l05Numbers.E spec_l05Numbers.fn spec_l05Numbers.enc (l0_0, a1_0, l1_1, l2, ())
noncomputable def spec_l05Numbers.l0 (x2 : List Int) (x7 : Int) (b0_0 : List (List Int)) (b1_0 : Int) (b1_1 : List Int) : Option Bool := denAt spec_l05Numbers.E spec_l05Numbers.fn spec_l05Numbers.enc [1, 0, 1, 0] { fr := [(2, .lf (.sl (.int .i64) x2)), (3, .lf (.box 0 0)), (4, .lf (.box 1 0)), (7, .lf (.int .i64 x7))], ob := [(0, .box 26 false [.sl (.sl 2 (.int .i64)) b0_0]), (1, .box 29 false [.int .i64 b1_0, .sl (.int .i64) b1_1])], nx := 2 }
set_option maxRecDepth 100000 in
theorem spec_l05Numbers.f_eq (l0_0 : List (List Int)) (a1_0 : Int) (l1_1 : List Int) (l2 : List Int) : spec_l05Numbers.f l0_0 a1_0 l1_1 l2 = spec_l05Numbers.l0 l2 0 l0_0 a1_0 l1_1 := by kernel_rfl
set_option maxRecDepth 100000 in
theorem spec_l05Numbers.l0_eq (x2 : List Int) (x7 : Int) (b0_0 : List (List Int)) (b1_0 : Int) (b1_1 : List Int) : spec_l05Numbers.l0 x2 x7 b0_0 b1_0 b1_1 = if x7 < (x2.length : Int) then (if 0 ≤ x7 then (if x7 < (x2.length : Int) then ((spec_l01In.f (rd x2 x7) 0 (wrapI (b1_0 - 1))).bind fun t21 => if t21 = true then (spec_l05Numbers.l0 x2 (wrapI (x7 + 1)) b0_0 b1_0 b1_1) else (some false)) else none) else none) else (some (decide ((x2.length : Int) = (b0_0.length : Int)))) := (loop_unfold _ _ _ _).trans (by kernel_rfl)
noncomputable def spec_l05Numbers.con : Con := ⟨spec_l05Numbers.fn.ins, spec_l05Numbers.fn.outs, Bool, fun x => spec_l05Numbers.f x.1 x.2.1 x.2.2.1 x.2.2.2.1, fun r => ((r, ()), (()))⟩
theorem spec_l05Numbers.valid : Valid Tryz.prog 193 spec_l05Numbers.con := fn_valid (f := spec_l05Numbers.fn) (E := spec_l05Numbers.E) (enc := spec_l05Numbers.enc) ⟨ttOk, (conCons spec_l01In.valid conNil)⟩ (Checked.mixed Tryz.checked) ⟨Tryz.func193, by kernel_rfl, by kernel_rfl, by kernel_rfl, by kernel_rfl, by decide, by kernel_rfl, by kernel_rfl⟩ (fun _ => rfl)
end Go.Proofs.YthmcpmnhdbeahaaGreat.P
namespace Go.Proofs.YthmcpmnhdbeahaaGreat.P
open Go Go.RowKit Go.Proofs.YthmcpmnhdbeahaaGreat.D
noncomputable def spec_l05Code.E : Env := { tt := TT, con := [(109, spec_l01Is.con), (110, spec_l02Is.con), (193, spec_l05Numbers.con)], frz := [], rows := [], live := [], n := 23, pin := 0, nils := [] }
noncomputable def spec_l05Code.fn : D.Fn := { body := Tryz.f126.body.getD .skip, res := Tryz.f126.results.toList, ins := [.agg [.v (.sl 27 (.sl 2 (.int .i64)))], .agg [.v (.int .i64), .v (.sl 2 (.int .i64))], .one (.v (.sl 2 (.int .i64)))], outs := [.one (.v (.int .i64))] }
def spec_l05Code.enc (y : lsd (flats spec_l05Code.fn.outs) × lsd (ios spec_l05Code.fn.ins)) : Int := y.1.1
noncomputable def spec_l05Code.f (l0_0 : List (List Int)) (a1_0 : Int) (l1_1 : List Int) (l2 : List Int) : Option Int := denF spec_l05Code.E spec_l05Code.fn spec_l05Code.enc (l0_0, a1_0, l1_1, l2, ())
set_option maxRecDepth 100000 in
theorem spec_l05Code.f_eq (l0_0 : List (List Int)) (a1_0 : Int) (l1_1 : List Int) (l2 : List Int) : spec_l05Code.f l0_0 a1_0 l1_1 l2 = (spec_l01Is.f l0_0).bind fun t9 => if t9 = true then ((spec_l02Is.f l0_0 a1_0 l1_1).bind fun t14 => if t14 = true then ((spec_l05Numbers.f l0_0 a1_0 l1_1 l2).bind fun t21 => if t21 = true then (some 0) else (some 2)) else (some 1)) else (some 1) := by kernel_rfl
noncomputable def spec_l05Code.con : Con := ⟨spec_l05Code.fn.ins, spec_l05Code.fn.outs, Int, fun x => spec_l05Code.f x.1 x.2.1 x.2.2.1 x.2.2.2.1, fun r => ((r, ()), (()))⟩
theorem spec_l05Code.valid : Valid Tryz.prog 126 spec_l05Code.con := fn_valid (f := spec_l05Code.fn) (E := spec_l05Code.E) (enc := spec_l05Code.enc) ⟨ttOk, (conCons spec_l01Is.valid (conCons spec_l02Is.valid (conCons spec_l05Numbers.valid conNil)))⟩ (Checked.mixed Tryz.checked) ⟨Tryz.func126, by kernel_rfl, by kernel_rfl, by kernel_rfl, by kernel_rfl, by decide, by kernel_rfl, by kernel_rfl⟩ (fun _ => rfl)
end Go.Proofs.YthmcpmnhdbeahaaGreat.P
namespace Go.Proofs.YthmcpmnhdbeahaaGreat.P
open Go Go.RowKit Go.Proofs.YthmcpmnhdbeahaaGreat.D
noncomputable def spec_l05Crossed.E : Env := { tt := TT, con := [(91, spec_l01N.con), (104, spec_l01Mod.con)], frz := [], rows := [], live := [(2, [2, 3, 4, 7]), (5, [2, 3, 4, 7, 8])], n := 51, pin := 0, nils := [] }
noncomputable def spec_l05Crossed.fn : D.Fn := { body := Tryz.f127.body.getD .skip, res := Tryz.f127.results.toList, ins := [.agg [.v (.sl 27 (.sl 2 (.int .i64)))], .agg [.v (.int .i64), .v (.sl 2 (.int .i64))], .one (.v (.sl 2 (.int .i64)))], outs := [.one (.v .bool)] }
def spec_l05Crossed.enc (y : lsd (flats spec_l05Crossed.fn.outs) × lsd (ios spec_l05Crossed.fn.ins)) : Bool := y.1.1
noncomputable def spec_l05Crossed.f (l0_0 : List (List Int)) (a1_0 : Int) (l1_1 : List Int) (l2 : List Int) : Option Bool := denF spec_l05Crossed.E spec_l05Crossed.fn spec_l05Crossed.enc (l0_0, a1_0, l1_1, l2, ())
noncomputable def spec_l05Crossed.l0 (x2 : List Int) (x7 : Int) (b0_0 : List (List Int)) (b1_0 : Int) (b1_1 : List Int) : Option Bool := denAt spec_l05Crossed.E spec_l05Crossed.fn spec_l05Crossed.enc [1, 0, 1, 0] { fr := [(2, .lf (.sl (.int .i64) x2)), (3, .lf (.box 0 0)), (4, .lf (.box 1 0)), (7, .lf (.int .i64 x7))], ob := [(0, .box 26 false [.sl (.sl 2 (.int .i64)) b0_0]), (1, .box 29 false [.int .i64 b1_0, .sl (.int .i64) b1_1])], nx := 2 }
noncomputable def spec_l05Crossed.l1 (x2 : List Int) (x7 : Int) (x8 : Int) (b0_0 : List (List Int)) (b1_0 : Int) (b1_1 : List Int) : Option Bool := denAt spec_l05Crossed.E spec_l05Crossed.fn spec_l05Crossed.enc [1, 0, 1, 0, 0, 1, 0, 0, 1, 0] { fr := [(2, .lf (.sl (.int .i64) x2)), (3, .lf (.box 0 0)), (4, .lf (.box 1 0)), (7, .lf (.int .i64 x7)), (8, .lf (.int .i64 x8))], ob := [(0, .box 26 false [.sl (.sl 2 (.int .i64)) b0_0]), (1, .box 29 false [.int .i64 b1_0, .sl (.int .i64) b1_1])], nx := 2 }
set_option maxRecDepth 100000 in
theorem spec_l05Crossed.f_eq (l0_0 : List (List Int)) (a1_0 : Int) (l1_1 : List Int) (l2 : List Int) : spec_l05Crossed.f l0_0 a1_0 l1_1 l2 = spec_l05Crossed.l0 l2 0 l0_0 a1_0 l1_1 := by kernel_rfl
set_option maxRecDepth 100000 in
theorem spec_l05Crossed.l0_eq (x2 : List Int) (x7 : Int) (b0_0 : List (List Int)) (b1_0 : Int) (b1_1 : List Int) : spec_l05Crossed.l0 x2 x7 b0_0 b1_0 b1_1 = (spec_l01N.f b0_0).bind fun t11 => if x7 < t11 then (spec_l05Crossed.l1 x2 x7 0 b0_0 b1_0 b1_1) else (some true) := (loop_unfold _ _ _ _).trans (by kernel_rfl)
set_option maxRecDepth 100000 in
theorem spec_l05Crossed.l1_eq (x2 : List Int) (x7 : Int) (x8 : Int) (b0_0 : List (List Int)) (b1_0 : Int) (b1_1 : List Int) : spec_l05Crossed.l1 x2 x7 x8 b0_0 b1_0 b1_1 = (spec_l01N.f b0_0).bind fun t17 => if x8 < t17 then (if 0 ≤ x7 then (if x7 < (b0_0.length : Int) then (if 0 ≤ x8 then (if x8 < ((row b0_0 x7).length : Int) then (if 0 ≤ T b0_0 x7 x8 then (if T b0_0 x7 x8 < (x2.length : Int) then (if 0 ≤ x7 then (if x7 < (x2.length : Int) then (if 0 ≤ x7 then (if x7 < (b1_1.length : Int) then (if 0 ≤ x8 then (if x8 < (x2.length : Int) then ((spec_l01Mod.f (wrapI ((rd x2 x7) + (wrapI ((rd b1_1 x7) * (rd x2 x8))))) b1_0).bind fun t49 => if (rd x2 (T b0_0 x7 x8)) = t49 then (spec_l05Crossed.l1 x2 x7 (wrapI (x8 + 1)) b0_0 b1_0 b1_1) else (some false)) else none) else none) else none) else none) else none) else none) else none) else none) else none) else none) else none) else none) else (spec_l05Crossed.l0 x2 (wrapI (x7 + 1)) b0_0 b1_0 b1_1) := (loop_unfold _ _ _ _).trans (by kernel_rfl)
noncomputable def spec_l05Crossed.con : Con := ⟨spec_l05Crossed.fn.ins, spec_l05Crossed.fn.outs, Bool, fun x => spec_l05Crossed.f x.1 x.2.1 x.2.2.1 x.2.2.2.1, fun r => ((r, ()), (()))⟩
theorem spec_l05Crossed.valid : Valid Tryz.prog 127 spec_l05Crossed.con := fn_valid (f := spec_l05Crossed.fn) (E := spec_l05Crossed.E) (enc := spec_l05Crossed.enc) ⟨ttOk, (conCons spec_l01N.valid (conCons spec_l01Mod.valid conNil))⟩ (Checked.mixed Tryz.checked) ⟨Tryz.func127, by kernel_rfl, by kernel_rfl, by kernel_rfl, by kernel_rfl, by decide, by kernel_rfl, by kernel_rfl⟩ (fun _ => rfl)
end Go.Proofs.YthmcpmnhdbeahaaGreat.P
namespace Go.Proofs.YthmcpmnhdbeahaaGreat.P
open Go Go.RowKit Go.Proofs.YthmcpmnhdbeahaaGreat.D
noncomputable def spec_l05Given.E : Env := { tt := TT, con := [(126, spec_l05Code.con), (127, spec_l05Crossed.con)], frz := [], rows := [], live := [], n := 22, pin := 0, nils := [] }
noncomputable def spec_l05Given.fn : D.Fn := { body := Tryz.f90.body.getD .skip, res := Tryz.f90.results.toList, ins := [.agg [.v (.sl 27 (.sl 2 (.int .i64)))], .agg [.v (.int .i64), .v (.sl 2 (.int .i64))], .one (.v (.sl 2 (.int .i64)))], outs := [.one (.v (.int .i64))] }
def spec_l05Given.enc (y : lsd (flats spec_l05Given.fn.outs) × lsd (ios spec_l05Given.fn.ins)) : Int := y.1.1
noncomputable def spec_l05Given.f (l0_0 : List (List Int)) (a1_0 : Int) (l1_1 : List Int) (l2 : List Int) : Option Int := denF spec_l05Given.E spec_l05Given.fn spec_l05Given.enc (l0_0, a1_0, l1_1, l2, ())
set_option maxRecDepth 100000 in
theorem spec_l05Given.f_eq (l0_0 : List (List Int)) (a1_0 : Int) (l1_1 : List Int) (l2 : List Int) : spec_l05Given.f l0_0 a1_0 l1_1 l2 = (spec_l05Code.f l0_0 a1_0 l1_1 l2).bind fun t11 => if t11 = 0 then ((spec_l05Crossed.f l0_0 a1_0 l1_1 l2).bind fun t18 => if t18 = true then (some t11) else (some 5)) else (some t11) := by kernel_rfl
noncomputable def spec_l05Given.con : Con := ⟨spec_l05Given.fn.ins, spec_l05Given.fn.outs, Int, fun x => spec_l05Given.f x.1 x.2.1 x.2.2.1 x.2.2.2.1, fun r => ((r, ()), (()))⟩
theorem spec_l05Given.valid : Valid Tryz.prog 90 spec_l05Given.con := fn_valid (f := spec_l05Given.fn) (E := spec_l05Given.E) (enc := spec_l05Given.enc) ⟨ttOk, (conCons spec_l05Code.valid (conCons spec_l05Crossed.valid conNil))⟩ (Checked.mixed Tryz.checked) ⟨Tryz.func90, by kernel_rfl, by kernel_rfl, by kernel_rfl, by kernel_rfl, by decide, by kernel_rfl, by kernel_rfl⟩ (fun _ => rfl)
end Go.Proofs.YthmcpmnhdbeahaaGreat.P
namespace Go.Proofs.YthmcpmnhdbeahaaGreat.P
open Go Go.RowKit Go.Proofs.YthmcpmnhdbeahaaGreat.D
noncomputable def spec_ComplementOf.E : Env := { tt := TT, con := [(90, spec_l05Given.con), (91, spec_l01N.con)], frz := [], rows := [], live := [(6, [2, 3, 4, 9, 10])], n := 38, pin := 0, nils := [] }
noncomputable def spec_ComplementOf.fn : D.Fn := { body := Tryz.f15.body.getD .skip, res := Tryz.f15.results.toList, ins := [.agg [.v (.sl 27 (.sl 2 (.int .i64)))], .agg [.v (.int .i64), .v (.sl 2 (.int .i64))], .one (.v (.sl 2 (.int .i64)))], outs := [.one (.own 2 true (.int .i64)), .one (.v (.int .i64))] }
def spec_ComplementOf.enc (y : lsd (flats spec_ComplementOf.fn.outs) × lsd (ios spec_ComplementOf.fn.ins)) : (List Int) × Int := (y.1.1, y.1.2.1)
noncomputable def spec_ComplementOf.f (l0_0 : List (List Int)) (a1_0 : Int) (l1_1 : List Int) (l2 : List Int) : Option ((List Int) × Int) := denF spec_ComplementOf.E spec_ComplementOf.fn spec_ComplementOf.enc (l0_0, a1_0, l1_1, l2, ())
noncomputable def spec_ComplementOf.l0 (x2 : List Int) (x10 : Int) (b0_0 : List (List Int)) (b1_0 : Int) (b1_1 : List Int) (r2 : List Int) : Option ((List Int) × Int) := denAt spec_ComplementOf.E spec_ComplementOf.fn spec_ComplementOf.enc [1, 1, 1, 0, 1, 0] { fr := [(2, .lf (.sl (.int .i64) x2)), (3, .lf (.box 0 0)), (4, .lf (.box 1 0)), (9, .lf (.own 2)), (10, .lf (.int .i64 x10))], ob := [(0, .box 26 false [.sl (.sl 2 (.int .i64)) b0_0]), (1, .box 29 false [.int .i64 b1_0, .sl (.int .i64) b1_1]), (2, .row 2 true (.int .i64) r2)], nx := 3 }
set_option maxRecDepth 100000 in
theorem spec_ComplementOf.f_eq (l0_0 : List (List Int)) (a1_0 : Int) (l1_1 : List Int) (l2 : List Int) : spec_ComplementOf.f l0_0 a1_0 l1_1 l2 = (spec_l05Given.f l0_0 a1_0 l1_1 l2).bind fun t14 => if t14 = 0 then (spec_ComplementOf.l0 l2 0 l0_0 a1_0 l1_1 ([] : List Int)) else (some (([] : List Int), t14)) := by kernel_rfl
set_option maxRecDepth 100000 in
theorem spec_ComplementOf.l0_eq (x2 : List Int) (x10 : Int) (b0_0 : List (List Int)) (b1_0 : Int) (b1_1 : List Int) (r2 : List Int) : spec_ComplementOf.l0 x2 x10 b0_0 b1_0 b1_1 r2 = (spec_l01N.f b0_0).bind fun t21 => if x10 < t21 then (if 0 ≤ x10 then (if x10 < (x2.length : Int) then (if r2.length + ([wrapI ((wrapI (b1_0 * x10)) + (rd x2 x10))] : List Int).length ≤ 17592186044416 then (spec_ComplementOf.l0 x2 (wrapI (x10 + 1)) b0_0 b1_0 b1_1 (r2 ++ ([wrapI ((wrapI (b1_0 * x10)) + (rd x2 x10))] : List Int))) else none) else none) else none) else (some (r2, 0)) := (loop_unfold _ _ _ _).trans (by kernel_rfl)
noncomputable def spec_ComplementOf.con : Con := ⟨spec_ComplementOf.fn.ins, spec_ComplementOf.fn.outs, (List Int) × Int, fun x => spec_ComplementOf.f x.1 x.2.1 x.2.2.1 x.2.2.2.1, fun r => ((r.1, r.2, ()), (()))⟩
theorem spec_ComplementOf.valid : Valid Tryz.prog 15 spec_ComplementOf.con := fn_valid (f := spec_ComplementOf.fn) (E := spec_ComplementOf.E) (enc := spec_ComplementOf.enc) ⟨ttOk, (conCons spec_l05Given.valid (conCons spec_l01N.valid conNil))⟩ (Checked.mixed Tryz.checked) ⟨Tryz.func15, by kernel_rfl, by kernel_rfl, by kernel_rfl, by kernel_rfl, by decide, by kernel_rfl, by kernel_rfl⟩ (fun _ => rfl)
end Go.Proofs.YthmcpmnhdbeahaaGreat.P
namespace Go.Proofs.YthmcpmnhdbeahaaGreat.P
open Go Go.RowKit Go.Proofs.YthmcpmnhdbeahaaGreat.D
noncomputable def laws_likeInts.E : Env := { tt := TT, con := [], frz := [], rows := [], live := [(4, [0, 1, 5])], n := 26, pin := 0, nils := [] }
noncomputable def laws_likeInts.fn : D.Fn := { body := Tryz.f16.body.getD .skip, res := Tryz.f16.results.toList, ins := [.one (.v (.sl 2 (.int .i64))), .one (.v (.sl 2 (.int .i64)))], outs := [.one (.v .bool)] }
def laws_likeInts.enc (y : lsd (flats laws_likeInts.fn.outs) × lsd (ios laws_likeInts.fn.ins)) : Bool := y.1.1
noncomputable def laws_likeInts.f (l0 : List Int) (l1 : List Int) : Option Bool := denF laws_likeInts.E laws_likeInts.fn laws_likeInts.enc (l0, l1, ())
noncomputable def laws_likeInts.l0 (x0 : List Int) (x1 : List Int) (x5 : Int) : Option Bool := denAt laws_likeInts.E laws_likeInts.fn laws_likeInts.enc [1, 1, 0, 1, 0] { fr := [(0, .lf (.sl (.int .i64) x0)), (1, .lf (.sl (.int .i64) x1)), (5, .lf (.int .i64 x5))], ob := [], nx := 0 }
set_option maxRecDepth 100000 in
theorem laws_likeInts.f_eq (l0 : List Int) (l1 : List Int) : laws_likeInts.f l0 l1 = if (l0.length : Int) = (l1.length : Int) then (laws_likeInts.l0 l0 l1 0) else (some false) := by kernel_rfl
set_option maxRecDepth 100000 in
theorem laws_likeInts.l0_eq (x0 : List Int) (x1 : List Int) (x5 : Int) : laws_likeInts.l0 x0 x1 x5 = if x5 < (x0.length : Int) then (if 0 ≤ x5 then (if x5 < (x0.length : Int) then (if 0 ≤ x5 then (if x5 < (x1.length : Int) then (if (rd x0 x5) = (rd x1 x5) then (laws_likeInts.l0 x0 x1 (wrapI (x5 + 1))) else (some false)) else none) else none) else none) else none) else (some true) := (loop_unfold _ _ _ _).trans (by kernel_rfl)
noncomputable def laws_likeInts.con : Con := ⟨laws_likeInts.fn.ins, laws_likeInts.fn.outs, Bool, fun x => laws_likeInts.f x.1 x.2.1, fun r => ((r, ()), (()))⟩
theorem laws_likeInts.valid : Valid Tryz.prog 16 laws_likeInts.con := fn_valid (f := laws_likeInts.fn) (E := laws_likeInts.E) (enc := laws_likeInts.enc) ⟨ttOk, conNil⟩ (Checked.mixed Tryz.checked) ⟨Tryz.func16, by kernel_rfl, by kernel_rfl, by kernel_rfl, by kernel_rfl, by decide, by kernel_rfl, by kernel_rfl⟩ (fun _ => rfl)
end Go.Proofs.YthmcpmnhdbeahaaGreat.P
namespace Go.Proofs.YthmcpmnhdbeahaaGreat.P
open Go Go.RowKit Go.Proofs.YthmcpmnhdbeahaaGreat.D
noncomputable def impl_isComplement.E : Env := { tt := TT, con := [(139, impl_order.con), (119, impl_isCrossed.con)], frz := [], rows := [], live := [(3, [3, 4, 7, 11, 12, 13])], n := 43, pin := 0, nils := [] }
noncomputable def impl_isComplement.fn : D.Fn := { body := Tryz.f92.body.getD .skip, res := Tryz.f92.results.toList, ins := [.agg [.v (.sl 27 (.sl 2 (.int .i64)))], .agg [.v (.int .i64), .v (.sl 2 (.int .i64))], .one (.v (.sl 2 (.int .i64)))], outs := [.one (.v .bool)] }
def impl_isComplement.enc (y : lsd (flats impl_isComplement.fn.outs) × lsd (ios impl_isComplement.fn.ins)) : Bool := y.1.1
noncomputable def impl_isComplement.f (l0_0 : List (List Int)) (a1_0 : Int) (l1_1 : List Int) (l2 : List Int) : Option Bool := denF impl_isComplement.E impl_isComplement.fn impl_isComplement.enc (l0_0, a1_0, l1_1, l2, ())
noncomputable def impl_isComplement.l0 (x11 : List Int) (x12 : Int) (x13 : Int) (b0_0 : List (List Int)) (b1_0 : Int) (b1_1 : List Int) (r2 : List Int) : Option Bool := denAt impl_isComplement.E impl_isComplement.fn impl_isComplement.enc [1, 1, 0, 1, 0] { fr := [(3, .lf (.box 0 0)), (4, .lf (.box 1 0)), (7, .lf (.own 2)), (11, .lf (.sl (.int .i64) x11)), (12, .lf (.int .i64 x12)), (13, .lf (.int .i64 x13))], ob := [(0, .box 26 false [.sl (.sl 2 (.int .i64)) b0_0]), (1, .box 29 false [.int .i64 b1_0, .sl (.int .i64) b1_1]), (2, .row 2 true (.int .i64) r2)], nx := 3 }
set_option maxRecDepth 100000 in
theorem impl_isComplement.f_eq (l0_0 : List (List Int)) (a1_0 : Int) (l1_1 : List Int) (l2 : List Int) : impl_isComplement.f l0_0 a1_0 l1_1 l2 = impl_isComplement.l0 l2 (l2.length : Int) 0 l0_0 a1_0 l1_1 ([] : List Int) := by kernel_rfl
set_option maxRecDepth 100000 in
theorem impl_isComplement.l0_eq (x11 : List Int) (x12 : Int) (x13 : Int) (b0_0 : List (List Int)) (b1_0 : Int) (b1_1 : List Int) (r2 : List Int) : impl_isComplement.l0 x11 x12 x13 b0_0 b1_0 b1_1 r2 = if x13 < x12 then (if 0 ≤ x13 then (if x13 < (x11.length : Int) then (if b1_0 = 0 then none else (if (wrapI ((rd x11 x13 : Int).tdiv b1_0)) = x13 then (if b1_0 = 0 then none else (if r2.length + ([(rd x11 x13 : Int).tmod b1_0] : List Int).length ≤ 17592186044416 then (impl_isComplement.l0 x11 x12 (wrapI (x13 + 1)) b0_0 b1_0 b1_1 (r2 ++ ([(rd x11 x13 : Int).tmod b1_0] : List Int))) else none)) else (some false))) else none) else none) else ((impl_order.f b0_0).bind fun t35 => if (r2.length : Int) = t35 then ((impl_isCrossed.f b0_0 b1_0 b1_1 r2).bind fun t41 => some (decide (t41 = true))) else (some false)) := (loop_unfold _ _ _ _).trans (by kernel_rfl)
noncomputable def impl_isComplement.con : Con := ⟨impl_isComplement.fn.ins, impl_isComplement.fn.outs, Bool, fun x => impl_isComplement.f x.1 x.2.1 x.2.2.1 x.2.2.2.1, fun r => ((r, ()), (()))⟩
theorem impl_isComplement.valid : Valid Tryz.prog 92 impl_isComplement.con := fn_valid (f := impl_isComplement.fn) (E := impl_isComplement.E) (enc := impl_isComplement.enc) ⟨ttOk, (conCons impl_order.valid (conCons impl_isCrossed.valid conNil))⟩ (Checked.mixed Tryz.checked) ⟨Tryz.func92, by kernel_rfl, by kernel_rfl, by kernel_rfl, by kernel_rfl, by decide, by kernel_rfl, by kernel_rfl⟩ (fun _ => rfl)
end Go.Proofs.YthmcpmnhdbeahaaGreat.P
namespace Go.Proofs.YthmcpmnhdbeahaaGreat.P
open Go Go.RowKit Go.Proofs.YthmcpmnhdbeahaaGreat.D
noncomputable def impl_IsComplement.E : Env := { tt := TT, con := [(83, impl_pairsCode.con), (92, impl_isComplement.con)], frz := [], rows := [], live := [], n := 20, pin := 0, nils := [] }
noncomputable def impl_IsComplement.fn : D.Fn := { body := Tryz.f17.body.getD .skip, res := Tryz.f17.results.toList, ins := [.agg [.v (.sl 27 (.sl 2 (.int .i64)))], .agg [.v (.int .i64), .v (.sl 2 (.int .i64))], .one (.v (.sl 2 (.int .i64)))], outs := [.one (.v .bool), .one (.v (.int .i64))] }
def impl_IsComplement.enc (y : lsd (flats impl_IsComplement.fn.outs) × lsd (ios impl_IsComplement.fn.ins)) : Bool × Int := (y.1.1, y.1.2.1)
noncomputable def impl_IsComplement.f (l0_0 : List (List Int)) (a1_0 : Int) (l1_1 : List Int) (l2 : List Int) : Option (Bool × Int) := denF impl_IsComplement.E impl_IsComplement.fn impl_IsComplement.enc (l0_0, a1_0, l1_1, l2, ())
set_option maxRecDepth 100000 in
theorem impl_IsComplement.f_eq (l0_0 : List (List Int)) (a1_0 : Int) (l1_1 : List Int) (l2 : List Int) : impl_IsComplement.f l0_0 a1_0 l1_1 l2 = (impl_pairsCode.f l0_0 a1_0 l1_1 l2).bind fun t12 => if t12 = 0 then ((impl_isComplement.f l0_0 a1_0 l1_1 l2).bind fun t19 => some (decide (t19 = true), 0)) else (some (false, t12)) := by kernel_rfl
noncomputable def impl_IsComplement.con : Con := ⟨impl_IsComplement.fn.ins, impl_IsComplement.fn.outs, Bool × Int, fun x => impl_IsComplement.f x.1 x.2.1 x.2.2.1 x.2.2.2.1, fun r => ((r.1, r.2, ()), (()))⟩
theorem impl_IsComplement.valid : Valid Tryz.prog 17 impl_IsComplement.con := fn_valid (f := impl_IsComplement.fn) (E := impl_IsComplement.E) (enc := impl_IsComplement.enc) ⟨ttOk, (conCons impl_pairsCode.valid (conCons impl_isComplement.valid conNil))⟩ (Checked.mixed Tryz.checked) ⟨Tryz.func17, by kernel_rfl, by kernel_rfl, by kernel_rfl, by kernel_rfl, by decide, by kernel_rfl, by kernel_rfl⟩ (fun _ => rfl)
end Go.Proofs.YthmcpmnhdbeahaaGreat.P
namespace Go.Proofs.YthmcpmnhdbeahaaGreat.P
open Go Go.RowKit Go.Proofs.YthmcpmnhdbeahaaGreat.D
noncomputable def impl_mapped.E : Env := { tt := TT, con := [], frz := [], rows := [], live := [(3, [1, 5, 9, 10, 11])], n := 23, pin := 0, nils := [] }
noncomputable def impl_mapped.fn : D.Fn := { body := Tryz.f94.body.getD .skip, res := Tryz.f94.results.toList, ins := [.one (.v (.sl 2 (.int .i64))), .one (.fn [(.int .i64)] (.int .i64))], outs := [.one (.own 2 true (.int .i64))] }
def impl_mapped.enc (y : lsd (flats impl_mapped.fn.outs) × lsd (ios impl_mapped.fn.ins)) : (List Int) := y.1.1
noncomputable def impl_mapped.f (l0 : List Int) (f1 : Int → Option Int) : Option (List Int) := denF impl_mapped.E impl_mapped.fn impl_mapped.enc (l0, fun x => f1 x.1, ())
noncomputable def impl_mapped.l0 (fx1 : Int → Option Int) (x9 : List Int) (x10 : Int) (x11 : Int) (r0 : List Int) : Option (List Int) := denAt impl_mapped.E impl_mapped.fn impl_mapped.enc [1, 1, 0, 1, 0] { fr := [(1, .lf (.fn [(.int .i64)] (.int .i64) (fun x => fx1 x.1))), (5, .lf (.own 0)), (9, .lf (.sl (.int .i64) x9)), (10, .lf (.int .i64 x10)), (11, .lf (.int .i64 x11))], ob := [(0, .row 2 true (.int .i64) r0)], nx := 1 }
set_option maxRecDepth 100000 in
theorem impl_mapped.f_eq (l0 : List Int) (f1 : Int → Option Int) : impl_mapped.f l0 f1 = impl_mapped.l0 f1 l0 (l0.length : Int) 0 ([] : List Int) := by kernel_rfl
set_option maxRecDepth 100000 in
theorem impl_mapped.l0_eq (fx1 : Int → Option Int) (x9 : List Int) (x10 : Int) (x11 : Int) (r0 : List Int) : impl_mapped.l0 fx1 x9 x10 x11 r0 = if x11 < x10 then (if 0 ≤ x11 then (if x11 < (x9.length : Int) then ((fx1 (rd x9 x11)).bind fun t18 => if r0.length + ([t18] : List Int).length ≤ 17592186044416 then (impl_mapped.l0 fx1 x9 x10 (wrapI (x11 + 1)) (r0 ++ ([t18] : List Int))) else none) else none) else none) else (some r0) := (loop_unfold _ _ _ _).trans (by kernel_rfl)
noncomputable def impl_mapped.con : Con := ⟨impl_mapped.fn.ins, impl_mapped.fn.outs, (List Int), fun x => impl_mapped.f x.1 (fun z0 => x.2.1 (z0, ())), fun r => ((r, ()), (()))⟩
theorem impl_mapped.valid : Valid Tryz.prog 94 impl_mapped.con := fn_valid (f := impl_mapped.fn) (E := impl_mapped.E) (enc := impl_mapped.enc) ⟨ttOk, conNil⟩ (Checked.mixed Tryz.checked) ⟨Tryz.func94, by kernel_rfl, by kernel_rfl, by kernel_rfl, by kernel_rfl, by decide, by kernel_rfl, by kernel_rfl⟩ (fun _ => rfl)
end Go.Proofs.YthmcpmnhdbeahaaGreat.P
namespace Go.Proofs.YthmcpmnhdbeahaaGreat.P
open Go Go.RowKit Go.Proofs.YthmcpmnhdbeahaaGreat.D
noncomputable def impl_ConjugateComplement_1.E : Env := { tt := TT, con := [(84, impl_pairProduct.con)], frz := [], rows := [], live := [], n := 16, pin := 0, nils := [] }
noncomputable def impl_ConjugateComplement_1.fn : D.Fn := { body := Tryz.f95.body.getD .skip, res := Tryz.f95.results.toList, ins := [.one (.v (.int .i64)), .ptr true 26 [.v (.sl 27 (.sl 2 (.int .i64)))], .ptr true 29 [.v (.int .i64), .v (.sl 2 (.int .i64))], .ptr true 2 [.v (.int .i64)], .ptr true 2 [.v (.int .i64)]], outs := [.one (.v (.int .i64))] }
def impl_ConjugateComplement_1.enc (y : lsd (flats impl_ConjugateComplement_1.fn.outs) × lsd (ios impl_ConjugateComplement_1.fn.ins)) : Int := y.1.1
noncomputable def impl_ConjugateComplement_1.f (a0 : Int) (l1 : List (List Int)) (a2_0 : Int) (l2_1 : List Int) (a3 : Int) (a4 : Int) : Option Int := denF impl_ConjugateComplement_1.E impl_ConjugateComplement_1.fn impl_ConjugateComplement_1.enc (a0, l1, a2_0, l2_1, a3, a4, ())
set_option maxRecDepth 100000 in
theorem impl_ConjugateComplement_1.f_eq (a0 : Int) (l1 : List (List Int)) (a2_0 : Int) (l2_1 : List Int) (a3 : Int) (a4 : Int) : impl_ConjugateComplement_1.f a0 l1 a2_0 l2_1 a3 a4 = (impl_pairProduct.f l1 a2_0 l2_1 a3 a0).bind fun t13 => (impl_pairProduct.f l1 a2_0 l2_1 t13 a4).bind fun t15 => some t15 := by kernel_rfl
noncomputable def impl_ConjugateComplement_1.con : Con := ⟨impl_ConjugateComplement_1.fn.ins, impl_ConjugateComplement_1.fn.outs, Int, fun x => impl_ConjugateComplement_1.f x.1 x.2.1 x.2.2.1 x.2.2.2.1 x.2.2.2.2.1 x.2.2.2.2.2.1, fun r => ((r, ()), (()))⟩
theorem impl_ConjugateComplement_1.valid : Valid Tryz.prog 95 impl_ConjugateComplement_1.con := fn_valid (f := impl_ConjugateComplement_1.fn) (E := impl_ConjugateComplement_1.E) (enc := impl_ConjugateComplement_1.enc) ⟨ttOk, (conCons impl_pairProduct.valid conNil)⟩ (Checked.mixed Tryz.checked) ⟨Tryz.func95, by kernel_rfl, by kernel_rfl, by kernel_rfl, by kernel_rfl, by decide, by kernel_rfl, by kernel_rfl⟩ (fun _ => rfl)
end Go.Proofs.YthmcpmnhdbeahaaGreat.P
namespace Go.Proofs.YthmcpmnhdbeahaaGreat.P
open Go Go.RowKit Go.Proofs.YthmcpmnhdbeahaaGreat.D
noncomputable def cmp_isNaN_int64.E : Env := { tt := TT, con := [], frz := [], rows := [], live := [], n := 6, pin := 0, nils := [] }
noncomputable def cmp_isNaN_int64.fn : D.Fn := { body := Tryz.f274.body.getD .skip, res := Tryz.f274.results.toList, ins := [.one (.v (.int .i64))], outs := [.one (.v .bool)] }
def cmp_isNaN_int64.enc (y : lsd (flats cmp_isNaN_int64.fn.outs) × lsd (ios cmp_isNaN_int64.fn.ins)) : Bool := y.1.1
noncomputable def cmp_isNaN_int64.f (a0 : Int) : Option Bool := denF cmp_isNaN_int64.E cmp_isNaN_int64.fn cmp_isNaN_int64.enc (a0, ())
set_option maxRecDepth 100000 in
theorem cmp_isNaN_int64.f_eq (a0 : Int) : cmp_isNaN_int64.f a0 = some (!decide (a0 = a0)) := by kernel_rfl
noncomputable def cmp_isNaN_int64.con : Con := ⟨cmp_isNaN_int64.fn.ins, cmp_isNaN_int64.fn.outs, Bool, fun x => cmp_isNaN_int64.f x.1, fun r => ((r, ()), (()))⟩
theorem cmp_isNaN_int64.valid : Valid Tryz.prog 274 cmp_isNaN_int64.con := fn_valid (f := cmp_isNaN_int64.fn) (E := cmp_isNaN_int64.E) (enc := cmp_isNaN_int64.enc) ⟨ttOk, conNil⟩ (Checked.mixed Tryz.checked) ⟨Tryz.func274, by kernel_rfl, by kernel_rfl, by kernel_rfl, by kernel_rfl, by decide, by kernel_rfl, by kernel_rfl⟩ (fun _ => rfl)
end Go.Proofs.YthmcpmnhdbeahaaGreat.P
namespace Go.Proofs.YthmcpmnhdbeahaaGreat.P
open Go Go.RowKit Go.Proofs.YthmcpmnhdbeahaaGreat.D
noncomputable def cmp_Less_int64.E : Env := { tt := TT, con := [(274, cmp_isNaN_int64.con)], frz := [], rows := [], live := [], n := 17, pin := 0, nils := [] }
noncomputable def cmp_Less_int64.fn : D.Fn := { body := Tryz.f239.body.getD .skip, res := Tryz.f239.results.toList, ins := [.one (.v (.int .i64)), .one (.v (.int .i64))], outs := [.one (.v .bool)] }
def cmp_Less_int64.enc (y : lsd (flats cmp_Less_int64.fn.outs) × lsd (ios cmp_Less_int64.fn.ins)) : Bool := y.1.1
noncomputable def cmp_Less_int64.f (a0 : Int) (a1 : Int) : Option Bool := denF cmp_Less_int64.E cmp_Less_int64.fn cmp_Less_int64.enc (a0, a1, ())
set_option maxRecDepth 100000 in
theorem cmp_Less_int64.f_eq (a0 : Int) (a1 : Int) : cmp_Less_int64.f a0 a1 = (cmp_isNaN_int64.f a0).bind fun t6 => if t6 = true then ((cmp_isNaN_int64.f a1).bind fun t9 => if t9 = true then (some (decide (a0 < a1))) else (some true)) else (some (decide (a0 < a1))) := by kernel_rfl
noncomputable def cmp_Less_int64.con : Con := ⟨cmp_Less_int64.fn.ins, cmp_Less_int64.fn.outs, Bool, fun x => cmp_Less_int64.f x.1 x.2.1, fun r => ((r, ()), (()))⟩
theorem cmp_Less_int64.valid : Valid Tryz.prog 239 cmp_Less_int64.con := fn_valid (f := cmp_Less_int64.fn) (E := cmp_Less_int64.E) (enc := cmp_Less_int64.enc) ⟨ttOk, (conCons cmp_isNaN_int64.valid conNil)⟩ (Checked.mixed Tryz.checked) ⟨Tryz.func239, by kernel_rfl, by kernel_rfl, by kernel_rfl, by kernel_rfl, by decide, by kernel_rfl, by kernel_rfl⟩ (fun _ => rfl)
end Go.Proofs.YthmcpmnhdbeahaaGreat.P
namespace Go.Proofs.YthmcpmnhdbeahaaGreat.P
open Go Go.RowKit Go.Proofs.YthmcpmnhdbeahaaGreat.D
noncomputable def slices_insertionSortOrdered_int64.E : Env := { tt := TT, con := [(239, cmp_Less_int64.con)], frz := [], rows := [], live := [(1, [0, 1, 2, 6]), (4, [0, 1, 2, 6, 7])], n := 49, pin := 1, nils := [] }
noncomputable def slices_insertionSortOrdered_int64.fn : D.Fn := { body := Tryz.f233.body.getD .skip, res := Tryz.f233.results.toList, ins := [.one (.own 2 true (.int .i64)), .one (.v (.int .i64)), .one (.v (.int .i64))], outs := [] }
def slices_insertionSortOrdered_int64.enc (y : lsd (flats slices_insertionSortOrdered_int64.fn.outs) × lsd (ios slices_insertionSortOrdered_int64.fn.ins)) : (List Int) := y.2.1
noncomputable def slices_insertionSortOrdered_int64.f (l0 : List Int) (a1 : Int) (a2 : Int) : Option (List Int) := denF slices_insertionSortOrdered_int64.E slices_insertionSortOrdered_int64.fn slices_insertionSortOrdered_int64.enc (l0, a1, a2, ())
noncomputable def slices_insertionSortOrdered_int64.l0 (x1 : Int) (x2 : Int) (x6 : Int) (r0 : List Int) : Option (List Int) := denAt slices_insertionSortOrdered_int64.E slices_insertionSortOrdered_int64.fn slices_insertionSortOrdered_int64.enc [1, 0] { fr := [(0, .lf (.own 0)), (1, .lf (.int .i64 x1)), (2, .lf (.int .i64 x2)), (6, .lf (.int .i64 x6))], ob := [(0, .row 2 true (.int .i64) r0)], nx := 1 }
noncomputable def slices_insertionSortOrdered_int64.l1 (x1 : Int) (x2 : Int) (x6 : Int) (x7 : Int) (r0 : List Int) : Option (List Int) := denAt slices_insertionSortOrdered_int64.E slices_insertionSortOrdered_int64.fn slices_insertionSortOrdered_int64.enc [1, 0, 0, 1, 0, 0, 1, 0] { fr := [(0, .lf (.own 0)), (1, .lf (.int .i64 x1)), (2, .lf (.int .i64 x2)), (6, .lf (.int .i64 x6)), (7, .lf (.int .i64 x7))], ob := [(0, .row 2 true (.int .i64) r0)], nx := 1 }
set_option maxRecDepth 100000 in
theorem slices_insertionSortOrdered_int64.f_eq (l0 : List Int) (a1 : Int) (a2 : Int) : slices_insertionSortOrdered_int64.f l0 a1 a2 = slices_insertionSortOrdered_int64.l0 a1 a2 (wrapI (a1 + 1)) l0 := by kernel_rfl
set_option maxRecDepth 100000 in
theorem slices_insertionSortOrdered_int64.l0_eq (x1 : Int) (x2 : Int) (x6 : Int) (r0 : List Int) : slices_insertionSortOrdered_int64.l0 x1 x2 x6 r0 = if x6 < x2 then (slices_insertionSortOrdered_int64.l1 x1 x2 x6 x6 r0) else (some r0) := (loop_unfold _ _ _ _).trans (by kernel_rfl)
set_option maxRecDepth 100000 in
theorem slices_insertionSortOrdered_int64.l1_eq (x1 : Int) (x2 : Int) (x6 : Int) (x7 : Int) (r0 : List Int) : slices_insertionSortOrdered_int64.l1 x1 x2 x6 x7 r0 = if x7 > x1 then (if 0 ≤ x7 then (if x7 < (r0.length : Int) then (if 0 ≤ x7 then (if x7 < (r0.length : Int) then (if 0 ≤ wrapI (x7 - 1) then (if wrapI (x7 - 1) < (r0.length : Int) then (if 0 ≤ wrapI (x7 - 1) then (if wrapI (x7 - 1) < (r0.length : Int) then ((cmp_Less_int64.f (rd r0 x7) (rd r0 (wrapI (x7 - 1)))).bind fun t29 => if t29 = true then (if 0 ≤ wrapI (x7 - 1) then (if wrapI (x7 - 1) < (r0.length : Int) then (if 0 ≤ wrapI (x7 - 1) then (if wrapI (x7 - 1) < (r0.length : Int) then (if 0 ≤ x7 then (if x7 < (r0.length : Int) then (if 0 ≤ x7 then (if x7 < (r0.length : Int) then (if 0 ≤ x7 then (if x7 < (r0.length : Int) then (if 0 ≤ x7 then (if x7 < (r0.length : Int) then (if 0 ≤ wrapI (x7 - 1) then (if wrapI (x7 - 1) < ((r0.set (x7 : Int).toNat (rd r0 (wrapI (x7 - 1)))).length : Int) then (if 0 ≤ wrapI (x7 - 1) then (if wrapI (x7 - 1) < ((r0.set (x7 : Int).toNat (rd r0 (wrapI (x7 - 1)))).length : Int) then (slices_insertionSortOrdered_int64.l1 x1 x2 x6 (wrapI (x7 - 1)) ((r0.set (x7 : Int).toNat (rd r0 (wrapI (x7 - 1)))).set (wrapI (x7 - 1) : Int).toNat (rd r0 x7))) else none) else none) else none) else none) else none) else none) else none) else none) else none) else none) else none) else none) else none) else none) else none) else none) else (slices_insertionSortOrdered_int64.l0 x1 x2 (wrapI (x6 + 1)) r0)) else none) else none) else none) else none) else none) else none) else none) else none) else (slices_insertionSortOrdered_int64.l0 x1 x2 (wrapI (x6 + 1)) r0) := (loop_unfold _ _ _ _).trans (by kernel_rfl)
noncomputable def slices_insertionSortOrdered_int64.con : Con := ⟨slices_insertionSortOrdered_int64.fn.ins, slices_insertionSortOrdered_int64.fn.outs, (List Int), fun x => slices_insertionSortOrdered_int64.f x.1 x.2.1 x.2.2.1, fun r => ((()), (r, ()))⟩
theorem slices_insertionSortOrdered_int64.valid : Valid Tryz.prog 233 slices_insertionSortOrdered_int64.con := fn_valid (f := slices_insertionSortOrdered_int64.fn) (E := slices_insertionSortOrdered_int64.E) (enc := slices_insertionSortOrdered_int64.enc) ⟨ttOk, (conCons cmp_Less_int64.valid conNil)⟩ (Checked.mixed Tryz.checked) ⟨Tryz.func233, by kernel_rfl, by kernel_rfl, by kernel_rfl, by kernel_rfl, by decide, by kernel_rfl, by kernel_rfl⟩ (fun _ => rfl)
end Go.Proofs.YthmcpmnhdbeahaaGreat.P
namespace Go.Proofs.YthmcpmnhdbeahaaGreat.P
open Go Go.RowKit Go.Proofs.YthmcpmnhdbeahaaGreat.D
noncomputable def slices_pdqsortOrdered_int64.E : Env := { tt := TT, con := [(233, slices_insertionSortOrdered_int64.con)], frz := [], rows := [], live := [(2, [0, 1, 2, 3, 8, 9])], n := 134, pin := 1, nils := [8, 9] }
noncomputable def slices_pdqsortOrdered_int64.fn : D.Fn := { body := Tryz.f176.body.getD .skip, res := Tryz.f176.results.toList, ins := [.one (.own 2 true (.int .i64)), .one (.v (.int .i64)), .one (.v (.int .i64)), .one (.v (.int .i64))], outs := [] }
def slices_pdqsortOrdered_int64.enc (y : lsd (flats slices_pdqsortOrdered_int64.fn.outs) × lsd (ios slices_pdqsortOrdered_int64.fn.ins)) : (List Int) := y.2.1
noncomputable def slices_pdqsortOrdered_int64.f (l0 : List Int) (a1 : Int) (a2 : Int) (a3 : Int) : Option (List Int) := denF slices_pdqsortOrdered_int64.E slices_pdqsortOrdered_int64.fn slices_pdqsortOrdered_int64.enc (l0, a1, a2, a3, ())
noncomputable def slices_pdqsortOrdered_int64.l0 (x1 : Int) (x2 : Int) (x3 : Int) (x8 : Bool) (x9 : Bool) (r0 : List Int) : Option (List Int) := denAt slices_pdqsortOrdered_int64.E slices_pdqsortOrdered_int64.fn slices_pdqsortOrdered_int64.enc [1, 1, 0] { fr := [(0, .lf (.own 0)), (1, .lf (.int .i64 x1)), (2, .lf (.int .i64 x2)), (3, .lf (.int .i64 x3)), (8, .lf (boolLf x8)), (9, .lf (boolLf x9))], ob := [(0, .row 2 true (.int .i64) r0)], nx := 1 }
set_option maxRecDepth 100000 in
theorem slices_pdqsortOrdered_int64.f_eq (l0 : List Int) (a1 : Int) (a2 : Int) (a3 : Int) : slices_pdqsortOrdered_int64.f l0 a1 a2 a3 = slices_pdqsortOrdered_int64.l0 a1 a2 a3 true true l0 := by kernel_rfl
set_option maxRecDepth 100000 in
theorem slices_pdqsortOrdered_int64.l0_eq (x1 : Int) (x2 : Int) (x3 : Int) (x8 : Bool) (x9 : Bool) (r0 : List Int) : slices_pdqsortOrdered_int64.l0 x1 x2 x3 x8 x9 r0 = if (wrapI (x2 - x1)) ≤ 12 then ((slices_insertionSortOrdered_int64.f r0 x1 x2).bind fun t27 => some t27) else (if x3 = 0 then none else (if x8 = true then none else none)) := (loop_unfold _ _ _ _).trans (by kernel_rfl)
noncomputable def slices_pdqsortOrdered_int64.con : Con := ⟨slices_pdqsortOrdered_int64.fn.ins, slices_pdqsortOrdered_int64.fn.outs, (List Int), fun x => slices_pdqsortOrdered_int64.f x.1 x.2.1 x.2.2.1 x.2.2.2.1, fun r => ((()), (r, ()))⟩
theorem slices_pdqsortOrdered_int64.valid : Valid Tryz.prog 176 slices_pdqsortOrdered_int64.con := fn_valid (f := slices_pdqsortOrdered_int64.fn) (E := slices_pdqsortOrdered_int64.E) (enc := slices_pdqsortOrdered_int64.enc) ⟨ttOk, (conCons slices_insertionSortOrdered_int64.valid conNil)⟩ (Checked.mixed Tryz.checked) ⟨Tryz.func176, by kernel_rfl, by kernel_rfl, by kernel_rfl, by kernel_rfl, by decide, by kernel_rfl, by kernel_rfl⟩ (fun _ => rfl)
end Go.Proofs.YthmcpmnhdbeahaaGreat.P
