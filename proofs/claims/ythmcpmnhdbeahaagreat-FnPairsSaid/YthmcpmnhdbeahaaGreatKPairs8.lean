/- What the proof of the law Pairs stands on, part 8: words, each Go function's Lean function, and that the Go code comes to its answers; no condition. (Packed by wip/myprint/pack.py out of what the kit's printer wrote, its words among it, partly by our patches of it, and out of texts of this session.) -/
import Derived.Test.YthmcpmnhdbeahaaGreatKPairs3
import Derived.Test.YthmcpmnhdbeahaaGreatKPairs4
import Derived.Test.YthmcpmnhdbeahaaGreatKPairs5
import Derived.Test.YthmcpmnhdbeahaaGreatKPairs7
set_option linter.unusedVariables false
set_option linter.unusedSimpArgs false
namespace Go.Proofs.YthmcpmnhdbeahaaGreat.P
open Go Go.RowKit Go.Proofs.YthmcpmnhdbeahaaGreat.D
noncomputable def spec_PairOrder.E : Env := { tt := TT, con := [(85, spec_l05Pairs.con), (86, spec_l05Times.con)], frz := [], rows := [], live := [(6, [2, 3, 4, 9, 10])], n := 30, pin := 0, nils := [] }
noncomputable def spec_PairOrder.fn : D.Fn := { body := Tryz.f26.body.getD .skip, res := Tryz.f26.results.toList, ins := [.agg [.v (.sl 27 (.sl 2 (.int .i64)))], .agg [.v (.int .i64), .v (.sl 2 (.int .i64))], .one (.v (.int .i64))], outs := [.one (.v (.int .i64)), .one (.v (.int .i64))] }
def spec_PairOrder.enc (y : lsd (flats spec_PairOrder.fn.outs) × lsd (ios spec_PairOrder.fn.ins)) : Int × Int := (y.1.1, y.1.2.1)
noncomputable def spec_PairOrder.f (l0_0 : List (List Int)) (a1_0 : Int) (l1_1 : List Int) (a2 : Int) : Option (Int × Int) := denF spec_PairOrder.E spec_PairOrder.fn spec_PairOrder.enc (l0_0, a1_0, l1_1, a2, ())
noncomputable def spec_PairOrder.l0 (x2 : Int) (x9 : Int) (x10 : Int) (b0_0 : List (List Int)) (b1_0 : Int) (b1_1 : List Int) : Option (Int × Int) := denAt spec_PairOrder.E spec_PairOrder.fn spec_PairOrder.enc [1, 1, 1, 0, 1, 0] { fr := [(2, .lf (.int .i64 x2)), (3, .lf (.box 0 0)), (4, .lf (.box 1 0)), (9, .lf (.int .i64 x9)), (10, .lf (.int .i64 x10))], ob := [(0, .box 26 false [.sl (.sl 2 (.int .i64)) b0_0]), (1, .box 29 false [.int .i64 b1_0, .sl (.int .i64) b1_1])], nx := 2 }
set_option maxRecDepth 100000 in
theorem spec_PairOrder.f_eq (l0_0 : List (List Int)) (a1_0 : Int) (l1_1 : List Int) (a2 : Int) : spec_PairOrder.f l0_0 a1_0 l1_1 a2 = (spec_l05Pairs.f l0_0 a1_0 l1_1 ([a2] : List Int)).bind fun t15 => if t15 = 0 then (spec_PairOrder.l0 a2 1 a2 l0_0 a1_0 l1_1) else (some (0, t15)) := by kernel_rfl
set_option maxRecDepth 100000 in
theorem spec_PairOrder.l0_eq (x2 : Int) (x9 : Int) (x10 : Int) (b0_0 : List (List Int)) (b1_0 : Int) (b1_1 : List Int) : spec_PairOrder.l0 x2 x9 x10 b0_0 b1_0 b1_1 = if x10 = 0 then (some (x9, 0)) else ((spec_l05Times.f b0_0 b1_0 b1_1 x10 x2).bind fun t26 => spec_PairOrder.l0 x2 (wrapI (x9 + 1)) t26 b0_0 b1_0 b1_1) := (loop_unfold _ _ _ _).trans (by kernel_rfl)
noncomputable def spec_PairOrder.con : Con := ⟨spec_PairOrder.fn.ins, spec_PairOrder.fn.outs, Int × Int, fun x => spec_PairOrder.f x.1 x.2.1 x.2.2.1 x.2.2.2.1, fun r => ((r.1, r.2, ()), (()))⟩
theorem spec_PairOrder.valid : Valid Tryz.prog 26 spec_PairOrder.con := fn_valid (f := spec_PairOrder.fn) (E := spec_PairOrder.E) (enc := spec_PairOrder.enc) ⟨ttOk, (conCons spec_l05Pairs.valid (conCons spec_l05Times.valid conNil))⟩ (Checked.mixed Tryz.checked) ⟨Tryz.func26, by kernel_rfl, by kernel_rfl, by kernel_rfl, by kernel_rfl, by decide, by kernel_rfl, by kernel_rfl⟩ (fun _ => rfl)
end Go.Proofs.YthmcpmnhdbeahaaGreat.P
namespace Go.Proofs.YthmcpmnhdbeahaaGreat.P
open Go Go.RowKit Go.Proofs.YthmcpmnhdbeahaaGreat.D
noncomputable def laws_FnPairs.E : Env := { tt := TT, con := [(7, laws_big.con), (8, spec_DrawPairProduct.con), (9, impl_PairProduct.con), (10, spec_PairProduct.con), (11, impl_PairInverse.con), (12, impl_PairOrder.con), (13, spec_DrawComplementOf.con), (14, impl_ComplementOf.con), (15, spec_ComplementOf.con), (16, laws_likeInts.con), (17, impl_IsComplement.con), (18, impl_ConjugateComplement.con), (19, impl_ClassOfCrossed.con), (20, spec_DrawIsComplement.con), (21, spec_IsComplement.con), (22, spec_DrawConjugateComplement.con), (23, spec_ConjugateComplement.con), (24, spec_DrawPairInverse.con), (25, spec_PairInverse.con), (26, spec_PairOrder.con)], frz := [], rows := [], live := [(17, [0]), (30, [0, 23, 24, 25, 32, 33, 34, 35, 36, 37]), (37, [0])], n := 423, pin := 0, nils := [] }
noncomputable def laws_FnPairs.fn : D.Fn := { body := Tryz.f3.body.getD .skip, res := Tryz.f3.results.toList, ins := [.one (.v (.sl 5 (.int .u8)))], outs := [.one (.v .bool)] }
def laws_FnPairs.enc (y : lsd (flats laws_FnPairs.fn.outs) × lsd (ios laws_FnPairs.fn.ins)) : Bool := y.1.1
noncomputable def laws_FnPairs.f (l0 : List Int) : Option Bool := denF laws_FnPairs.E laws_FnPairs.fn laws_FnPairs.enc (l0, ())
noncomputable def laws_FnPairs.j0 (x0 : List Int) : Option Bool := denAt laws_FnPairs.E laws_FnPairs.fn laws_FnPairs.enc [1, 1, 1, 1, 1, 1, 1] { fr := [(0, .lf (.sl (.int .u8) x0))], ob := [], nx := 0 }
noncomputable def laws_FnPairs.l1 (x0 : List Int) (x33 : Int) (x34 : Bool) (x35 : Int) (x37 : Int) (b0_0 : List (List Int)) (b1_0 : Int) (b1_1 : List Int) (r2 : List Int) (r3 : List Int) (r4 : List Int) : Option Bool := denAt laws_FnPairs.E laws_FnPairs.fn laws_FnPairs.enc [1, 1, 1, 1, 1, 1, 1, 1, 1, 1, 1, 0, 1, 0, 1, 1, 1, 1, 1, 0, 1, 0] { fr := [(0, .lf (.sl (.int .u8) x0)), (23, .lf (.box 0 0)), (24, .lf (.box 1 0)), (25, .lf (.own 2)), (32, .lf (.own 3)), (33, .lf (.int .i64 x33)), (34, .lf (boolLf x34)), (35, .lf (.int .i64 x35)), (36, .lf (.own 4)), (37, .lf (.int .i64 x37))], ob := [(0, .box 26 false [.sl (.sl 2 (.int .i64)) b0_0]), (1, .box 29 false [.int .i64 b1_0, .sl (.int .i64) b1_1]), (2, .row 2 true (.int .i64) r2), (3, .row 2 true (.int .i64) r3), (4, .row 2 true (.int .i64) r4)], nx := 5 }
noncomputable def laws_FnPairs.j2 (x0 : List Int) : Option Bool := denAt laws_FnPairs.E laws_FnPairs.fn laws_FnPairs.enc [1, 1, 1, 1, 1, 1, 1, 1, 1, 1, 1, 1] { fr := [(0, .lf (.sl (.int .u8) x0))], ob := [], nx := 0 }
set_option maxRecDepth 100000 in
theorem laws_FnPairs.f_eq (l0 : List Int) : laws_FnPairs.f l0 = (laws_big.f l0).bind fun t69 => if t69 = true then (some true) else ((spec_DrawPairProduct.f l0).bind fun t72 => (impl_PairProduct.f t72.1 t72.2.1 t72.2.2.1 t72.2.2.2.1 t72.2.2.2.2).bind fun t82 => (spec_PairProduct.f t72.1 t72.2.1 t72.2.2.1 t72.2.2.2.1 t72.2.2.2.2).bind fun t90 => if t82.2 = t90.2 then (if t82.1 = t90.1 then (if t82.2 = 0 then ((impl_PairProduct.f t72.1 t72.2.1 t72.2.2.1 t82.1 t72.2.2.2.1).bind fun t108 => (impl_PairProduct.f t72.1 t72.2.1 t72.2.2.1 t72.2.2.2.2 t72.2.2.2.1).bind fun t116 => (impl_PairProduct.f t72.1 t72.2.1 t72.2.2.1 t72.2.2.2.1 t116.1).bind fun t124 => (impl_PairInverse.f t72.1 t72.2.1 t72.2.2.1 t72.2.2.2.1).bind fun t131 => (impl_PairProduct.f t72.1 t72.2.1 t72.2.2.1 t72.2.2.2.1 t131.1).bind fun t139 => (impl_PairOrder.f t72.1 t72.2.1 t72.2.2.1 t72.2.2.2.1).bind fun t146 => if t108.2 = 0 then (if t116.2 = 0 then (if t124.2 = 0 then (if t131.2 = 0 then (if t139.2 = 0 then (if t146.2 = 0 then (if t108.1 = t124.1 then (if t139.1 = 0 then (if t146.1 < 1 then (some false) else (if t146.1 = 0 then none else (if ((wrapI (t72.2.1 * (t72.1.length : Int)) : Int).tmod t146.1) = 0 then (laws_FnPairs.j0 l0) else (some false)))) else (some false)) else (some false)) else (some false)) else (some false)) else (some false)) else (some false)) else (some false)) else (some false)) else (laws_FnPairs.j0 l0)) else (some false)) else (some false)) := by kernel_rfl
set_option maxRecDepth 100000 in
theorem laws_FnPairs.j0_eq (x0 : List Int) : laws_FnPairs.j0 x0 = (spec_DrawComplementOf.f x0).bind fun t197 => (impl_ComplementOf.f t197.1 t197.2.1 t197.2.2.1 t197.2.2.2).bind fun t205 => (spec_ComplementOf.f t197.1 t197.2.1 t197.2.2.1 t197.2.2.2).bind fun t212 => if t205.2 = t212.2 then ((laws_likeInts.f t205.1 t212.1).bind fun t221 => if t221 = true then (if t205.2 = 0 then ((impl_IsComplement.f t197.1 t197.2.1 t197.2.2.1 t205.1).bind fun t230 => if t230.2 = 0 then (if t230.1 = true then ((impl_ConjugateComplement.f t197.1 t197.2.1 t197.2.2.1 t205.1 1).bind fun t243 => (impl_IsComplement.f t197.1 t197.2.1 t197.2.2.1 t243.1).bind fun t250 => laws_FnPairs.l1 x0 t243.2 t250.1 t250.2 0 t197.1 t197.2.1 t197.2.2.1 t197.2.2.2 t243.1 ([] : List Int)) else (some false)) else (some false)) else (laws_FnPairs.j2 x0)) else (some false)) else (some false) := by kernel_rfl
set_option maxRecDepth 100000 in
theorem laws_FnPairs.l1_eq (x0 : List Int) (x33 : Int) (x34 : Bool) (x35 : Int) (x37 : Int) (b0_0 : List (List Int)) (b1_0 : Int) (b1_1 : List Int) (r2 : List Int) (r3 : List Int) (r4 : List Int) : laws_FnPairs.l1 x0 x33 x34 x35 x37 b0_0 b1_0 b1_1 r2 r3 r4 = if x37 < (r3.length : Int) then (if 0 ≤ x37 then (if x37 < (r3.length : Int) then (if 0 ≤ x37 then (if x37 < (r3.length : Int) then (if b1_0 = 0 then none else (if r4.length + ([(rd r3 x37 : Int).tmod b1_0] : List Int).length ≤ 17592186044416 then (laws_FnPairs.l1 x0 x33 x34 x35 (wrapI (x37 + 1)) b0_0 b1_0 b1_1 r2 r3 (r4 ++ ([(rd r3 x37 : Int).tmod b1_0] : List Int))) else none)) else none) else none) else none) else none) else ((impl_ClassOfCrossed.f b0_0 b1_0 b1_1 r2).bind fun t274 => (impl_ClassOfCrossed.f b0_0 b1_0 b1_1 r4).bind fun t281 => if x33 = 0 then (if x35 = 0 then (if t274.2 = 0 then (if t281.2 = 0 then (if x34 = true then ((laws_likeInts.f t274.1 t281.1).bind fun t305 => if t305 = true then (laws_FnPairs.j2 x0) else (some false)) else (some false)) else (some false)) else (some false)) else (some false)) else (some false)) := (loop_unfold _ _ _ _).trans (by kernel_rfl)
set_option maxRecDepth 100000 in
theorem laws_FnPairs.j2_eq (x0 : List Int) : laws_FnPairs.j2 x0 = (spec_DrawIsComplement.f x0).bind fun t310 => (impl_IsComplement.f t310.1 t310.2.1 t310.2.2.1 t310.2.2.2).bind fun t318 => (spec_IsComplement.f t310.1 t310.2.1 t310.2.2.1 t310.2.2.2).bind fun t325 => (spec_DrawConjugateComplement.f x0).bind fun t330 => (impl_ConjugateComplement.f t330.1 t330.2.1 t330.2.2.1 t330.2.2.2.1 t330.2.2.2.2).bind fun t340 => (spec_ConjugateComplement.f t330.1 t330.2.1 t330.2.2.1 t330.2.2.2.1 t330.2.2.2.2).bind fun t348 => (spec_DrawPairInverse.f x0).bind fun t353 => (impl_PairInverse.f t353.1 t353.2.1 t353.2.2.1 t353.2.2.2).bind fun t361 => (spec_PairInverse.f t353.1 t353.2.1 t353.2.2.1 t353.2.2.2).bind fun t368 => (impl_PairOrder.f t353.1 t353.2.1 t353.2.2.1 t353.2.2.2).bind fun t375 => (spec_PairOrder.f t353.1 t353.2.1 t353.2.2.1 t353.2.2.2).bind fun t382 => if t318.2 = t325.2 then (if (decide (t318.1 = true)) = (decide (t325.1 = true)) then (if t340.2 = t348.2 then ((laws_likeInts.f t340.1 t348.1).bind fun t401 => if t401 = true then (if t361.2 = t368.2 then (if t361.1 = t368.1 then (if t375.2 = t382.2 then (some (decide (t375.1 = t382.1))) else (some false)) else (some false)) else (some false)) else (some false)) else (some false)) else (some false)) else (some false) := by kernel_rfl
noncomputable def laws_FnPairs.con : Con := ⟨laws_FnPairs.fn.ins, laws_FnPairs.fn.outs, Bool, fun x => laws_FnPairs.f x.1, fun r => ((r, ()), (()))⟩
theorem laws_FnPairs.valid : Valid Tryz.prog 3 laws_FnPairs.con := fn_valid (f := laws_FnPairs.fn) (E := laws_FnPairs.E) (enc := laws_FnPairs.enc) ⟨ttOk, (conCons laws_big.valid (conCons spec_DrawPairProduct.valid (conCons impl_PairProduct.valid (conCons spec_PairProduct.valid (conCons impl_PairInverse.valid (conCons impl_PairOrder.valid (conCons spec_DrawComplementOf.valid (conCons impl_ComplementOf.valid (conCons spec_ComplementOf.valid (conCons laws_likeInts.valid (conCons impl_IsComplement.valid (conCons impl_ConjugateComplement.valid (conCons impl_ClassOfCrossed.valid (conCons spec_DrawIsComplement.valid (conCons spec_IsComplement.valid (conCons spec_DrawConjugateComplement.valid (conCons spec_ConjugateComplement.valid (conCons spec_DrawPairInverse.valid (conCons spec_PairInverse.valid (conCons spec_PairOrder.valid conNil))))))))))))))))))))⟩ (Checked.mixed Tryz.checked) ⟨Tryz.func3, by kernel_rfl, by kernel_rfl, by kernel_rfl, by kernel_rfl, by decide, by kernel_rfl, by kernel_rfl⟩ (fun _ => rfl)
end Go.Proofs.YthmcpmnhdbeahaaGreat.P
namespace Go.Proofs.YthmcpmnhdbeahaaGreat.P
open Go Go.RowKit Go.Proofs.YthmcpmnhdbeahaaGreat.D
end Go.Proofs.YthmcpmnhdbeahaaGreat.P
namespace Go.Proofs.YthmcpmnhdbeahaaGreat.P
open Go Go.RowKit Go.Proofs.YthmcpmnhdbeahaaGreat.D
end Go.Proofs.YthmcpmnhdbeahaaGreat.P
namespace Go.Proofs.YthmcpmnhdbeahaaGreat.P
open Go Go.RowKit Go.Proofs.YthmcpmnhdbeahaaGreat.D
end Go.Proofs.YthmcpmnhdbeahaaGreat.P
namespace Go.Proofs.YthmcpmnhdbeahaaGreat.P
open Go Go.RowKit Go.Proofs.YthmcpmnhdbeahaaGreat.D
end Go.Proofs.YthmcpmnhdbeahaaGreat.P
namespace Go.Proofs.YthmcpmnhdbeahaaGreat.P
open Go Go.RowKit Go.Proofs.YthmcpmnhdbeahaaGreat.D
end Go.Proofs.YthmcpmnhdbeahaaGreat.P
namespace Go.Proofs.YthmcpmnhdbeahaaGreat.P
open Go Go.RowKit Go.Proofs.YthmcpmnhdbeahaaGreat.D
end Go.Proofs.YthmcpmnhdbeahaaGreat.P
namespace Go.Proofs.YthmcpmnhdbeahaaGreat.P
open Go Go.RowKit Go.Proofs.YthmcpmnhdbeahaaGreat.D
end Go.Proofs.YthmcpmnhdbeahaaGreat.P
namespace Go.Proofs.YthmcpmnhdbeahaaGreat.P
open Go Go.RowKit Go.Proofs.YthmcpmnhdbeahaaGreat.D
end Go.Proofs.YthmcpmnhdbeahaaGreat.P
namespace Go.Proofs.YthmcpmnhdbeahaaGreat.P
open Go Go.RowKit Go.Proofs.YthmcpmnhdbeahaaGreat.D
end Go.Proofs.YthmcpmnhdbeahaaGreat.P
namespace Go.Proofs.YthmcpmnhdbeahaaGreat.P
open Go Go.RowKit Go.Proofs.YthmcpmnhdbeahaaGreat.D
end Go.Proofs.YthmcpmnhdbeahaaGreat.P
namespace Go.Proofs.YthmcpmnhdbeahaaGreat.P
open Go Go.RowKit Go.Proofs.YthmcpmnhdbeahaaGreat.D
end Go.Proofs.YthmcpmnhdbeahaaGreat.P
namespace Go.Proofs.YthmcpmnhdbeahaaGreat.P
open Go Go.RowKit Go.Proofs.YthmcpmnhdbeahaaGreat.D
end Go.Proofs.YthmcpmnhdbeahaaGreat.P
namespace Go.Proofs.YthmcpmnhdbeahaaGreat.P
open Go Go.RowKit Go.Proofs.YthmcpmnhdbeahaaGreat.D
end Go.Proofs.YthmcpmnhdbeahaaGreat.P
namespace Go.Proofs.YthmcpmnhdbeahaaGreat.P
open Go Go.RowKit Go.Proofs.YthmcpmnhdbeahaaGreat.D
end Go.Proofs.YthmcpmnhdbeahaaGreat.P
namespace Go.Proofs.YthmcpmnhdbeahaaGreat.P
open Go Go.RowKit Go.Proofs.YthmcpmnhdbeahaaGreat.D
end Go.Proofs.YthmcpmnhdbeahaaGreat.P
namespace Go.Proofs.YthmcpmnhdbeahaaGreat.P
open Go Go.RowKit Go.Proofs.YthmcpmnhdbeahaaGreat.D
end Go.Proofs.YthmcpmnhdbeahaaGreat.P
namespace Go.Proofs.YthmcpmnhdbeahaaGreat.P
open Go Go.RowKit Go.Proofs.YthmcpmnhdbeahaaGreat.D
end Go.Proofs.YthmcpmnhdbeahaaGreat.P
namespace Go.Proofs.YthmcpmnhdbeahaaGreat.P
open Go Go.RowKit Go.Proofs.YthmcpmnhdbeahaaGreat.D
end Go.Proofs.YthmcpmnhdbeahaaGreat.P
namespace Go.Proofs.YthmcpmnhdbeahaaGreat.P
open Go Go.RowKit Go.Proofs.YthmcpmnhdbeahaaGreat.D
end Go.Proofs.YthmcpmnhdbeahaaGreat.P
namespace Go.Proofs.YthmcpmnhdbeahaaGreat.P
open Go Go.RowKit Go.Proofs.YthmcpmnhdbeahaaGreat.D
end Go.Proofs.YthmcpmnhdbeahaaGreat.P
namespace Go.Proofs.YthmcpmnhdbeahaaGreat.P
open Go Go.RowKit Go.Proofs.YthmcpmnhdbeahaaGreat.D
end Go.Proofs.YthmcpmnhdbeahaaGreat.P
namespace Go.Proofs.YthmcpmnhdbeahaaGreat.P
open Go Go.RowKit Go.Proofs.YthmcpmnhdbeahaaGreat.D
end Go.Proofs.YthmcpmnhdbeahaaGreat.P
namespace Go.Proofs.YthmcpmnhdbeahaaGreat.P
open Go Go.RowKit Go.Proofs.YthmcpmnhdbeahaaGreat.D
end Go.Proofs.YthmcpmnhdbeahaaGreat.P
namespace Go.Proofs.YthmcpmnhdbeahaaGreat.P
open Go Go.RowKit Go.Proofs.YthmcpmnhdbeahaaGreat.D
end Go.Proofs.YthmcpmnhdbeahaaGreat.P
namespace Go.Proofs.YthmcpmnhdbeahaaGreat.P
open Go Go.RowKit Go.Proofs.YthmcpmnhdbeahaaGreat.D
end Go.Proofs.YthmcpmnhdbeahaaGreat.P
namespace Go.Proofs.YthmcpmnhdbeahaaGreat.P
open Go Go.RowKit Go.Proofs.YthmcpmnhdbeahaaGreat.D
end Go.Proofs.YthmcpmnhdbeahaaGreat.P
namespace Go.Proofs.YthmcpmnhdbeahaaGreat.P
open Go Go.RowKit Go.Proofs.YthmcpmnhdbeahaaGreat.D
end Go.Proofs.YthmcpmnhdbeahaaGreat.P
namespace Go.Proofs.YthmcpmnhdbeahaaGreat.P
open Go Go.RowKit Go.Proofs.YthmcpmnhdbeahaaGreat.D
end Go.Proofs.YthmcpmnhdbeahaaGreat.P
namespace Go.Proofs.YthmcpmnhdbeahaaGreat.V
open Go Go.RowKit Go.Proofs.YthmcpmnhdbeahaaGreat.D
theorem w64 {x : Int} (h0 : -9223372036854775808 ≤ x) (h1 : x ≤ 9223372036854775807) : wrapI x = x := by unfold wrapI; rw [hid_eq]; unfold wrap64; omega
theorem wn {j : Nat} (h : j < 4611686018427387904) : wrapI ((j : Int) + 1) = ((j + 1 : Nat) : Int) := by rw [w64 (by omega) (by omega)]; omega
theorem go_pos {α : Type} {p : Prop} {inst : Decidable p} {a b r : α} (h : p) (k : a = r) : (if p then a else b) = r := by rw [if_pos h]; exact k
theorem go_neg {α : Type} {p : Prop} {inst : Decidable p} {a b r : α} (h : ¬ p) (k : b = r) : (if p then a else b) = r := by rw [if_neg h]; exact k
theorem go_bind {α β : Type} {c : Option α} {f : α → Option β} {a : α} {r : Option β} (h : c = some a) (k : f a = r) : c.bind f = r := by rw [h]; exact k
theorem maxLen_le : maxLen ≤ 9223372036854775807 := by unfold maxLen; omega
theorem le_maxLen {n : Nat} (h : n ≤ 9223372036854775807) : n ≤ maxLen := by unfold maxLen; omega
noncomputable def ite_ {α : Type} (p : Prop) (a b : α) : α := @ite α p (Classical.propDecidable p) a b
theorem ite_pos {α : Type} {p : Prop} (h : p) (a b : α) : ite_ p a b = a := by unfold ite_; simp [h]
theorem ite_neg {α : Type} {p : Prop} (h : ¬ p) (a b : α) : ite_ p a b = b := by unfold ite_; simp [h]
noncomputable def B (p : Prop) : Bool := @decide p (Classical.propDecidable p)
theorem B_pos {p : Prop} (h : p) : B p = true := by unfold B; simp [h]
theorem B_neg {p : Prop} (h : ¬ p) : B p = false := by unfold B; simp [h]
theorem B_not {p : Prop} (h : ¬ p) : ¬ (B p = true) := by rw [B_neg h]; decide
theorem B_congr {p q : Prop} (h : p ↔ q) : B p = B q := by rw [show p = q from propext h]
theorem B_decide (p : Prop) {inst : Decidable p} : decide p = B p := by by_cases h : p <;> simp [h, B]
theorem B_true : B True = true := B_pos trivial
theorem scan {R : Type} (n : Nat) (L : Int → R) (P : Int → Prop) (bad : R)
  (hs : ∀ i : Int, 0 ≤ i → i < n → (∀ j : Int, 0 ≤ j → j < i → P j) → (P i → L i = L (i + 1)) ∧ (¬ P i → L i = bad)) :
  ((∀ j : Int, 0 ≤ j → j < n → P j) ∧ L 0 = L n) ∨ (∃ m : Int, 0 ≤ m ∧ m < n ∧ (∀ j : Int, 0 ≤ j → j < m → P j) ∧ ¬ P m ∧ L 0 = L m ∧ L 0 = bad) := by
 suffices H : ∀ d m : Nat, m + d = n → (∀ j : Int, 0 ≤ j → j < m → P j) →
   ((∀ j : Int, 0 ≤ j → j < n → P j) ∧ L m = L n) ∨ (∃ i : Int, 0 ≤ i ∧ i < n ∧ (∀ j : Int, 0 ≤ j → j < i → P j) ∧ ¬ P i ∧ L m = L i ∧ L m = bad) by
  simpa using H n 0 (by omega) (fun j h0 h1 => by omega)
 intro d
 induction d with
 | zero =>
  intro m hm hp
  have : (m : Int) = n := by omega
  rw [this] at hp ⊢
  exact .inl ⟨hp, rfl⟩
 | succ d ih =>
  intro m hm hp
  obtain ⟨h1, h2⟩ := hs m (by omega) (by omega) hp
  by_cases h : P m
  ·
   have hp' : ∀ j : Int, 0 ≤ j → j < ((m + 1 : Nat) : Int) → P j := fun j h0 hj => by
    by_cases e : j = m
    ·
     rw [e]; exact h
    ·
     exact hp j h0 (by omega)
   have := ih (m + 1) (by omega) hp'
   rwa [Int.natCast_add, Int.natCast_one, ← h1 h] at this
  ·
   exact .inr ⟨m, by omega, by omega, hp, h, rfl, h2 h⟩
theorem scanB (n : Nat) (L : Int → Option Bool) (P : Int → Prop) (Q : Prop)
  (hs : ∀ i : Int, 0 ≤ i → i < n → (∀ j : Int, 0 ≤ j → j < i → P j) → (P i → L i = L (i + 1)) ∧ (¬ P i → L i = some false))
  (he : (∀ j : Int, 0 ≤ j → j < n → P j) → L n = some (B Q)) : L 0 = some (B ((∀ j : Int, 0 ≤ j → j < n → P j) ∧ Q)) := by
 rcases scan n L P (some false) hs with ⟨h1, h2⟩ | ⟨j, h0, h1, _, h2, _, h3⟩
 ·
  rw [B_congr (show ((∀ j : Int, 0 ≤ j → j < n → P j) ∧ Q) ↔ Q from ⟨fun h => h.2, fun h => ⟨h1, h⟩⟩), h2]
  exact he h1
 ·
  rw [B_neg fun h => h2 (h.1 j h0 h1)]
  exact h3
theorem scanT (n : Nat) (L : Int → Option Bool) (P : Int → Prop)
  (hs : ∀ i : Int, 0 ≤ i → i < n → (∀ j : Int, 0 ≤ j → j < i → P j) → (P i → L i = L (i + 1)) ∧ (¬ P i → L i = some false))
  (he : (∀ j : Int, 0 ≤ j → j < n → P j) → L n = some true) : L 0 = some (B (∀ j : Int, 0 ≤ j → j < n → P j)) := by
 have := scanB n L P True hs (fun h => by rw [B_true]; exact he h)
 rwa [B_congr (show ((∀ j : Int, 0 ≤ j → j < n → P j) ∧ True) ↔ _ from ⟨fun h => h.1, fun h => ⟨h, trivial⟩⟩)] at this
theorem scanI {R : Type} (n : Nat) (L : Int → R) (P : Int → Prop) (bad go : R)
  (hs : ∀ i : Int, 0 ≤ i → i < n → (∀ j : Int, 0 ≤ j → j < i → P j) → (P i → L i = L (i + 1)) ∧ (¬ P i → L i = bad)) (he : (∀ j : Int, 0 ≤ j → j < n → P j) → L n = go) :
  ((∀ j : Int, 0 ≤ j → j < n → P j) → L 0 = go) ∧ (¬ (∀ j : Int, 0 ≤ j → j < n → P j) → L 0 = bad) := by
 rcases scan n L P bad hs with ⟨h1, h2⟩ | ⟨j, h0, h1, _, h2, _, h3⟩
 ·
  exact ⟨fun _ => h2.trans (he h1), fun h => absurd h1 h⟩
 ·
  exact ⟨fun h => absurd (h j h0 h1) h2, fun _ => h3⟩
theorem up {R : Type} (n : Nat) (L : Nat → R) (h : ∀ i, i < n → L i = L (i + 1)) : L 0 = L n := by
 suffices H : ∀ m, m ≤ n → L 0 = L m from H n (Nat.le_refl _)
 intro m
 induction m with
 | zero => exact fun _ => rfl
 | succ m ih => exact fun hm => (ih (by omega)).trans (h m (by omega))
theorem rd_nat (xs : List Int) (j : Nat) : rd xs (j : Int) = xs.getD j 0 := by simp [rd]
theorem rd_get {xs : List Int} {j : Nat} (h : j < xs.length) : rd xs (j : Int) = xs[j] := by simp [rd, List.getD_eq_getElem?_getD, List.getElem?_eq_getElem h]
theorem rd_at {xs : List Int} {i : Int} (h0 : 0 ≤ i) (h1 : i < xs.length) : xs[i.toNat]? = some (rd xs i) := by
 have h : i.toNat < xs.length := by omega
 simp [rd, List.getD_eq_getElem?_getD, List.getElem?_eq_getElem h]
theorem rd_mem {xs : List Int} {i : Int} (h0 : 0 ≤ i) (h1 : i < xs.length) : rd xs i ∈ xs := List.mem_of_getElem? (rd_at h0 h1)
theorem ext_rd {xs ys : List Int} (hl : xs.length = ys.length) (h : ∀ i : Int, 0 ≤ i → i < xs.length → rd xs i = rd ys i) : xs = ys := by
 apply List.ext_getElem hl
 intro i h1 h2
 have := h i (by omega) (by omega)
 simpa [rd, List.getD_eq_getElem?_getD, List.getElem?_eq_getElem h1, List.getElem?_eq_getElem h2] using this
theorem row_get {g : List (List Int)} {j : Nat} (h : j < g.length) : row g (j : Int) = g[j] := by simp [row, List.getD_eq_getElem?_getD, List.getElem?_eq_getElem h]
theorem row_mem {g : List (List Int)} {a : Int} (h0 : 0 ≤ a) (h1 : a < g.length) : row g a ∈ g := by
 have h : a.toNat < g.length := by omega
 unfold row
 rw [List.getD_eq_getElem?_getD, List.getElem?_eq_getElem h]
 exact List.getElem_mem h
theorem mem_row {g : List (List Int)} {r : List Int} (h : r ∈ g) : ∃ i : Int, 0 ≤ i ∧ i < g.length ∧ row g i = r := by
 obtain ⟨i, hi, rfl⟩ := List.mem_iff_getElem.1 h
 exact ⟨i, by omega, by omega, row_get hi⟩
def AllIn (n : Int) (xs : List Int) : Prop := ∀ i : Int, 0 ≤ i → i < xs.length → 0 ≤ rd xs i ∧ rd xs i < n
theorem allIn_one {n x : Int} (h0 : 0 ≤ x) (h1 : x < n) : AllIn n [x] := by
 intro i i0 i1
 have : i = 0 := by simp at i1; omega
 subst this; simp [rd, *]
theorem allIn_two {n x y : Int} (h0 : 0 ≤ x) (h1 : x < n) (h2 : 0 ≤ y) (h3 : y < n) : AllIn n [x, y] := by
 intro i i0 i1
 have : i = 0 ∨ i = 1 := by simp at i1; omega
 rcases this with rfl | rfl <;> simp [rd, *]
theorem AllIn.mem {n : Int} {xs : List Int} (h : AllIn n xs) {x : Int} (hx : x ∈ xs) : 0 ≤ x ∧ x < n := by
 obtain ⟨i, hi, rfl⟩ := List.mem_iff_getElem.1 hx
 have := h i (by omega) (by omega)
 rwa [rd_get hi] at this
theorem allIn_of {n : Int} {xs : List Int} (h : ∀ x ∈ xs, 0 ≤ x ∧ x < n) : AllIn n xs := fun i i0 i1 => h _ (rd_mem i0 i1)
theorem AllIn.drop {n : Int} {xs : List Int} (h : AllIn n xs) (j : Nat) : AllIn n (xs.drop j) := allIn_of fun x hx => h.mem (List.mem_of_mem_drop hx)
theorem AllIn.take {n : Int} {xs : List Int} (h : AllIn n xs) (j : Nat) : AllIn n (xs.take j) := allIn_of fun x hx => h.mem (List.mem_of_mem_take hx)
theorem AllIn.append {n : Int} {xs ys : List Int} (h : AllIn n xs) (k : AllIn n ys) : AllIn n (xs ++ ys) := allIn_of fun x hx => by
 rcases List.mem_append.1 hx with h' | h'
 ·
  exact h.mem h'
 ·
  exact k.mem h'
theorem tmod_nn {a m : Int} (h : 0 ≤ a) : Int.tmod a m = a % m := Int.tmod_eq_emod_of_nonneg h
theorem tdiv_nn {a m : Int} (h : 0 ≤ a) : Int.tdiv a m = a / m := Int.tdiv_eq_ediv_of_nonneg h
end Go.Proofs.YthmcpmnhdbeahaaGreat.V
set_option maxHeartbeats 2000000
set_option maxRecDepth 20000
namespace Go.Proofs.YthmcpmnhdbeahaaGreat.V
open Go.RowKit Go.Proofs.YthmcpmnhdbeahaaGreat.D Go.Proofs.YthmcpmnhdbeahaaGreat.P
theorem areIn (n : Int) (xs : List Int) (hl : xs.length ≤ maxLen) : impl_areIn.f n xs = some (B (AllIn n xs)) := by
 have hm := maxLen_le
 rw [impl_areIn.f_eq]
 refine scanT xs.length (fun i => impl_areIn.l0 n xs (xs.length : Int) i) (fun i => 0 ≤ rd xs i ∧ rd xs i < n) (fun i h0 h1 _ => ?_) (fun _ => ?_)
 ·
  refine ⟨fun h => ?_, fun h => ?_⟩ <;> (rw [impl_areIn.l0_eq])
  ·
   ((with_reducible repeat (first | refine go_pos (by first | assumption | omega | rfl | exact B_pos (by omega)) ?_ | refine go_neg (by first | assumption | omega | decide | exact B_not (by omega)) ?_ | refine go_bind (by first | assumption) ?_ | dsimp only)); first | done | (with_reducible rfl) | simp (disch := omega) only [w64] | (show False; done))
  ·
   by_cases h2 : rd xs i < 0 <;> ((with_reducible repeat (first | refine go_pos (by first | assumption | omega | rfl | exact B_pos (by omega)) ?_ | refine go_neg (by first | assumption | omega | decide | exact B_not (by omega)) ?_ | refine go_bind (by first | assumption) ?_ | dsimp only)); first | done | (with_reducible rfl) | simp (disch := omega) only [w64] | (show False; done))
 ·
  (rw [impl_areIn.l0_eq])
  ((with_reducible repeat (first | refine go_pos (by first | assumption | omega | rfl | exact B_pos (by omega)) ?_ | refine go_neg (by first | assumption | omega | decide | exact B_not (by omega)) ?_ | refine go_bind (by first | assumption) ?_ | dsimp only)); first | done | (with_reducible rfl) | simp (disch := omega) only [w64] | (show False; done))
theorem index_ (xs : List Int) (x : Int) (hl : xs.length ≤ maxLen) :
  ((∀ i : Int, 0 ≤ i → i < xs.length → rd xs i ≠ x) ∧ slices_Index_int64.f xs x = some (-1)) ∨
  ∃ i : Int, 0 ≤ i ∧ i < xs.length ∧ (∀ j : Int, 0 ≤ j → j < i → rd xs j ≠ x) ∧ rd xs i = x ∧ slices_Index_int64.f xs x = some i := by
 have hm := maxLen_le
 rw [slices_Index_int64.f_eq]
 suffices H : ∀ d m : Nat, m + d = xs.length → (∀ j : Int, 0 ≤ j → j < m → rd xs j ≠ x) →
   ((∀ i : Int, 0 ≤ i → i < xs.length → rd xs i ≠ x) ∧ slices_Index_int64.l0 xs x (xs.length : Int) m = some (-1)) ∨
   ∃ i : Int, 0 ≤ i ∧ i < xs.length ∧ (∀ j : Int, 0 ≤ j → j < i → rd xs j ≠ x) ∧ rd xs i = x ∧ slices_Index_int64.l0 xs x (xs.length : Int) m = some i from
  H xs.length 0 (by omega) (fun j h0 h1 => by omega)
 intro d
 induction d with
 | zero =>
  intro m hd hp
  obtain rfl : m = xs.length := by omega
  refine .inl ⟨hp, ?_⟩
  (rw [slices_Index_int64.l0_eq])
  ((with_reducible repeat (first | refine go_pos (by first | assumption | omega | rfl | exact B_pos (by omega)) ?_ | refine go_neg (by first | assumption | omega | decide | exact B_not (by omega)) ?_ | refine go_bind (by first | assumption) ?_ | dsimp only)); first | done | (with_reducible rfl) | simp (disch := omega) only [w64] | (show False; done))
 | succ d ih =>
  intro m hd hp
  by_cases h2 : x = rd xs m
  ·
   refine .inr ⟨m, by omega, by omega, hp, h2.symm, ?_⟩
   (rw [slices_Index_int64.l0_eq])
   ((with_reducible repeat (first | refine go_pos (by first | assumption | omega | rfl | exact B_pos (by omega)) ?_ | refine go_neg (by first | assumption | omega | decide | exact B_not (by omega)) ?_ | refine go_bind (by first | assumption) ?_ | dsimp only)); first | done | (with_reducible rfl) | simp (disch := omega) only [w64] | (show False; done))
  ·
   have st : slices_Index_int64.l0 xs x (xs.length : Int) m = slices_Index_int64.l0 xs x (xs.length : Int) ((m + 1 : Nat) : Int) := by
    rw [Int.natCast_add, Int.natCast_one]
    (rw [slices_Index_int64.l0_eq])
    ((with_reducible repeat (first | refine go_pos (by first | assumption | omega | rfl | exact B_pos (by omega)) ?_ | refine go_neg (by first | assumption | omega | decide | exact B_not (by omega)) ?_ | refine go_bind (by first | assumption) ?_ | dsimp only)); first | done | (with_reducible rfl) | simp (disch := omega) only [w64] | (show False; done))
   rw [st]
   refine ih (m + 1) (by omega) fun j k0 k1 => ?_
   by_cases e : j = m
   ·
    rw [e]; exact fun h => h2 h.symm
   ·
    exact hp j k0 (by omega)
theorem contains_ (xs : List Int) (x : Int) (hl : xs.length ≤ maxLen) : slices_Contains_int64.f xs x = some (B (∃ i : Int, 0 ≤ i ∧ i < xs.length ∧ rd xs i = x)) := by
 rw [slices_Contains_int64.f_eq]
 rcases index_ xs x hl with ⟨h, e⟩ | ⟨i, h0, h1, _, h2, e⟩
 ·
  rw [e, B_neg fun ⟨i, h0, h1, h2⟩ => h i h0 h1 h2]; rfl
 ·
  rw [e, B_pos ⟨i, h0, h1, h2⟩]; simp [h0]
structure Grp (g : List (List Int)) : Prop where
 n1 : 1 ≤ g.length
 n8 : g.length ≤ 8
 row : ∀ a : Int, 0 ≤ a → a < g.length → (row g a).length = g.length
 ent : ∀ a b : Int, 0 ≤ a → a < g.length → 0 ≤ b → b < g.length → 0 ≤ T g a b ∧ T g a b < g.length
 one : ∀ a : Int, 0 ≤ a → a < g.length → T g 0 a = a
 one' : ∀ a : Int, 0 ≤ a → a < g.length → T g a 0 = a
 assoc : ∀ a b c : Int, 0 ≤ a → a < g.length → 0 ≤ b → b < g.length → 0 ≤ c → c < g.length → T g (T g a b) c = T g a (T g b c)
 inv : ∀ a : Int, 0 ≤ a → a < g.length → ∃ b : Int, 0 ≤ b ∧ b < g.length ∧ T g a b = 0
theorem Grp.inv2 {g : List (List Int)} (h : Grp g) {a : Int} (h0 : 0 ≤ a) (h1 : a < g.length) : ∃ b : Int, 0 ≤ b ∧ b < g.length ∧ T g a b = 0 ∧ T g b a = 0 := by
 obtain ⟨b, b0, b1, hb⟩ := h.inv a h0 h1
 obtain ⟨c, c0, c1, hc⟩ := h.inv b b0 b1
 refine ⟨b, b0, b1, hb, ?_⟩
 have hac : c = a := by
  have e1 := h.assoc a b c h0 h1 b0 b1 c0 c1
  rw [hb, hc, h.one c c0 c1, h.one' a h0 h1] at e1
  exact e1
 rw [← hac]; exact hc
theorem rows_len {g : List (List Int)} (hr : ∀ r ∈ g, r.length ≤ maxLen) {a : Int} (h0 : 0 ≤ a) (h1 : a < g.length) : (row g a).length ≤ maxLen := hr _ (row_mem h0 h1)
def Tab (g : List (List Int)) : Prop := ∀ a : Int, 0 ≤ a → a < g.length → (row g a).length = g.length ∧ AllIn g.length (row g a)
def Law (g : List (List Int)) (a : Int) : Prop := T g 0 a = a ∧ T g a 0 = a ∧ (∃ b : Int, 0 ≤ b ∧ b < g.length ∧ T g a b = 0) ∧ ∀ b : Int, 0 ≤ b → b < g.length → ∀ c : Int, 0 ≤ c → c < g.length → T g (T g a b) c = T g a (T g b c)
theorem grp_iff (g : List (List Int)) : Grp g ↔ (1 ≤ g.length ∧ g.length ≤ 8) ∧ Tab g ∧ ∀ a : Int, 0 ≤ a → a < g.length → Law g a := by
 constructor
 ·
  intro h
  refine ⟨⟨h.n1, h.n8⟩, fun a h0 h1 => ⟨h.row a h0 h1, fun i i0 i1 => ?_⟩, fun a h0 h1 => ⟨h.one a h0 h1, h.one' a h0 h1, h.inv a h0 h1, fun b b0 b1 c c0 c1 => h.assoc a b c h0 h1 b0 b1 c0 c1⟩⟩
  have := h.row a h0 h1
  exact h.ent a i h0 h1 i0 (by omega)
 ·
  rintro ⟨⟨h1, h8⟩, ht, hl⟩
  refine ⟨h1, h8, fun a a0 a1 => (ht a a0 a1).1, fun a b a0 a1 b0 b1 => ?_, fun a a0 a1 => (hl a a0 a1).1, fun a a0 a1 => (hl a a0 a1).2.1, fun a b c a0 a1 b0 b1 c0 c1 => (hl a a0 a1).2.2.2 b b0 b1 c c0 c1, fun a a0 a1 => (hl a a0 a1).2.2.1⟩
  have := (ht a a0 a1).1
  exact (ht a a0 a1).2 b b0 (by omega)
theorem isGroup (g : List (List Int)) (hl : g.length ≤ maxLen) (hr : ∀ r ∈ g, r.length ≤ maxLen) : impl_IsGroup.f g = some (B (Grp g)) := by
 have hm := maxLen_le
 rw [B_congr (grp_iff g)]
 (rw [impl_IsGroup.f_eq])
 by_cases c1 : (g.length : Int) < 1 ∨ (g.length : Int) > 8
 ·
  rw [B_neg fun h => by omega]
  by_cases c2 : (g.length : Int) < 1 <;> ((with_reducible repeat (first | refine go_pos (by first | assumption | omega | rfl | exact B_pos (by omega)) ?_ | refine go_neg (by first | assumption | omega | decide | exact B_not (by omega)) ?_ | refine go_bind (by first | assumption | exact impl_order.f_eq _) ?_ | dsimp only)); first | done | (with_reducible rfl) | simp (disch := omega) only [w64] | (show False; done))
 rw [B_congr (show ((1 ≤ g.length ∧ g.length ≤ 8) ∧ Tab g ∧ ∀ a : Int, 0 ≤ a → a < g.length → Law g a) ↔ (Tab g ∧ ∀ a : Int, 0 ≤ a → a < g.length → Law g a) from ⟨fun h => h.2, fun h => ⟨by omega, h⟩⟩)]
 (with_reducible repeat (first | refine go_pos (by first | assumption | omega | rfl | exact B_pos (by omega)) ?_ | refine go_neg (by first | assumption | omega | decide | exact B_not (by omega)) ?_ | refine go_bind (by first | assumption | exact impl_order.f_eq _) ?_ | dsimp only))
 refine scanB g.length (fun i => impl_IsGroup.l0 (g.length : Int) g (g.length : Int) i g) (fun a => (row g a).length = g.length ∧ AllIn g.length (row g a)) _ (fun i h0 h1 _ => ?_) (fun ht => ?_)
 ·
  have ha := areIn g.length (row g i) (rows_len hr h0 h1)
  refine ⟨fun h => ?_, fun h => ?_⟩ <;> (rw [impl_IsGroup.l0_eq])
  ·
   have h1 := h.1
   rw [B_pos h.2] at ha
   ((with_reducible repeat (first | refine go_pos (by first | assumption | omega | rfl | exact B_pos (by omega)) ?_ | refine go_neg (by first | assumption | omega | decide | exact B_not (by omega)) ?_ | refine go_bind (by first | assumption) ?_ | dsimp only)); first | done | (with_reducible rfl) | simp (disch := omega) only [w64] | (show False; done))
  ·
   by_cases h2 : ((row g i).length : Int) = g.length
   ·
    rw [B_neg fun h3 => h ⟨by omega, h3⟩] at ha
    ((with_reducible repeat (first | refine go_pos (by first | assumption | omega | rfl | exact B_pos (by omega)) ?_ | refine go_neg (by first | assumption | omega | decide | exact B_not (by omega)) ?_ | refine go_bind (by first | assumption) ?_ | dsimp only)); first | done | (with_reducible rfl) | simp (disch := omega) only [w64] | (show False; done))
   ·
    ((with_reducible repeat (first | refine go_pos (by first | assumption | omega | rfl | exact B_pos (by omega)) ?_ | refine go_neg (by first | assumption | omega | decide | exact B_not (by omega)) ?_ | refine go_bind (by first | assumption) ?_ | dsimp only)); first | done | (with_reducible rfl) | simp (disch := omega) only [w64] | (show False; done))
 (rw [impl_IsGroup.l0_eq])
 (with_reducible repeat (first | refine go_pos (by first | assumption | omega | rfl | exact B_pos (by omega)) ?_ | refine go_neg (by first | assumption | omega | decide | exact B_not (by omega)) ?_ | refine go_bind (by first | assumption) ?_ | dsimp only))
 refine scanT g.length (fun i => impl_IsGroup.l1 (g.length : Int) (g.length : Int) i g) (Law g) (fun a a0 a1 _ => ?_) (fun _ => ?_)
 rotate_left
 ·
  (rw [impl_IsGroup.l1_eq])
  ((with_reducible repeat (first | refine go_pos (by first | assumption | omega | rfl | exact B_pos (by omega)) ?_ | refine go_neg (by first | assumption | omega | decide | exact B_not (by omega)) ?_ | refine go_bind (by first | assumption) ?_ | dsimp only)); first | done | (with_reducible rfl) | simp (disch := omega) only [w64] | (show False; done))
 have hlen : ∀ x : Int, 0 ≤ x → x < g.length → ((row g x).length : Int) = g.length := fun x x0 x1 => by rw [(ht x x0 x1).1]
 have hent : ∀ x y : Int, 0 ≤ x → x < g.length → 0 ≤ y → y < g.length → 0 ≤ T g x y ∧ T g x y < g.length := fun x y x0 x1 y0 y1 => (ht x x0 x1).2 y y0 (by rw [hlen x x0 x1]; exact y1)
 have l0 := hlen 0 (by omega) (by omega)
 have la := hlen a a0 a1
 have hc := contains_ (row g a) 0 (rows_len hr a0 a1)
 rw [B_congr (show (∃ i : Int, 0 ≤ i ∧ i < (row g a).length ∧ rd (row g a) i = 0) ↔ ∃ b : Int, 0 ≤ b ∧ b < g.length ∧ T g a b = 0 by rw [la]; exact Iff.rfl)] at hc
 by_cases h2 : T g 0 a = a
 rotate_left
 ·
  refine ⟨fun h => absurd h.1 h2, fun _ => ?_⟩
  (rw [impl_IsGroup.l1_eq])
  ((with_reducible repeat (first | refine go_pos (by first | assumption | omega | rfl | exact B_pos (by omega)) ?_ | refine go_neg (by first | assumption | omega | decide | exact B_not (by omega)) ?_ | refine go_bind (by first | assumption) ?_ | dsimp only)); first | done | (with_reducible rfl) | simp (disch := omega) only [w64] | (show False; done))
 by_cases h3 : T g a 0 = a
 rotate_left
 ·
  refine ⟨fun h => absurd h.2.1 h3, fun _ => ?_⟩
  (rw [impl_IsGroup.l1_eq])
  ((with_reducible repeat (first | refine go_pos (by first | assumption | omega | rfl | exact B_pos (by omega)) ?_ | refine go_neg (by first | assumption | omega | decide | exact B_not (by omega)) ?_ | refine go_bind (by first | assumption) ?_ | dsimp only)); first | done | (with_reducible rfl) | simp (disch := omega) only [w64] | (show False; done))
 by_cases h4 : ∃ b : Int, 0 ≤ b ∧ b < g.length ∧ T g a b = 0
 rotate_left
 ·
  refine ⟨fun h => absurd h.2.2.1 h4, fun _ => ?_⟩
  rw [B_neg h4] at hc
  (rw [impl_IsGroup.l1_eq])
  ((with_reducible repeat (first | refine go_pos (by first | assumption | omega | rfl | exact B_pos (by omega)) ?_ | refine go_neg (by first | assumption | omega | decide | exact B_not (by omega)) ?_ | refine go_bind (by first | assumption) ?_ | dsimp only)); first | done | (with_reducible rfl) | simp (disch := omega) only [w64] | (show False; done))
 rw [B_pos h4] at hc
 have inner := scanI g.length (fun b => impl_IsGroup.l2 (g.length : Int) a (g.length : Int) a (g.length : Int) b g) (fun b => ∀ c : Int, 0 ≤ c → c < g.length → T g (T g a b) c = T g a (T g b c)) (some false) (impl_IsGroup.l1 (g.length : Int) (g.length : Int) (a + 1) g)
  (fun b b0 b1 _ => by
   obtain ⟨e0, e1⟩ := hent a b a0 a1 b0 b1
   have le := hlen _ e0 e1
   have lb := hlen b b0 b1
   have := scanI g.length (fun c => impl_IsGroup.l3 (g.length : Int) a b (g.length : Int) a (g.length : Int) b (g.length : Int) c g) (fun c => T g (T g a b) c = T g a (T g b c)) (some false) (impl_IsGroup.l2 (g.length : Int) a (g.length : Int) a (g.length : Int) (b + 1) g)
    (fun c c0 c1 _ => by
     obtain ⟨f0, f1⟩ := hent b c b0 b1 c0 c1
     refine ⟨fun h => ?_, fun h => ?_⟩ <;> (rw [impl_IsGroup.l3_eq]) <;> ((with_reducible repeat (first | refine go_pos (by first | assumption | omega | rfl | exact B_pos (by omega)) ?_ | refine go_neg (by first | assumption | omega | decide | exact B_not (by omega)) ?_ | refine go_bind (by first | assumption) ?_ | dsimp only)); first | done | (with_reducible rfl) | simp (disch := omega) only [w64] | (show False; done))) (fun _ => by (rw [impl_IsGroup.l3_eq]); ((with_reducible repeat (first | refine go_pos (by first | assumption | omega | rfl | exact B_pos (by omega)) ?_ | refine go_neg (by first | assumption | omega | decide | exact B_not (by omega)) ?_ | refine go_bind (by first | assumption) ?_ | dsimp only)); first | done | (with_reducible rfl) | simp (disch := omega) only [w64] | (show False; done)))
   refine ⟨fun h => ?_, fun h => ?_⟩ <;> (rw [impl_IsGroup.l2_eq])
   ·
    (with_reducible repeat (first | refine go_pos (by first | assumption | omega | rfl | exact B_pos (by omega)) ?_ | refine go_neg (by first | assumption | omega | decide | exact B_not (by omega)) ?_ | refine go_bind (by first | assumption) ?_ | dsimp only))
    exact this.1 h
   ·
    (with_reducible repeat (first | refine go_pos (by first | assumption | omega | rfl | exact B_pos (by omega)) ?_ | refine go_neg (by first | assumption | omega | decide | exact B_not (by omega)) ?_ | refine go_bind (by first | assumption) ?_ | dsimp only))
    exact this.2 h) (fun _ => by (rw [impl_IsGroup.l2_eq]); ((with_reducible repeat (first | refine go_pos (by first | assumption | omega | rfl | exact B_pos (by omega)) ?_ | refine go_neg (by first | assumption | omega | decide | exact B_not (by omega)) ?_ | refine go_bind (by first | assumption) ?_ | dsimp only)); first | done | (with_reducible rfl) | simp (disch := omega) only [w64] | (show False; done)))
 refine ⟨fun h => ?_, fun h => ?_⟩ <;> (rw [impl_IsGroup.l1_eq]) <;> (with_reducible repeat (first | refine go_pos (by first | assumption | omega | rfl | exact B_pos (by omega)) ?_ | refine go_neg (by first | assumption | omega | decide | exact B_not (by omega)) ?_ | refine go_bind (by first | assumption) ?_ | dsimp only))
 ·
  exact inner.1 h.2.2.2
 ·
  exact inner.2 fun k => h ⟨h2, h3, h4, k⟩
end Go.Proofs.YthmcpmnhdbeahaaGreat.V
namespace Go.Proofs.YthmcpmnhdbeahaaGreat.V
open Go.RowKit Go.Proofs.YthmcpmnhdbeahaaGreat.D Go.Proofs.YthmcpmnhdbeahaaGreat.P
theorem In_ (x lo hi : Int) : spec_l01In.f x lo hi = some (B (lo ≤ x ∧ x ≤ hi)) := by
 rw [spec_l01In.f_eq]
 by_cases h : x ≥ lo
 ·
  rw [if_pos h, B_decide, B_congr (show x ≤ hi ↔ (lo ≤ x ∧ x ≤ hi) from ⟨fun h' => ⟨h, h'⟩, fun h' => h'.2⟩)]
 ·
  rw [if_neg h, B_neg (fun h' => h h'.1)]
def LawS (g : List (List Int)) (a : Int) : Prop := T g 0 a = a ∧ T g a 0 = a ∧ (∀ b : Int, 0 ≤ b → b < g.length → ∀ c : Int, 0 ≤ c → c < g.length → T g (T g a b) c = T g a (T g b c)) ∧ ∃ b : Int, 0 ≤ b ∧ b < g.length ∧ T g a b = 0 ∧ T g b a = 0
theorem grp_iffS (g : List (List Int)) : Grp g ↔ (1 ≤ g.length ∧ g.length ≤ 8) ∧ Tab g ∧ ∀ a : Int, 0 ≤ a → a < g.length → LawS g a := by
 rw [grp_iff]
 constructor
 ·
  intro h
  have hg := (grp_iff g).2 h
  refine ⟨h.1, h.2.1, fun a a0 a1 => ?_⟩
  obtain ⟨h1, h2, _, h4⟩ := h.2.2 a a0 a1
  exact ⟨h1, h2, h4, hg.inv2 a0 a1⟩
 ·
  rintro ⟨h1, h2, h3⟩
  refine ⟨h1, h2, fun a a0 a1 => ?_⟩
  obtain ⟨k1, k2, k3, b, b0, b1, hb, _⟩ := h3 a a0 a1
  exact ⟨k1, k2, ⟨b, b0, b1, hb⟩, k3⟩
theorem Is_ (g : List (List Int)) : spec_l01Is.f g = some (B (Grp g)) := by
 rw [B_congr (grp_iffS g)]
 (rw [spec_l01Is.f_eq])
 by_cases c1 : 1 ≤ (g.length : Int) ∧ (g.length : Int) ≤ 8
 rotate_left
 ·
  rw [B_neg fun h => c1 (by omega)]
  ((with_reducible repeat (first | refine go_pos (by first | assumption | omega | rfl | exact B_pos (by omega)) ?_ | refine go_neg (by first | assumption | omega | decide | exact B_not (by omega)) ?_ | refine go_bind (by first | assumption | exact In_ _ _ _) ?_ | dsimp only)); first | done | (with_reducible rfl) | simp (disch := omega) only [w64] | (show False; done))
 rw [B_congr (show ((1 ≤ g.length ∧ g.length ≤ 8) ∧ Tab g ∧ ∀ a : Int, 0 ≤ a → a < g.length → LawS g a) ↔ (Tab g ∧ ∀ a : Int, 0 ≤ a → a < g.length → LawS g a) from ⟨fun h => h.2, fun h => ⟨by omega, h⟩⟩)]
 (with_reducible repeat (first | refine go_pos (by first | assumption | omega | rfl | exact B_pos (by omega)) ?_ | refine go_neg (by first | assumption | omega | decide | exact B_not (by omega)) ?_ | refine go_bind (by first | assumption | exact In_ _ _ _) ?_ | dsimp only))
 have hw1 : wrapI ((g.length : Int) - 1) = g.length - 1 := w64 (by omega) (by omega)
 refine scanB g.length (fun i => spec_l01Is.l0 (g.length : Int) i g) (fun a => (row g a).length = g.length ∧ AllIn g.length (row g a)) (∀ a : Int, 0 ≤ a → a < g.length → LawS g a) (fun a a0 a1 _ => ?_) (fun ht => ?_)
 ·
  by_cases h2 : ((row g a).length : Int) = g.length
  rotate_left
  ·
   refine ⟨fun h => absurd h.1 (by omega), fun _ => ?_⟩
   (rw [spec_l01Is.l0_eq])
   ((with_reducible repeat (first | refine go_pos (by first | assumption | omega | rfl | exact B_pos (by omega)) ?_ | refine go_neg (by first | assumption | omega | decide | exact B_not (by omega)) ?_ | refine go_bind (by first | assumption) ?_ | dsimp only)); first | done | (with_reducible rfl) | simp (disch := omega) only [w64] | (show False; done))
  have inner := scanI g.length (fun b => spec_l01Is.l1 (g.length : Int) a b g) (fun b => 0 ≤ T g a b ∧ T g a b < g.length) (some false) (spec_l01Is.l0 (g.length : Int) (a + 1) g)
   (fun b b0 b1 _ => by refine ⟨fun h => ?_, fun h => ?_⟩ <;> (rw [spec_l01Is.l1_eq, hw1]) <;> ((with_reducible repeat (first | refine go_pos (by first | assumption | omega | rfl | exact B_pos (by omega)) ?_ | refine go_neg (by first | assumption | omega | decide | exact B_not (by omega)) ?_ | refine go_bind (by first | assumption | exact In_ _ _ _) ?_ | dsimp only)); first | done | (with_reducible rfl) | simp (disch := omega) only [w64] | (show False; done))) (fun _ => by (rw [spec_l01Is.l1_eq]); ((with_reducible repeat (first | refine go_pos (by first | assumption | omega | rfl | exact B_pos (by omega)) ?_ | refine go_neg (by first | assumption | omega | decide | exact B_not (by omega)) ?_ | refine go_bind (by first | assumption) ?_ | dsimp only)); first | done | (with_reducible rfl) | simp (disch := omega) only [w64] | (show False; done)))
  refine ⟨fun h => ?_, fun h => ?_⟩ <;> (rw [spec_l01Is.l0_eq]) <;> (with_reducible repeat (first | refine go_pos (by first | assumption | omega | rfl | exact B_pos (by omega)) ?_ | refine go_neg (by first | assumption | omega | decide | exact B_not (by omega)) ?_ | refine go_bind (by first | assumption) ?_ | dsimp only))
  ·
   exact inner.1 fun j j0 j1 => h.2 j j0 (by omega)
  ·
   exact inner.2 fun k => h ⟨by omega, fun j j0 j1 => k j j0 (by omega)⟩
 (rw [spec_l01Is.l0_eq])
 (with_reducible repeat (first | refine go_pos (by first | assumption | omega | rfl | exact B_pos (by omega)) ?_ | refine go_neg (by first | assumption | omega | decide | exact B_not (by omega)) ?_ | refine go_bind (by first | assumption) ?_ | dsimp only))
 refine scanT g.length (fun i => spec_l01Is.l2 (g.length : Int) i g) (LawS g) (fun a a0 a1 _ => ?_) (fun _ => by (rw [spec_l01Is.l2_eq]); ((with_reducible repeat (first | refine go_pos (by first | assumption | omega | rfl | exact B_pos (by omega)) ?_ | refine go_neg (by first | assumption | omega | decide | exact B_not (by omega)) ?_ | refine go_bind (by first | assumption) ?_ | dsimp only)); first | done | (with_reducible rfl) | simp (disch := omega) only [w64] | (show False; done)))
 have hlen : ∀ x : Int, 0 ≤ x → x < g.length → ((row g x).length : Int) = g.length := fun x x0 x1 => by rw [(ht x x0 x1).1]
 have hent : ∀ x y : Int, 0 ≤ x → x < g.length → 0 ≤ y → y < g.length → 0 ≤ T g x y ∧ T g x y < g.length := fun x y x0 x1 y0 y1 => (ht x x0 x1).2 y y0 (by rw [hlen x x0 x1]; exact y1)
 have l0 := hlen 0 (by omega) (by omega)
 have la := hlen a a0 a1
 by_cases h2 : T g 0 a = a
 rotate_left
 ·
  refine ⟨fun h => absurd h.1 h2, fun _ => ?_⟩
  (rw [spec_l01Is.l2_eq])
  ((with_reducible repeat (first | refine go_pos (by first | assumption | omega | rfl | exact B_pos (by omega)) ?_ | refine go_neg (by first | assumption | omega | decide | exact B_not (by omega)) ?_ | refine go_bind (by first | assumption) ?_ | dsimp only)); first | done | (with_reducible rfl) | simp (disch := omega) only [w64] | (show False; done))
 by_cases h3 : T g a 0 = a
 rotate_left
 ·
  refine ⟨fun h => absurd h.2.1 h3, fun _ => ?_⟩
  (rw [spec_l01Is.l2_eq])
  ((with_reducible repeat (first | refine go_pos (by first | assumption | omega | rfl | exact B_pos (by omega)) ?_ | refine go_neg (by first | assumption | omega | decide | exact B_not (by omega)) ?_ | refine go_bind (by first | assumption) ?_ | dsimp only)); first | done | (with_reducible rfl) | simp (disch := omega) only [w64] | (show False; done))
 let Fd : Int → Prop := fun b => ∃ j : Int, 0 ≤ j ∧ j < b ∧ T g a j = 0 ∧ T g j a = 0
 have fd0 : B (Fd 0) = false := B_neg fun ⟨j, j0, j1, _⟩ => by omega
 have inner := scan g.length (fun b => spec_l01Is.l3 (g.length : Int) a (B (Fd b)) b g) (fun b => ∀ c : Int, 0 ≤ c → c < g.length → T g (T g a b) c = T g a (T g b c)) (some false) (fun b b0 b1 _ => by
  obtain ⟨e0, e1⟩ := hent a b a0 a1 b0 b1
  have le := hlen _ e0 e1
  have lb := hlen b b0 b1
  have toj : spec_l01Is.l3 (g.length : Int) a (B (Fd b)) b g = spec_l01Is.l4 (g.length : Int) a (B (Fd (b + 1))) b 0 g := by
   by_cases k1 : Fd b
   ·
    rw [B_pos k1, B_pos (show Fd (b + 1) from by obtain ⟨j, j0, j1, h⟩ := k1; exact ⟨j, j0, by omega, h⟩)]
    (rw [spec_l01Is.l3_eq])
    ((with_reducible repeat (first | refine go_pos (by first | assumption | omega | rfl | exact B_pos (by omega)) ?_ | refine go_neg (by first | assumption | omega | decide | exact B_not (by omega)) ?_ | refine go_bind (by first | assumption) ?_ | dsimp only)); first | done | (with_reducible rfl) | simp (disch := omega) only [w64] | (show False; done))
   ·
    rw [B_neg k1]
    by_cases k2 : T g a b = 0
    ·
     have e : B (Fd (b + 1)) = decide (T g b a = 0) := by
      by_cases k3 : T g b a = 0
      ·
       rw [B_pos ⟨b, b0, by omega, k2, k3⟩]; simp [k3]
      ·
       rw [B_neg]
       ·
        simp [k3]
       ·
        rintro ⟨j, j0, j1, ja, jb⟩
        by_cases ej : j = b
        ·
         subst ej; exact k3 jb
        ·
         exact k1 ⟨j, j0, by omega, ja, jb⟩
     rw [e]
     (rw [spec_l01Is.l3_eq])
     ((with_reducible repeat (first | refine go_pos (by first | assumption | omega | rfl | exact B_pos (by omega)) ?_ | refine go_neg (by first | assumption | omega | decide | exact B_not (by omega)) ?_ | refine go_bind (by first | assumption) ?_ | dsimp only)); first | done | (with_reducible rfl) | simp (disch := omega) only [w64] | (show False; done))
    ·
     rw [B_neg (show ¬ Fd (b + 1) from by
      rintro ⟨j, j0, j1, ja, jb⟩
      by_cases ej : j = b
      ·
       subst ej; exact k2 ja
      ·
       exact k1 ⟨j, j0, by omega, ja, jb⟩)]
     (rw [spec_l01Is.l3_eq])
     ((with_reducible repeat (first | refine go_pos (by first | assumption | omega | rfl | exact B_pos (by omega)) ?_ | refine go_neg (by first | assumption | omega | decide | exact B_not (by omega)) ?_ | refine go_bind (by first | assumption) ?_ | dsimp only)); first | done | (with_reducible rfl) | simp (disch := omega) only [w64] | (show False; done))
  have inner4 := scanI g.length (fun c => spec_l01Is.l4 (g.length : Int) a (B (Fd (b + 1))) b c g) (fun c => T g (T g a b) c = T g a (T g b c)) (some false) (spec_l01Is.l3 (g.length : Int) a (B (Fd (b + 1))) (b + 1) g) (fun c c0 c1 _ => by
   obtain ⟨f0, f1⟩ := hent b c b0 b1 c0 c1
   refine ⟨fun h => ?_, fun h => ?_⟩ <;> (rw [spec_l01Is.l4_eq]) <;> ((with_reducible repeat (first | refine go_pos (by first | assumption | omega | rfl | exact B_pos (by omega)) ?_ | refine go_neg (by first | assumption | omega | decide | exact B_not (by omega)) ?_ | refine go_bind (by first | assumption) ?_ | dsimp only)); first | done | (with_reducible rfl) | simp (disch := omega) only [w64] | (show False; done))) (fun _ => by (rw [spec_l01Is.l4_eq]); ((with_reducible repeat (first | refine go_pos (by first | assumption | omega | rfl | exact B_pos (by omega)) ?_ | refine go_neg (by first | assumption | omega | decide | exact B_not (by omega)) ?_ | refine go_bind (by first | assumption) ?_ | dsimp only)); first | done | (with_reducible rfl) | simp (disch := omega) only [w64] | (show False; done)))
  exact ⟨fun h => toj.trans (inner4.1 h), fun h => toj.trans (inner4.2 h)⟩)
 have st : spec_l01Is.l2 (g.length : Int) a g = spec_l01Is.l3 (g.length : Int) a (B (Fd 0)) 0 g := by
  rw [fd0]
  (rw [spec_l01Is.l2_eq])
  ((with_reducible repeat (first | refine go_pos (by first | assumption | omega | rfl | exact B_pos (by omega)) ?_ | refine go_neg (by first | assumption | omega | decide | exact B_not (by omega)) ?_ | refine go_bind (by first | assumption) ?_ | dsimp only)); first | done | (with_reducible rfl) | simp (disch := omega) only [w64] | (show False; done))
 rw [st]
 rcases inner with ⟨h5, h6⟩ | ⟨b, b0, b1, _, h5, _, h6⟩
 ·
  simp only [h6]
  by_cases h7 : Fd g.length
  ·
   refine ⟨fun _ => ?_, fun h => absurd ⟨h2, h3, h5, h7⟩ h⟩
   rw [B_pos h7]
   (rw [spec_l01Is.l3_eq])
   ((with_reducible repeat (first | refine go_pos (by first | assumption | omega | rfl | exact B_pos (by omega)) ?_ | refine go_neg (by first | assumption | omega | decide | exact B_not (by omega)) ?_ | refine go_bind (by first | assumption) ?_ | dsimp only)); first | done | (with_reducible rfl) | simp (disch := omega) only [w64] | (show False; done))
  ·
   refine ⟨fun h => absurd h.2.2.2 h7, fun h => ?_⟩
   rw [B_neg h7]
   (rw [spec_l01Is.l3_eq])
   ((with_reducible repeat (first | refine go_pos (by first | assumption | omega | rfl | exact B_pos (by omega)) ?_ | refine go_neg (by first | assumption | omega | decide | exact B_not (by omega)) ?_ | refine go_bind (by first | assumption) ?_ | dsimp only)); first | done | (with_reducible rfl) | simp (disch := omega) only [w64] | (show False; done))
 ·
  exact ⟨fun h => absurd (h.2.2.1 b b0 b1) h5, fun _ => h6⟩
theorem gcd0 (y : Nat) : ∀ x : Nat, impl_gcd.l0 (x : Int) (y : Int) = some ((Nat.gcd x y : Nat) : Int) := by
 induction y using Nat.strongRecOn with
 | _ y ih =>
  intro x
  (rw [impl_gcd.l0_eq])
  by_cases h : y = 0
  ·
   subst h
   simp
  ·
   have e : Int.tmod (x : Int) (y : Int) = ((x % y : Nat) : Int) := by rw [Int.ofNat_tmod]
   have := ih (x % y) (Nat.mod_lt _ (by omega)) y
   rw [show Nat.gcd y (x % y) = Nat.gcd x y by rw [Nat.gcd_comm x y, Nat.gcd_rec y x, Nat.gcd_comm]] at this
   rw [e]
   (with_reducible repeat (first | refine go_pos (by first | assumption | omega | rfl | exact B_pos (by omega)) ?_ | refine go_neg (by first | assumption | omega | decide | exact B_not (by omega)) ?_ | refine go_bind (by first | assumption) ?_ | dsimp only))
   exact this
theorem gcd_ {a b : Int} (ha : 0 ≤ a) (hb : 0 ≤ b) : impl_gcd.f a b = some ((Int.gcd a b : Nat) : Int) := by
 obtain ⟨x, rfl⟩ := Int.eq_ofNat_of_zero_le ha
 obtain ⟨y, rfl⟩ := Int.eq_ofNat_of_zero_le hb
 have := gcd0 y x
 rw [impl_gcd.f_eq]
 simpa [Int.gcd] using this
theorem Gcd0 (y : Nat) : ∀ x : Nat, x ≤ 9223372036854775807 → y ≤ 9223372036854775807 → spec_l01Gcd.l0 (x : Int) (y : Int) = some ((Nat.gcd x y : Nat) : Int) := by
 induction y using Nat.strongRecOn with
 | _ y ih =>
  intro x hx hy
  (rw [spec_l01Gcd.l0_eq])
  by_cases h : y = 0
  ·
   subst h
   have hw : wrapI (0 - (x : Int)) = -(x : Int) := by rw [w64 (by omega) (by omega)]; omega
   rw [hw, if_pos (by simp), if_neg (by omega)]
   simp
  ·
   have e : Int.tmod (x : Int) (y : Int) = ((x % y : Nat) : Int) := by rw [Int.ofNat_tmod]
   have hlt := Nat.mod_lt x (show y > 0 by omega)
   have := ih (x % y) hlt y hy (by omega)
   rw [show Nat.gcd y (x % y) = Nat.gcd x y by rw [Nat.gcd_comm x y, Nat.gcd_rec y x, Nat.gcd_comm]] at this
   rw [e]
   (with_reducible repeat (first | refine go_pos (by first | assumption | omega | rfl | exact B_pos (by omega)) ?_ | refine go_neg (by first | assumption | omega | decide | exact B_not (by omega)) ?_ | refine go_bind (by first | assumption) ?_ | dsimp only))
   exact this
theorem Gcd_ {a b : Int} (ha : 0 ≤ a) (hb : 0 ≤ b) (ha' : a ≤ 9223372036854775807) (hb' : b ≤ 9223372036854775807) : spec_l01Gcd.f a b = some ((Int.gcd a b : Nat) : Int) := by
 obtain ⟨x, rfl⟩ := Int.eq_ofNat_of_zero_le ha
 obtain ⟨y, rfl⟩ := Int.eq_ofNat_of_zero_le hb
 have := Gcd0 y x (by omega) (by omega)
 rw [spec_l01Gcd.f_eq]
 simpa [Int.gcd] using this
theorem Grp.foldl_in {g : List (List Int)} (hg : Grp g) : ∀ (xs : List Int) (x : Int), AllIn g.length xs → 0 ≤ x → x < g.length → 0 ≤ xs.foldl (T g) x ∧ xs.foldl (T g) x < g.length := by
 intro xs
 induction xs with
 | nil => exact fun x _ a b => ⟨a, b⟩
 | cons y ys ih =>
  intro x hx x0 x1
  obtain ⟨y0, y1⟩ := hx.mem (List.mem_cons_self ..)
  obtain ⟨z0, z1⟩ := hg.ent x y x0 x1 y0 y1
  exact ih _ (allIn_of fun z hz => hx.mem (List.mem_cons_of_mem _ hz)) z0 z1
theorem take_rd {xs : List Int} {m : Nat} (h : m < xs.length) : xs.take (m + 1) = xs.take m ++ [rd xs m] := by
 rw [List.take_succ_eq_append_getElem h, rd_get h]
theorem times {g : List (List Int)} (hg : Grp g) (xs : List Int) (hx : AllIn g.length xs) (hl : xs.length ≤ maxLen) : impl_Group_times.f g xs = some (xs.foldl (T g) 0) := by
 have hm := maxLen_le
 have n1 := hg.n1
 rw [impl_Group_times.f_eq]
 have := up xs.length (fun i => impl_Group_times.l0 ((xs.take i).foldl (T g) 0) xs (xs.length : Int) (i : Int) g) (fun i hi => by
  obtain ⟨z0, z1⟩ := hg.foldl_in (xs.take i) 0 (hx.take i) (by omega) (by omega)
  obtain ⟨y0, y1⟩ := hx i (by omega) (by omega)
  have hr : ((row g ((xs.take i).foldl (T g) 0)).length : Int) = g.length := by rw [hg.row _ z0 z1]
  have hw : wrapI ((i : Int) + 1) = ((i + 1 : Nat) : Int) := by rw [w64 (by omega) (by omega)]; omega
  rw [take_rd hi, List.foldl_append, List.foldl_cons, List.foldl_nil]
  (rw [impl_Group_times.l0_eq, hw])
  ((with_reducible repeat (first | refine go_pos (by first | assumption | omega | rfl | exact B_pos (by omega)) ?_ | refine go_neg (by first | assumption | omega | decide | exact B_not (by omega)) ?_ | refine go_bind (by first | assumption) ?_ | dsimp only)); first | done | (with_reducible rfl) | simp (disch := omega) only [w64] | (show False; done)))
 simp only [List.take_zero, List.foldl_nil, List.take_length, Int.natCast_zero] at this
 rw [this]
 (rw [impl_Group_times.l0_eq])
 ((with_reducible repeat (first | refine go_pos (by first | assumption | omega | rfl | exact B_pos (by omega)) ?_ | refine go_neg (by first | assumption | omega | decide | exact B_not (by omega)) ?_ | refine go_bind (by first | assumption) ?_ | dsimp only)); first | done | (with_reducible rfl) | simp (disch := omega) only [w64] | (show False; done))
theorem times2 {g : List (List Int)} (hg : Grp g) {x y : Int} (x0 : 0 ≤ x) (x1 : x < g.length) (y0 : 0 ≤ y) (y1 : y < g.length) : impl_Group_times.f g [x, y] = some (T g x y) := by
 have := times hg [x, y] (allIn_two x0 x1 y0 y1) (by unfold maxLen; simp)
 simpa [hg.one x x0 x1] using this
end Go.Proofs.YthmcpmnhdbeahaaGreat.V
namespace Go.Proofs.YthmcpmnhdbeahaaGreat.V
open Go.RowKit Go.Proofs.YthmcpmnhdbeahaaGreat.D Go.Proofs.YthmcpmnhdbeahaaGreat.P
structure Mdl (g : List (List Int)) (m : Int) (u : List Int) : Prop where
 m2 : 2 ≤ m
 m12 : m ≤ 12
 len : u.length = g.length
 unit : ∀ i : Int, 0 ≤ i → i < u.length → 1 ≤ rd u i ∧ rd u i < m ∧ Int.gcd (rd u i) m = 1
 hom : ∀ i : Int, 0 ≤ i → i < u.length → ∀ j : Int, 0 ≤ j → j < u.length → rd u (T g i j) = rd u i * rd u j % m
theorem unit_one : ∀ m : Nat, m ≤ 12 → ∀ u : Nat, u < m → Nat.gcd u m = 1 → u = u * u % m → 1 ≤ u → u = 1 := by decide
theorem Mdl.one {g : List (List Int)} {m : Int} {u : List Int} (hg : Grp g) (h : Mdl g m u) : rd u 0 = 1 := by
 have n1 := hg.n1
 have hl := h.len
 obtain ⟨a1, a2, a3⟩ := h.unit 0 (by omega) (by omega)
 have e := h.hom 0 (by omega) (by omega) 0 (by omega) (by omega)
 rw [hg.one 0 (by omega) (by omega)] at e
 have m2 := h.m2; have m12 := h.m12
 obtain ⟨M, rfl⟩ := Int.eq_ofNat_of_zero_le (show 0 ≤ m by omega)
 obtain ⟨U, hU⟩ := Int.eq_ofNat_of_zero_le (show 0 ≤ rd u 0 by omega)
 rw [hU] at a1 a2 a3 e ⊢
 have := unit_one M (by omega) U (by omega) (by simpa [Int.gcd] using a3) (by exact_mod_cast e) (by omega)
 omega
theorem mul_lt_small {a b m : Int} (a0 : 0 ≤ a) (a1 : a < m) (b0 : 0 ≤ b) (b1 : b < m) (hm : m ≤ 1000) : 0 ≤ a * b ∧ a * b ≤ 1000000 := by
 refine ⟨Int.mul_nonneg a0 b0, ?_⟩
 have h1 : a * b ≤ 1000 * b := Int.mul_le_mul_of_nonneg_right (by omega) b0
 omega
theorem Mdl.at {g : List (List Int)} {m : Int} {u : List Int} (h : Mdl g m u) {x : Int} (x0 : 0 ≤ x) (x1 : x < g.length) : 1 ≤ rd u x ∧ rd u x < m := by
 have hl := h.len
 obtain ⟨a, b, _⟩ := h.unit x x0 (by omega)
 exact ⟨a, b⟩
theorem small_prod {m x : Int} {u : List Int} {g : List (List Int)} (hm : Mdl g m u) (x0 : 0 ≤ x) (x1 : x < g.length) {b : Int} (b0 : 0 ≤ b) (b1 : b < m) : 0 ≤ rd u x * b ∧ rd u x * b ≤ 1000000 := by
 have m12 := hm.m12
 have := hm.at x0 x1
 exact mul_lt_small (by omega) this.2 b0 b1 (by omega)
theorem isUnit {m x : Int} (m0 : 0 ≤ m) : impl_isUnit.f m x = some (B (1 ≤ x ∧ x < m ∧ Int.gcd x m = 1)) := by
 rw [impl_isUnit.f_eq]
 by_cases h1 : 1 ≤ x ∧ x < m
 ·
  have h := gcd_ m0 (show 0 ≤ x by omega)
  (with_reducible repeat (first | refine go_pos (by first | assumption | omega | rfl | exact B_pos (by omega)) ?_ | refine go_neg (by first | assumption | omega | decide | exact B_not (by omega)) ?_ | refine go_bind (by first | assumption) ?_ | dsimp only))
  rw [Int.gcd_comm]
  by_cases h3 : Int.gcd x m = 1
  ·
   rw [B_pos ⟨h1.1, h1.2, h3⟩]; simp [h3]
  ·
   rw [B_neg fun h => h3 h.2.2]
   simp; omega
 ·
  rw [B_neg fun h => h1 ⟨h.1, h.2.1⟩]
  by_cases h2 : 1 ≤ x <;> ((with_reducible repeat (first | refine go_pos (by first | assumption | omega | rfl | exact B_pos (by omega)) ?_ | refine go_neg (by first | assumption | omega | decide | exact B_not (by omega)) ?_ | refine go_bind (by first | assumption) ?_ | dsimp only)); first | done | (with_reducible rfl) | simp (disch := omega) only [w64] | (show False; done))
theorem isModulus (m : Int) : impl_isModulus.f m = some (B (2 ≤ m ∧ m ≤ 12)) := by
 rw [impl_isModulus.f_eq]
 by_cases h : m ≥ 2
 ·
  rw [if_pos h, B_decide, B_congr (show m ≤ 12 ↔ (2 ≤ m ∧ m ≤ 12) from ⟨fun h' => ⟨h, h'⟩, fun h' => h'.2⟩)]
 ·
  rw [if_neg h, B_neg (fun h' => h h'.1)]
theorem mdl_iff (g : List (List Int)) (m : Int) (u : List Int) : Mdl g m u ↔ (2 ≤ m ∧ m ≤ 12) ∧ u.length = g.length ∧ (∀ i : Int, 0 ≤ i → i < u.length → 1 ≤ rd u i ∧ rd u i < m ∧ Int.gcd (rd u i) m = 1) ∧ ∀ i : Int, 0 ≤ i → i < u.length → ∀ j : Int, 0 ≤ j → j < u.length → rd u (T g i j) = rd u i * rd u j % m :=
 ⟨fun h => ⟨⟨h.m2, h.m12⟩, h.len, h.unit, h.hom⟩, fun ⟨⟨a, b⟩, c, d, e⟩ => ⟨a, b, c, d, e⟩⟩
theorem isModule {g : List (List Int)} (hg : Grp g) (m : Int) (u : List Int) (hl : u.length ≤ maxLen) : impl_isModule.f g m u = some (B (Mdl g m u)) := by
 have hm := maxLen_le
 have n1 := hg.n1
 (rw [impl_isModule.f_eq])
 by_cases h1 : 2 ≤ m ∧ m ≤ 12
 rotate_left
 ·
  rw [B_neg fun h => h1 ⟨h.m2, h.m12⟩]
  ((with_reducible repeat (first | refine go_pos (by first | assumption | omega | rfl | exact B_pos (by omega)) ?_ | refine go_neg (by first | assumption | omega | decide | exact B_not (by omega)) ?_ | refine go_bind (by first | assumption | exact isModulus _ | exact impl_order.f_eq _) ?_ | dsimp only)); first | done | (with_reducible rfl) | simp (disch := omega) only [w64] | (show False; done))
 by_cases h3 : (u.length : Int) = g.length
 rotate_left
 ·
  rw [B_neg fun h => h3 (by rw [h.len])]
  ((with_reducible repeat (first | refine go_pos (by first | assumption | omega | rfl | exact B_pos (by omega)) ?_ | refine go_neg (by first | assumption | omega | decide | exact B_not (by omega)) ?_ | refine go_bind (by first | assumption | exact isModulus _ | exact impl_order.f_eq _) ?_ | dsimp only)); first | done | (with_reducible rfl) | simp (disch := omega) only [w64] | (show False; done))
 by_cases h5 : rd u 0 = 1
 rotate_left
 ·
  rw [B_neg fun h => h5 (h.one hg)]
  ((with_reducible repeat (first | refine go_pos (by first | assumption | omega | rfl | exact B_pos (by omega)) ?_ | refine go_neg (by first | assumption | omega | decide | exact B_not (by omega)) ?_ | refine go_bind (by first | assumption | exact isModulus _ | exact impl_order.f_eq _) ?_ | dsimp only)); first | done | (with_reducible rfl) | simp (disch := omega) only [w64] | (show False; done))
 (with_reducible repeat (first | refine go_pos (by first | assumption | omega | rfl | exact B_pos (by omega)) ?_ | refine go_neg (by first | assumption | omega | decide | exact B_not (by omega)) ?_ | refine go_bind (by first | assumption | exact isModulus _ | exact impl_order.f_eq _) ?_ | dsimp only))
 rw [B_congr (mdl_iff g m u), B_congr (show ((2 ≤ m ∧ m ≤ 12) ∧ u.length = g.length ∧ (∀ i : Int, 0 ≤ i → i < u.length → 1 ≤ rd u i ∧ rd u i < m ∧ Int.gcd (rd u i) m = 1) ∧ ∀ i : Int, 0 ≤ i → i < u.length → ∀ j : Int, 0 ≤ j → j < u.length → rd u (T g i j) = rd u i * rd u j % m) ↔ _ from ⟨fun h => h.2.2, fun h => ⟨h1, by omega, h⟩⟩)]
 refine scanB u.length (fun i => impl_isModule.l0 u (u.length : Int) i g m u) (fun i => 1 ≤ rd u i ∧ rd u i < m ∧ Int.gcd (rd u i) m = 1) _ (fun i i0 i1 _ => ?_) (fun hu => ?_)
 ·
  have hu := isUnit (m := m) (x := rd u i) (by omega)
  refine ⟨fun h => ?_, fun h => ?_⟩ <;> (rw [impl_isModule.l0_eq]) <;> ((with_reducible repeat (first | refine go_pos (by first | assumption | omega | rfl | exact B_pos (by omega)) ?_ | refine go_neg (by first | assumption | omega | decide | exact B_not (by omega)) ?_ | refine go_bind (by first | assumption) ?_ | dsimp only)); first | done | (with_reducible rfl) | simp (disch := omega) only [w64] | (show False; done))
 (rw [impl_isModule.l0_eq])
 (with_reducible repeat (first | refine go_pos (by first | assumption | omega | rfl | exact B_pos (by omega)) ?_ | refine go_neg (by first | assumption | omega | decide | exact B_not (by omega)) ?_ | refine go_bind (by first | assumption | exact impl_order.f_eq _) ?_ | dsimp only))
 rw [← h3]
 refine scanT u.length (fun i => impl_isModule.l1 (u.length : Int) i g m u) (fun i => ∀ j : Int, 0 ≤ j → j < u.length → rd u (T g i j) = rd u i * rd u j % m) (fun i i0 i1 _ => ?_) (fun _ => by (rw [impl_isModule.l1_eq]); ((with_reducible repeat (first | refine go_pos (by first | assumption | omega | rfl | exact B_pos (by omega)) ?_ | refine go_neg (by first | assumption | omega | decide | exact B_not (by omega)) ?_ | refine go_bind (by first | assumption) ?_ | dsimp only)); first | done | (with_reducible rfl) | simp (disch := omega) only [w64] | (show False; done)))
 have inner := scanI u.length (fun j => impl_isModule.l2 i (u.length : Int) i (u.length : Int) j g m u) (fun j => rd u (T g i j) = rd u i * rd u j % m) (some false) (impl_isModule.l1 (u.length : Int) (i + 1) g m u) (fun j j0 j1 _ => by
  have ht := times2 hg i0 (by omega) j0 (by omega)
  obtain ⟨e0, e1⟩ := hg.ent i j i0 (by omega) j0 (by omega)
  obtain ⟨p0, p1⟩ := mul_lt_small (show 0 ≤ rd u i by have := (hu i i0 i1).1; omega) (hu i i0 i1).2.1 (show 0 ≤ rd u j by have := (hu j j0 j1).1; omega) (hu j j0 j1).2.1 (by omega)
  have hwp : wrapI (rd u i * rd u j) = rd u i * rd u j := w64 (by omega) (by omega)
  have e := tmod_nn (m := m) p0
  refine ⟨fun h => ?_, fun h => ?_⟩ <;> (rw [impl_isModule.l2_eq, hwp, e]) <;> ((with_reducible repeat (first | refine go_pos (by first | assumption | omega | rfl | exact B_pos (by omega)) ?_ | refine go_neg (by first | assumption | omega | decide | exact B_not (by omega)) ?_ | refine go_bind (by first | assumption) ?_ | dsimp only)); first | done | (with_reducible rfl) | simp (disch := omega) only [w64] | (show False; done))) (fun _ => by (rw [impl_isModule.l2_eq]); ((with_reducible repeat (first | refine go_pos (by first | assumption | omega | rfl | exact B_pos (by omega)) ?_ | refine go_neg (by first | assumption | omega | decide | exact B_not (by omega)) ?_ | refine go_bind (by first | assumption) ?_ | dsimp only)); first | done | (with_reducible rfl) | simp (disch := omega) only [w64] | (show False; done)))
 refine ⟨fun h => ?_, fun h => ?_⟩ <;> (rw [impl_isModule.l1_eq]) <;> (with_reducible repeat (first | refine go_pos (by first | assumption | omega | rfl | exact B_pos (by omega)) ?_ | refine go_neg (by first | assumption | omega | decide | exact B_not (by omega)) ?_ | refine go_bind (by first | assumption | exact impl_order.f_eq _) ?_ | dsimp only)) <;> rw [← h3]
 ·
  exact inner.1 h
 ·
  exact inner.2 h
theorem Is02 {g : List (List Int)} (hg : Grp g) (m : Int) (u : List Int) (hl : u.length ≤ maxLen) : spec_l02Is.f g m u = some (B (Mdl g m u)) := by
 have hm := maxLen_le
 have n1 := hg.n1
 (rw [spec_l02Is.f_eq])
 by_cases h1 : 2 ≤ m ∧ m ≤ 12
 rotate_left
 ·
  rw [B_neg fun h => h1 ⟨h.m2, h.m12⟩]
  ((with_reducible repeat (first | refine go_pos (by first | assumption | omega | rfl | exact B_pos (by omega)) ?_ | refine go_neg (by first | assumption | omega | decide | exact B_not (by omega)) ?_ | refine go_bind (by first | assumption | exact In_ _ _ _) ?_ | dsimp only)); first | done | (with_reducible rfl) | simp (disch := omega) only [w64] | (show False; done))
 by_cases h3 : (u.length : Int) = g.length
 rotate_left
 ·
  rw [B_neg fun h => h3 (by rw [h.len])]
  ((with_reducible repeat (first | refine go_pos (by first | assumption | omega | rfl | exact B_pos (by omega)) ?_ | refine go_neg (by first | assumption | omega | decide | exact B_not (by omega)) ?_ | refine go_bind (by first | assumption | exact In_ _ _ _) ?_ | dsimp only)); first | done | (with_reducible rfl) | simp (disch := omega) only [w64] | (show False; done))
 (with_reducible repeat (first | refine go_pos (by first | assumption | omega | rfl | exact B_pos (by omega)) ?_ | refine go_neg (by first | assumption | omega | decide | exact B_not (by omega)) ?_ | refine go_bind (by first | assumption | exact In_ _ _ _) ?_ | dsimp only))
 rw [B_congr (mdl_iff g m u), B_congr (show ((2 ≤ m ∧ m ≤ 12) ∧ u.length = g.length ∧ (∀ i : Int, 0 ≤ i → i < u.length → 1 ≤ rd u i ∧ rd u i < m ∧ Int.gcd (rd u i) m = 1) ∧ ∀ i : Int, 0 ≤ i → i < u.length → ∀ j : Int, 0 ≤ j → j < u.length → rd u (T g i j) = rd u i * rd u j % m) ↔ _ from ⟨fun h => h.2.2, fun h => ⟨h1, by omega, h⟩⟩)]
 have hw1 : wrapI (m - 1) = m - 1 := w64 (by omega) (by omega)
 refine scanB u.length (fun i => spec_l02Is.l0 i g m u) (fun i => 1 ≤ rd u i ∧ rd u i < m ∧ Int.gcd (rd u i) m = 1) _ (fun i i0 i1 _ => ?_) (fun hu => ?_)
 ·
  refine ⟨fun h => ?_, fun h => ?_⟩ <;> (rw [spec_l02Is.l0_eq, hw1])
  ·
   have hgc := Gcd_ (a := rd u i) (b := m) (by omega) (by omega) (by omega) (by omega)
   ((with_reducible repeat (first | refine go_pos (by first | assumption | omega | rfl | exact B_pos (by omega)) ?_ | refine go_neg (by first | assumption | omega | decide | exact B_not (by omega)) ?_ | refine go_bind (by first | assumption | exact In_ _ _ _) ?_ | dsimp only)); first | done | (with_reducible rfl) | simp (disch := omega) only [w64] | (show False; done))
  ·
   by_cases h6 : 1 ≤ rd u i ∧ rd u i < m
   ·
    have hgc := Gcd_ (a := rd u i) (b := m) (by omega) (by omega) (by omega) (by omega)
    ((with_reducible repeat (first | refine go_pos (by first | assumption | omega | rfl | exact B_pos (by omega)) ?_ | refine go_neg (by first | assumption | omega | decide | exact B_not (by omega)) ?_ | refine go_bind (by first | assumption | exact In_ _ _ _) ?_ | dsimp only)); first | done | (with_reducible rfl) | simp (disch := omega) only [w64] | (show False; done))
   ·
    ((with_reducible repeat (first | refine go_pos (by first | assumption | omega | rfl | exact B_pos (by omega)) ?_ | refine go_neg (by first | assumption | omega | decide | exact B_not (by omega)) ?_ | refine go_bind (by first | assumption | exact In_ _ _ _) ?_ | dsimp only)); first | done | (with_reducible rfl) | simp (disch := omega) only [w64] | (show False; done))
 (rw [spec_l02Is.l0_eq])
 (with_reducible repeat (first | refine go_pos (by first | assumption | omega | rfl | exact B_pos (by omega)) ?_ | refine go_neg (by first | assumption | omega | decide | exact B_not (by omega)) ?_ | refine go_bind (by first | assumption) ?_ | dsimp only))
 refine scanT u.length (fun i => spec_l02Is.l1 i g m u) (fun i => ∀ j : Int, 0 ≤ j → j < u.length → rd u (T g i j) = rd u i * rd u j % m) (fun i i0 i1 _ => ?_) (fun _ => by (rw [spec_l02Is.l1_eq]); ((with_reducible repeat (first | refine go_pos (by first | assumption | omega | rfl | exact B_pos (by omega)) ?_ | refine go_neg (by first | assumption | omega | decide | exact B_not (by omega)) ?_ | refine go_bind (by first | assumption) ?_ | dsimp only)); first | done | (with_reducible rfl) | simp (disch := omega) only [w64] | (show False; done)))
 have ri := hg.row i i0 (by omega)
 have inner := scanI u.length (fun j => spec_l02Is.l2 i j g m u) (fun j => rd u (T g i j) = rd u i * rd u j % m) (some false) (spec_l02Is.l1 (i + 1) g m u) (fun j j0 j1 _ => by
  obtain ⟨e0, e1⟩ := hg.ent i j i0 (by omega) j0 (by omega)
  obtain ⟨p0, p1⟩ := mul_lt_small (show 0 ≤ rd u i by have := (hu i i0 i1).1; omega) (hu i i0 i1).2.1 (show 0 ≤ rd u j by have := (hu j j0 j1).1; omega) (hu j j0 j1).2.1 (by omega)
  have hwp : wrapI (rd u i * rd u j) = rd u i * rd u j := w64 (by omega) (by omega)
  have e := tmod_nn (m := m) p0
  refine ⟨fun h => ?_, fun h => ?_⟩ <;> (rw [spec_l02Is.l2_eq, hwp, e]) <;> ((with_reducible repeat (first | refine go_pos (by first | assumption | omega | rfl | exact B_pos (by omega)) ?_ | refine go_neg (by first | assumption | omega | decide | exact B_not (by omega)) ?_ | refine go_bind (by first | assumption) ?_ | dsimp only)); first | done | (with_reducible rfl) | simp (disch := omega) only [w64] | (show False; done))) (fun _ => by (rw [spec_l02Is.l2_eq]); ((with_reducible repeat (first | refine go_pos (by first | assumption | omega | rfl | exact B_pos (by omega)) ?_ | refine go_neg (by first | assumption | omega | decide | exact B_not (by omega)) ?_ | refine go_bind (by first | assumption) ?_ | dsimp only)); first | done | (with_reducible rfl) | simp (disch := omega) only [w64] | (show False; done)))
 refine ⟨fun h => ?_, fun h => ?_⟩ <;> (rw [spec_l02Is.l1_eq]) <;> (with_reducible repeat (first | refine go_pos (by first | assumption | omega | rfl | exact B_pos (by omega)) ?_ | refine go_neg (by first | assumption | omega | decide | exact B_not (by omega)) ?_ | refine go_bind (by first | assumption) ?_ | dsimp only))
 ·
  exact inner.1 h
 ·
  exact inner.2 h
def GM (g : List (List Int)) (m : Int) (u : List Int) : Prop := Grp g ∧ Mdl g m u
theorem areModules1 (g : List (List Int)) (hl : g.length ≤ maxLen) (hr : ∀ r ∈ g, r.length ≤ maxLen) (m : Int) (u : List Int) (hu : u.length ≤ maxLen) : impl_areModules.f g [(m, u)] = some (B (GM g m u)) := by
 have hG := isGroup g hl hr
 rw [impl_areModules.f_eq]
 have st : impl_areModules.l0 [(m, u)] (([(m, u)] : List (Int × List Int)).length : Int) 1 g = some true := by (rw [impl_areModules.l0_eq]); exact if_neg (by simp)
 (rw [impl_areModules.l0_eq])
 rw [if_pos (by simp), if_pos (by simp), if_pos (by simp), hG]
 by_cases h1 : Grp g
 ·
  have hM := isModule h1 m u hu
  rw [B_pos h1]
  show (Option.bind (impl_isModule.f g m u) _) = _
  rw [hM]
  by_cases h2 : Mdl g m u
  ·
   rw [B_pos h2, B_pos ⟨h1, h2⟩]
   simpa [show wrapI 1 = 1 from w64 (by omega) (by omega)] using st
  ·
   rw [B_neg h2, B_neg fun h => h2 h.2]
   rfl
 ·
  rw [B_neg h1, B_neg fun h => h1 h.1]
  rfl
theorem moduleCode1 (g : List (List Int)) (hl : g.length ≤ maxLen) (hr : ∀ r ∈ g, r.length ≤ maxLen) (m : Int) (u : List Int) (hu : u.length ≤ maxLen) : impl_moduleCode.f g [(m, u)] = some (ite_ (GM g m u) 0 1) := by
 rw [impl_moduleCode.f_eq, areModules1 g hl hr m u hu]
 by_cases h : GM g m u
 ·
  rw [B_pos h, ite_pos h]; rfl
 ·
  rw [B_neg h, ite_neg h]; rfl
end Go.Proofs.YthmcpmnhdbeahaaGreat.V
namespace Go.Proofs.YthmcpmnhdbeahaaGreat.V
open Go.RowKit Go.Proofs.YthmcpmnhdbeahaaGreat.D Go.Proofs.YthmcpmnhdbeahaaGreat.P
theorem Mod_ {a m : Int} (h0 : -1000000000 ≤ a) (h1 : a ≤ 1000000000) (m0 : 0 < m) (m1 : m ≤ 1000000) : spec_l01Mod.f a m = some (a % m) := by
 rw [spec_l01Mod.f_eq]
 have t0 := Int.tmod_lt_of_pos a m0
 have t1 : -m < Int.tmod a m := Int.lt_tmod_of_pos a m0
 have hq := Int.mul_tdiv_add_tmod a m
 have h5 : (m * a.tdiv m + a.tmod m) % m = a.tmod m % m := by rw [Int.add_comm, Int.add_mul_emod_self_left]
 rw [hq] at h5
 rw [w64 (by omega) (by omega), Int.tmod_eq_emod_of_nonneg (show 0 ≤ Int.tmod a m + m by omega), Int.add_emod_right, ← h5]
 ((with_reducible repeat (first | refine go_pos (by first | assumption | omega | rfl | exact B_pos (by omega)) ?_ | refine go_neg (by first | assumption | omega | decide | exact B_not (by omega)) ?_ | refine go_bind (by first | assumption) ?_ | dsimp only)); first | done | (with_reducible rfl) | simp (disch := omega) only [w64] | (show False; done))
def cells (g : List (List Int)) (d : Int) : Int := ((g.length : Int) - 1) ^ d.toNat
def idx (g : List (List Int)) (xs : List Int) : Int := xs.foldl (fun a x => a * ((g.length : Int) - 1) + x - 1) 0
def NoUnit (xs : List Int) : Prop := ∀ j : Int, 0 ≤ j → j < xs.length → ¬ rd xs j = 0
noncomputable def At (g : List (List Int)) (v xs : List Int) : Int := ite_ (NoUnit xs) (rd v (idx g xs)) 0
end Go.Proofs.YthmcpmnhdbeahaaGreat.V
namespace Go.Proofs.YthmcpmnhdbeahaaGreat.V
open Go.RowKit Go.Proofs.YthmcpmnhdbeahaaGreat.D Go.Proofs.YthmcpmnhdbeahaaGreat.P
theorem inv_is {g : List (List Int)} (hg : Grp g) {a : Int} (a0 : 0 ≤ a) (a1 : a < g.length) :
  ∃ b : Int, 0 ≤ b ∧ b < g.length ∧ T g a b = 0 ∧ impl_Group_inverse.f g a = some b ∧ spec_l01Inverse.f g a = some b := by
 have hm := maxLen_le
 have n8 := hg.n8
 have lr := hg.row a a0 a1
 have hlr : (row g a).length ≤ maxLen := le_maxLen (by omega)
 rcases index_ (row g a) 0 hlr with ⟨h, _⟩ | ⟨b, b0, b1, hf, hb, e⟩
 ·
  obtain ⟨b, b0, b1, hb⟩ := hg.inv a a0 a1
  exact absurd hb (h b b0 (by omega))
 refine ⟨b, b0, by omega, hb, ?_, ?_⟩
 ·
  rw [impl_Group_inverse.f_eq]
  ((with_reducible repeat (first | refine go_pos (by first | assumption | omega | rfl | exact B_pos (by omega)) ?_ | refine go_neg (by first | assumption | omega | decide | exact B_not (by omega)) ?_ | refine go_bind (by first | assumption) ?_ | dsimp only)); first | done | (with_reducible rfl) | simp (disch := omega) only [w64] | (show False; done))
 ·
  rw [spec_l01Inverse.f_eq]
  obtain ⟨n, rfl⟩ := Int.eq_ofNat_of_zero_le b0
  have := up n (fun i => spec_l01Inverse.l0 a (i : Int) g) (fun i hi => by
   have h2 : T g a i ≠ 0 := hf i (by omega) (by omega)
   have hw : wrapI ((i : Int) + 1) = ((i + 1 : Nat) : Int) := by rw [w64 (by omega) (by omega)]; omega
   (rw [spec_l01Inverse.l0_eq, spec_l01N.f_eq, Option.bind_some, hw])
   ((with_reducible repeat (first | refine go_pos (by first | assumption | omega | rfl | exact B_pos (by omega)) ?_ | refine go_neg (by first | assumption | omega | decide | exact B_not (by omega)) ?_ | refine go_bind (by first | assumption) ?_ | dsimp only)); first | done | (with_reducible rfl) | simp (disch := omega) only [w64] | (show False; done)))
  simp only [Int.natCast_zero] at this
  have hb : T g a n = 0 := hb
  rw [this, spec_l01Inverse.l0_eq, spec_l01N.f_eq, Option.bind_some]
  ((with_reducible repeat (first | refine go_pos (by first | assumption | omega | rfl | exact B_pos (by omega)) ?_ | refine go_neg (by first | assumption | omega | decide | exact B_not (by omega)) ?_ | refine go_bind (by first | assumption) ?_ | dsimp only)); first | done | (with_reducible rfl) | simp (disch := omega) only [w64] | (show False; done))
theorem mapped {F : Int → Option Int} {G : Int → Int} (xs : List Int) (hl : xs.length ≤ 1048576) (hF : ∀ x ∈ xs, F x = some (G x)) : impl_mapped.f xs F = some (xs.map G) := by
 rw [impl_mapped.f_eq]
 have := up xs.length (fun j => impl_mapped.l0 F xs (xs.length : Int) (j : Int) ((xs.take j).map G)) (fun j h => by
  have hw : wrapI ((j : Int) + 1) = ((j + 1 : Nat) : Int) := by rw [w64 (by omega) (by omega)]; omega
  have l1 : ((xs.take j).map G).length = j := by rw [List.length_map, List.length_take]; omega
  have l2 : ∀ x : Int, ([x] : List Int).length = 1 := fun _ => rfl
  have hf := hF _ (rd_mem (show (0 : Int) ≤ j by omega) (show (j : Int) < xs.length by omega))
  rw [take_rd h, List.map_append, List.map_singleton, impl_mapped.l0_eq, hw, hf, Option.bind_some, l1, l2]
  ((with_reducible repeat (first | refine go_pos (by first | assumption | omega | rfl | exact B_pos (by omega)) ?_ | refine go_neg (by first | assumption | omega | decide | exact B_not (by omega)) ?_ | refine go_bind (by first | assumption) ?_ | dsimp only)); first | done | (with_reducible rfl) | simp (disch := omega) only [w64] | (show False; done)))
 simp only [Int.natCast_zero, List.take_zero, List.map_nil, List.take_length] at this
 rw [this, impl_mapped.l0_eq]
 ((with_reducible repeat (first | refine go_pos (by first | assumption | omega | rfl | exact B_pos (by omega)) ?_ | refine go_neg (by first | assumption | omega | decide | exact B_not (by omega)) ?_ | refine go_bind (by first | assumption) ?_ | dsimp only)); first | done | (with_reducible rfl) | simp (disch := omega) only [w64] | (show False; done))
end Go.Proofs.YthmcpmnhdbeahaaGreat.V
namespace Go.Proofs.YthmcpmnhdbeahaaGreat.V
open Go.RowKit Go.Proofs.YthmcpmnhdbeahaaGreat.D Go.Proofs.YthmcpmnhdbeahaaGreat.P
theorem Own_ (xs : List Int) (hl : xs.length ≤ 1048576) : spec_l01Own.f xs = some xs := by
 rw [spec_l01Own.f_eq, List.nil_append, show ([] : List Int).length = 0 from rfl]
 ((with_reducible repeat (first | refine go_pos (by first | assumption | omega | rfl | exact B_pos (by omega)) ?_ | refine go_neg (by first | assumption | omega | decide | exact B_not (by omega)) ?_ | refine go_bind (by first | assumption) ?_ | dsimp only)); first | done | (with_reducible rfl) | simp (disch := omega) only [w64] | (show False; done))
end Go.Proofs.YthmcpmnhdbeahaaGreat.V
namespace Go.Proofs.YthmcpmnhdbeahaaGreat.V
open Go.RowKit Go.Proofs.YthmcpmnhdbeahaaGreat.D
abbrev Vc := Nat → Int
inductive Sp (m : Int) (W : Nat) (G : Vc → Prop) : Vc → Prop
 | nil : Sp m W G (fun _ => 0)
 | add {x g : Vc} (c : Int) : Sp m W G x → G g → Sp m W G (fun i => x i + c * g i)
 | alike {x y : Vc} : Sp m W G x → (∀ i, i < W → m ∣ x i - y i) → Sp m W G y
section
variable {m : Int} {W : Nat} {G G' : Vc → Prop} {x y : Vc}
theorem dvd_same {m a b : Int} (h : a = b) : m ∣ a - b := ⟨0, by omega⟩
theorem Sp.plus (hx : Sp m W G x) (hy : Sp m W G y) : Sp m W G (fun i => x i + y i) := by
 induction hy with
 | nil => exact .alike hx fun i _ => dvd_same (by dsimp only; omega)
 | add c _ hg ih => exact .alike (.add c ih hg) fun i _ => dvd_same (by dsimp only; omega)
 | alike _ h ih =>
  refine .alike ih fun i hi => ?_
  have := h i hi
  rwa [show ∀ a b c : Int, a + b - (a + c) = b - c from fun a b c => by omega]
theorem Sp.mul (c : Int) (hx : Sp m W G x) : Sp m W G (fun i => c * x i) := by
 induction hx with
 | nil => exact .alike .nil fun i _ => dvd_same (by simp)
 | add d _ hg ih => exact .alike (.add (c * d) ih hg) fun i _ => dvd_same (by rw [Int.mul_add, Int.mul_assoc])
 | alike _ h ih =>
  refine .alike ih fun i hi => ?_
  rw [← Int.mul_sub]
  exact Int.dvd_mul_of_dvd_right (h i hi)
theorem Sp.gen {g : Vc} (h : G g) : Sp m W G g := .alike (.add 1 .nil h) fun i _ => dvd_same (by omega)
theorem Sp.mono (h : ∀ g, G g → Sp m W G' g) (hx : Sp m W G x) : Sp m W G' x := by
 induction hx with
 | nil => exact .nil
 | add c _ hg ih => exact ih.plus ((h _ hg).mul c)
 | alike _ h' ih => exact .alike ih h'
theorem Sp.two {a b : Int} (hx : Sp m W G x) (hy : Sp m W G y) {z : Vc} (h : ∀ i, i < W → m ∣ a * x i + b * y i - z i) : Sp m W G z := .alike ((hx.mul a).plus (hy.mul b)) h
theorem Sp.dvd {d : Int} (hd : d ∣ m) {i : Nat} (hi : i < W) (h : ∀ g, G g → d ∣ g i) (hx : Sp m W G x) : d ∣ x i := by
 induction hx with
 | nil => exact Int.dvd_zero d
 | add c _ hg ih => exact Int.dvd_add ih (Int.dvd_mul_of_dvd_right (h _ hg))
 | alike _ h' ih =>
  have := Int.dvd_sub ih (Int.dvd_trans hd (h' i hi))
  rwa [show ∀ a b : Int, a - (a - b) = b from fun a b => by omega] at this
structure Sub (m : Int) (W : Nat) (M : Vc → Prop) : Prop where
 zero : M fun _ => 0
 lin : ∀ x y, M x → M y → ∀ c, M fun i => x i + c * y i
 alike : ∀ x y, M x → (∀ i, i < W → m ∣ x i - y i) → M y
theorem Sp.sub : Sub m W (Sp m W G) := ⟨.nil, fun _ _ hx hy c => hx.plus (hy.mul c), fun _ _ hx h => .alike hx h⟩
theorem Sub.all {M : Vc → Prop} (hM : Sub m W M) (h : ∀ g, G g → M g) (hx : Sp m W G x) : M x := by
 induction hx with
 | nil => exact hM.zero
 | add c _ hg ih => exact hM.lin _ _ ih (h _ hg) c
 | alike _ h' ih => exact hM.alike _ _ ih h'
end
def V (x : List Int) : Vc := fun i => rd x (i : Int)
structure PRow (m : Int) (W j : Nat) (r : List Int) : Prop where
 len : r.length = W
 ent : AllIn m r
 zero : ∀ i : Nat, i < j → rd r (i : Int) = 0
 pos : 0 < rd r (j : Int)
 lt : rd r (j : Int) < m
 dvd : rd r (j : Int) ∣ m
structure PTab (m : Int) (W : Nat) (p : List (List Int)) : Prop where
 len : p.length = W
 rws : ∀ j : Nat, j < W → row p (j : Int) = [] ∨ PRow m W j (row p (j : Int))
def Rws (W : Nat) (p : List (List Int)) (k : Nat) : Vc → Prop := fun g => ∃ j : Nat, k ≤ j ∧ j < W ∧ row p (j : Int) ≠ [] ∧ g = V (row p (j : Int))
def GT (W : Nat) (p st : List (List Int)) (k : Nat) : Vc → Prop := fun g => Rws W p k g ∨ ∃ s ∈ st, (∀ i : Nat, i < k → rd s (i : Int) = 0) ∧ g = V s
def How (m : Int) (W : Nat) (p : List (List Int)) (G : Nat → Vc → Prop) : Prop := ∀ j : Nat, j < W → row p (j : Int) ≠ [] → Sp m W (G (j + 1)) (fun i => m / rd (row p (j : Int)) (j : Int) * rd (row p (j : Int)) (i : Int))
structure Inv (m : Int) (W : Nat) (p st : List (List Int)) : Prop where
 tab : PTab m W p
 sts : ∀ s ∈ st, s.length = W ∧ AllIn m s
 how : How m W p (GT W p st)
def dv (m : Int) (p : List (List Int)) (j : Nat) : Int := if row p (j : Int) = [] then m else rd (row p (j : Int)) (j : Int)
structure Lead (m : Int) (W : Nat) (p : List (List Int)) (M : Vc → Prop) : Prop where
 tab : PTab m W p
 sub : Sub m W M
 own : ∀ j : Nat, j < W → row p (j : Int) ≠ [] → M (V (row p (j : Int)))
 lead : ∀ x, M x → ∀ j : Nat, j < W → (∀ i : Nat, i < j → m ∣ x i) → dv m p j ∣ x j
section
variable {m : Int} {W : Nat} {p : List (List Int)}
theorem PTab.prow (h : PTab m W p) {j : Nat} (hj : j < W) (hr : row p (j : Int) ≠ []) : PRow m W j (row p (j : Int)) := (h.rws j hj).resolve_left hr
theorem Rws.zero (h : PTab m W p) {k j : Nat} {g : Vc} (hg : Rws W p k g) (hj : j < k) : g j = 0 := by
 obtain ⟨i, h1, h2, h3, rfl⟩ := hg
 exact (h.prow h2 h3).zero j (by omega)
theorem Rws.part {k : Nat} (hk : k < W) (hr : row p (k : Int) ≠ []) {x : Vc} (hx : Sp m W (Rws W p k) x) : ∃ (c : Int) (w : Vc), Sp m W (Rws W p (k + 1)) w ∧ ∀ i, i < W → m ∣ c * V (row p (k : Int)) i + w i - x i := by
 induction hx with
 | nil => exact ⟨0, _, .nil, fun i _ => dvd_same (by simp)⟩
 | add d _ hg ih =>
  obtain ⟨c, w, h1, h2⟩ := ih
  obtain ⟨j, j1, j2, j3, rfl⟩ := hg
  by_cases e : j = k
  ·
   subst e
   refine ⟨c + d, w, h1, fun i hi => ?_⟩
   have := h2 i hi
   rw [Int.add_mul]
   rwa [show ∀ a b c d : Int, a + b + c - (d + b) = a + c - d from fun a b c d => by omega]
  ·
   refine ⟨c, _, .add d h1 ⟨j, by omega, j2, j3, rfl⟩, fun i hi => ?_⟩
   have := h2 i hi
   dsimp only
   rwa [show ∀ a b c d : Int, a + (b + c) - (d + c) = a + b - d from fun a b c d => by omega]
 | alike _ h ih =>
  obtain ⟨c, w, h1, h2⟩ := ih
  refine ⟨c, w, h1, fun i hi => ?_⟩
  have := Int.dvd_add (h2 i hi) (h i hi)
  rwa [show ∀ a b c : Int, a - b + (b - c) = a - c from fun a b c => by omega] at this
theorem Rws.next {k : Nat} (hr : row p (k : Int) = []) {x : Vc} (hx : Sp m W (Rws W p k) x) : Sp m W (Rws W p (k + 1)) x := hx.mono fun g ⟨j, j1, j2, j3, e⟩ => .gen ⟨j, by
 rcases Nat.lt_or_eq_of_le j1 with h | rfl
 ·
  exact h
 ·
  exact absurd hr j3, j2, j3, e⟩
theorem Rws.down (m0 : 0 < m) (ht : PTab m W p) (hh : How m W p (Rws W p)) {x : Vc} (hx : Sp m W (Rws W p 0) x) {j : Nat} (hj : j ≤ W) (hz : ∀ i : Nat, i < j → m ∣ x i) : ∀ k, k ≤ j → Sp m W (Rws W p k) x := by
 intro k
 induction k with
 | zero => exact fun _ => hx
 | succ k ih =>
  intro hk
  have h := ih (by omega)
  by_cases hr : row p (k : Int) = []
  ·
   exact Rws.next hr h
  have hp := ht.prow (by omega) hr
  obtain ⟨c, w, h1, h2⟩ := Rws.part (by omega) hr h
  have hw : m ∣ w k := h1.dvd (Int.dvd_refl m) (by omega) fun g hg => by rw [Rws.zero ht hg (by omega)]; exact Int.dvd_zero m
  have hc : m ∣ c * rd (row p (k : Int)) (k : Int) := by
   have := Int.dvd_add (h2 k (by omega)) (hz k (by omega))
   rw [show ∀ a b c : Int, a + b - c + c = a + b from fun a b c => by omega] at this
   have := Int.dvd_sub this hw
   rwa [show ∀ a b : Int, a + b - b = a from fun a b => by omega] at this
  obtain ⟨q, hq⟩ := hp.dvd
  have hd := hp.pos
  have hmd : m / rd (row p (k : Int)) (k : Int) = q := by rw [hq]; exact Int.mul_ediv_cancel_left _ (by omega)
  obtain ⟨t, ht'⟩ : q ∣ c := by
   obtain ⟨t, ht'⟩ := hc
   refine ⟨t, Int.eq_of_mul_eq_mul_left (show rd (row p (k : Int)) (k : Int) ≠ 0 by omega) ?_⟩
   rw [Int.mul_comm, ht', hq, Int.mul_assoc]
  have hH := hh k (by omega) hr
  rw [hmd] at hH
  refine .alike ((hH.mul t).plus h1) fun i hi => ?_
  have := h2 i hi
  rwa [show t * (q * rd (row p (k : Int)) (i : Int)) = c * V (row p (k : Int)) i by rw [ht', ← Int.mul_assoc, Int.mul_comm t q]; rfl]
theorem lead_of (m0 : 0 < m) (ht : PTab m W p) (hh : How m W p (Rws W p)) {M : Vc → Prop} (hM : ∀ x, Sp m W (Rws W p 0) x ↔ M x) : Lead m W p M where
 tab := ht
 sub := by rw [show M = Sp m W (Rws W p 0) from funext fun x => propext (hM x).symm]; exact Sp.sub
 own := fun j hj hr => (hM _).1 (.gen ⟨j, Nat.zero_le _, hj, hr, rfl⟩)
 lead := fun x hx j hj hz => by
  have h := Rws.down m0 ht hh ((hM x).2 hx) (Nat.le_of_lt hj) hz j (Nat.le_refl _)
  unfold dv
  by_cases hr : row p (j : Int) = []
  ·
   rw [if_pos hr]
   exact (Rws.next hr h).dvd (Int.dvd_refl m) hj fun g hg => by rw [Rws.zero ht hg (by omega)]; exact Int.dvd_zero m
  ·
   rw [if_neg hr]
   have hp := ht.prow hj hr
   refine h.dvd hp.dvd hj fun g hg => ?_
   obtain ⟨i, i1, i2, i3, rfl⟩ := hg
   by_cases e : i = j
   ·
    subst e; exact Int.dvd_refl _
   ·
    have : V (row p (i : Int)) j = 0 := (ht.prow i2 i3).zero j (by omega)
    rw [this]; exact Int.dvd_zero _
theorem dv_bd (m0 : 0 < m) (ht : PTab m W p) {j : Nat} (hj : j < W) : 0 < dv m p j ∧ dv m p j ≤ m ∧ dv m p j ∣ m := by
 unfold dv
 by_cases hr : row p (j : Int) = []
 ·
  rw [if_pos hr]; exact ⟨m0, Int.le_refl _, Int.dvd_refl _⟩
 ·
  rw [if_neg hr]
  have hp := ht.prow hj hr
  exact ⟨hp.pos, by have := hp.lt; omega, hp.dvd⟩
theorem dvd_pos {a b : Int} (ha : 0 < a) (hb : 0 < b) (h : a ∣ b) : a ≤ b := Int.le_of_dvd hb h
theorem dv_same (m0 : 0 < m) {p' : List (List Int)} {M : Vc → Prop} (h : Lead m W p M) (h' : Lead m W p' M) {j : Nat} (hj : j < W) : dv m p j = dv m p' j := by
 have key : ∀ {p p' : List (List Int)}, Lead m W p M → Lead m W p' M → dv m p j ∣ dv m p' j := fun {p p'} h h' => by
  by_cases hr : row p' (j : Int) = []
  ·
   rw [show dv m p' j = m from if_pos hr]; exact (dv_bd m0 h.tab hj).2.2
  ·
   rw [show dv m p' j = rd (row p' (j : Int)) (j : Int) from if_neg hr]
   have hp := h'.tab.prow hj hr
   exact h.lead _ (h'.own j hj hr) j hj fun i hi => by rw [show V (row p' (j : Int)) i = 0 from hp.zero i hi]; exact Int.dvd_zero m
 have a := dvd_pos (dv_bd m0 h.tab hj).1 (dv_bd m0 h'.tab hj).1 (key h h')
 have b := dvd_pos (dv_bd m0 h'.tab hj).1 (dv_bd m0 h.tab hj).1 (key h' h)
 omega
structure Least (m : Int) (W : Nat) (p : List (List Int)) (M : Vc → Prop) (x y : List Int) : Prop where
 len : y.length = W
 ent : AllIn m y
 dif : M fun i => rd x (i : Int) - rd y (i : Int)
 lt : ∀ j : Nat, j < W → rd y (j : Int) < dv m p j
theorem Least.same (m0 : 0 < m) {p' : List (List Int)} {M : Vc → Prop} (h : Lead m W p M) (h' : Lead m W p' M) {x y y' : List Int} (hy : Least m W p M x y) (hy' : Least m W p' M x y') : y = y' := by
 have hd : M fun i => rd y (i : Int) - rd y' (i : Int) := by
  refine h.sub.alike _ _ (h.sub.lin _ _ hy'.dif hy.dif (-1)) fun i _ => dvd_same ?_
  omega
 have hall : ∀ n, n ≤ W → ∀ i : Nat, i < n → rd y (i : Int) = rd y' (i : Int) := by
  intro n
  induction n with
  | zero => intro _ i hi; omega
  | succ n ih =>
   intro hn i hi
   have ih := ih (by omega)
   by_cases e : i = n
   ·
    subst e
    have hl := h.lead _ hd i (by omega) fun k hk => by rw [ih k hk]; exact ⟨0, by omega⟩
    have a1 := hy.lt i (by omega)
    have a2 := hy'.lt i (by omega)
    rw [← dv_same m0 h h' (show i < W by omega)] at a2
    obtain ⟨b1, _⟩ := hy.ent i (by omega) (by rw [hy.len]; omega)
    obtain ⟨b2, _⟩ := hy'.ent i (by omega) (by rw [hy'.len]; omega)
    have hd0 := (dv_bd m0 h.tab (show i < W by omega)).1
    obtain ⟨q, hq⟩ := hl
    have q0 : q = 0 := by
     rcases Int.lt_trichotomy q 0 with h | h | h
     ·
      have := Int.mul_le_mul_of_nonneg_left (show q ≤ -1 by omega) (Int.le_of_lt hd0)
      omega
     ·
      exact h
     ·
      have := Int.mul_le_mul_of_nonneg_left (show 1 ≤ q by omega) (Int.le_of_lt hd0)
      omega
    rw [q0] at hq
    omega
   ·
    exact ih i (by omega)
 refine ext_rd (by rw [hy.len, hy'.len]) fun i i0 i1 => ?_
 obtain ⟨n, rfl⟩ := Int.eq_ofNat_of_zero_le i0
 exact hall W (Nat.le_refl _) n (by have := hy.len; omega)
end
end Go.Proofs.YthmcpmnhdbeahaaGreat.V
namespace Go.Proofs.YthmcpmnhdbeahaaGreat.V
open Go.RowKit Go.Proofs.YthmcpmnhdbeahaaGreat.D Go.Proofs.YthmcpmnhdbeahaaGreat.P
theorem ModW {a m : Int} (h0 : -4000000000000000000 ≤ a) (h1 : a ≤ 4000000000000000000) (m0 : 0 < m) (m1 : m ≤ 1000000) : spec_l01Mod.f a m = some (a % m) := by
 rw [spec_l01Mod.f_eq]
 have t0 := Int.tmod_lt_of_pos a m0
 have t1 : -m < Int.tmod a m := Int.lt_tmod_of_pos a m0
 have hq := Int.mul_tdiv_add_tmod a m
 have h5 : (m * a.tdiv m + a.tmod m) % m = a.tmod m % m := by rw [Int.add_comm, Int.add_mul_emod_self_left]
 rw [hq] at h5
 rw [w64 (by omega) (by omega), Int.tmod_eq_emod_of_nonneg (show 0 ≤ Int.tmod a m + m by omega), Int.add_emod_right, ← h5]
 ((with_reducible repeat (first | refine go_pos (by first | assumption | omega | rfl | exact B_pos (by omega)) ?_ | refine go_neg (by first | assumption | omega | decide | exact B_not (by omega)) ?_ | refine go_bind (by first | assumption) ?_ | dsimp only)); first | done | (with_reducible rfl) | simp (disch := omega) only [w64] | (show False; done))
end Go.Proofs.YthmcpmnhdbeahaaGreat.V
namespace Go.Proofs.YthmcpmnhdbeahaaGreat.V
open Go.RowKit Go.Proofs.YthmcpmnhdbeahaaGreat.D Go.Proofs.YthmcpmnhdbeahaaGreat.P
end Go.Proofs.YthmcpmnhdbeahaaGreat.V
namespace Go.Proofs.YthmcpmnhdbeahaaGreat.V
open Go.RowKit Go.Proofs.YthmcpmnhdbeahaaGreat.D
theorem row_set_same {p : List (List Int)} {j : Nat} {n : List Int} (h : j < p.length) : row (p.set j n) (j : Int) = n := by
 rw [row_get (by rw [List.length_set]; exact h)]
 simp
theorem row_set_ne {p : List (List Int)} {i j : Nat} {n : List Int} (h : i ≠ j) : row (p.set j n) (i : Int) = row p (i : Int) := by
 simp only [row, Int.toNat_natCast, List.getD_eq_getElem?_getD, List.getElem?_set, if_neg (show ¬ j = i from fun e => h e.symm)]
def Zb (k : Nat) (s : List Int) : Prop := ∀ i : Nat, i < k → rd s (i : Int) = 0
section
variable {m : Int} {W : Nat} {p p' st st' : List (List Int)} {M : Vc → Prop}
theorem PTab.set (h : PTab m W p) {j : Nat} {n : List Int} (hj : j < W) (hn : PRow m W j n) : PTab m W (p.set j n) where
 len := by rw [List.length_set]; exact h.len
 rws := fun i hi => by
  by_cases e : i = j
  ·
   subst e; rw [row_set_same (by rw [h.len]; exact hj)]; exact .inr hn
  ·
   rw [row_set_ne e]; exact h.rws i hi
theorem PRow.ne {j : Nat} {n : List Int} (h : PRow m W j n) : n ≠ [] := fun e => by
 have := h.pos
 rw [e] at this
 simp [rd] at this
structure Pst (m : Int) (W : Nat) (p st : List (List Int)) (M : Vc → Prop) : Prop where
 inv : Inv m W p st
 spn : ∀ x, Sp m W (GT W p st 0) x ↔ M x
theorem Pst.step (h : Pst m W p st M) (ht : PTab m W p') (hs : ∀ s ∈ st', s.length = W ∧ AllIn m s)
  (ha : ∀ k g, GT W p st k g → Sp m W (GT W p' st' k) g) (hb : ∀ g, GT W p' st' 0 g → Sp m W (GT W p st 0) g)
  (hn : ∀ j : Nat, j < W → row p' (j : Int) ≠ [] → row p' (j : Int) ≠ row p (j : Int) → Sp m W (GT W p' st' (j + 1)) (fun i => m / rd (row p' (j : Int)) (j : Int) * rd (row p' (j : Int)) (i : Int))) : Pst m W p' st' M where
 inv := ⟨ht, hs, fun j hj hr => by
  by_cases e : row p' (j : Int) = row p (j : Int)
  ·
   have := h.inv.how j hj (by rw [← e]; exact hr)
   rw [e]
   exact this.mono (ha (j + 1))
  ·
   exact hn j hj hr e⟩
 spn := fun x => by
  rw [← h.spn x]
  exact ⟨fun hx => hx.mono hb, fun hx => hx.mono (ha 0)⟩
theorem GT.zb {k : Nat} {s : List Int} (hs : s ∈ st) (hz : Zb k s) : GT W p st k (V s) := .inr ⟨s, hs, hz, rfl⟩
theorem Pst.drop {v : List Int} (h : Pst m W p (st ++ [v]) M) (hz : Zb W v) : Pst m W p st M := by
 refine h.step h.inv.tab (fun s hs => h.inv.sts s (List.mem_append_left _ hs)) (fun k g hg => ?_) (fun g hg => .gen ?_) (fun j _ _ e => absurd rfl e)
 ·
  rcases hg with hg | ⟨s, hs, hk, rfl⟩
  ·
   exact .gen (.inl hg)
  ·
   rcases List.mem_append.1 hs with hs | hs
   ·
    exact .gen (.inr ⟨s, hs, hk, rfl⟩)
   ·
    rw [List.mem_singleton] at hs
    subst hs
    exact .alike .nil fun i hi => by rw [show V s i = 0 from hz i hi]; exact ⟨0, by omega⟩
 ·
  rcases hg with hg | ⟨s, hs, hk, rfl⟩
  ·
   exact .inl hg
  ·
   exact .inr ⟨s, List.mem_append_left _ hs, hk, rfl⟩
theorem Pst.less {v w : List Int} {c : Int} (h : Pst m W p (st ++ [v]) M) {j : Nat} (hj : j < W) (hr : row p (j : Int) ≠ []) (hvj : rd v (j : Int) ≠ 0) (hw : w.length = W ∧ AllIn m w) (hz : Zb j w)
  (he : ∀ i : Nat, i < W → m ∣ 1 * rd v (i : Int) + (-c) * rd (row p (j : Int)) (i : Int) - rd w (i : Int)) : Pst m W p (st ++ [w]) M := by
 refine h.step h.inv.tab (fun s hs => ?_) (fun k g hg => ?_) (fun g hg => ?_) (fun j _ _ e => absurd rfl e)
 ·
  rcases List.mem_append.1 hs with hs | hs
  ·
   exact h.inv.sts s (List.mem_append_left _ hs)
  ·
   rw [List.mem_singleton] at hs; subst hs; exact hw
 ·
  rcases hg with hg | ⟨s, hs, hk, rfl⟩
  ·
   exact .gen (.inl hg)
  ·
   rcases List.mem_append.1 hs with hs | hs
   ·
    exact .gen (.inr ⟨s, List.mem_append_left _ hs, hk, rfl⟩)
   ·
    rw [List.mem_singleton] at hs
    subst hs
    have hkj : k ≤ j := by
     by_cases q : k ≤ j
     ·
      exact q
     ·
      exact absurd (hk j (by omega)) hvj
    refine Sp.two (a := 1) (b := c) (x := V w) (y := V (row p (j : Int))) (.gen (GT.zb (List.mem_append_right _ (List.mem_singleton.2 rfl)) fun i hi => hz i (by omega))) (.gen (.inl ⟨j, hkj, hj, hr, rfl⟩)) fun i hi => ?_
    obtain ⟨q, hq⟩ := he i hi
    refine ⟨-q, ?_⟩
    rw [Int.mul_neg, ← hq, Int.neg_mul]
    show 1 * rd w (i : Int) + c * rd (row p (j : Int)) (i : Int) - rd s (i : Int) = _
    omega
 ·
  rcases hg with hg | ⟨s, hs, hk, rfl⟩
  ·
   exact .gen (.inl hg)
  ·
   rcases List.mem_append.1 hs with hs | hs
   ·
    exact .gen (.inr ⟨s, List.mem_append_left _ hs, hk, rfl⟩)
   ·
    rw [List.mem_singleton] at hs
    subst hs
    exact Sp.two (a := 1) (b := -c) (x := V v) (y := V (row p (j : Int))) (.gen (GT.zb (List.mem_append_right _ (List.mem_singleton.2 rfl)) fun i hi => by omega)) (.gen (.inl ⟨j, Nat.zero_le _, hj, hr, rfl⟩)) fun i hi => he i hi
theorem Pst.swap {v n : List Int} {ws : List (List Int)} (h : Pst m W p (st ++ [v]) M) {j : Nat} (hj : j < W) (hvj : rd v (j : Int) ≠ 0) (hn : PRow m W j n) (hws : ∀ w ∈ ws, (w.length = W ∧ AllIn m w) ∧ Zb (j + 1) w)
  (ho : row p (j : Int) ≠ [] → Sp m W (fun g => g = V n ∨ ∃ w ∈ ws, g = V w) (V (row p (j : Int))))
  (hv : Sp m W (fun g => g = V n ∨ ∃ w ∈ ws, g = V w) (V v))
  (hd : Sp m W (fun g => ∃ w ∈ ws, g = V w) (fun i => m / rd n (j : Int) * rd n (i : Int)))
  (hb : ∀ g, (g = V n ∨ ∃ w ∈ ws, g = V w) → Sp m W (fun g => g = V v ∨ (row p (j : Int) ≠ [] ∧ g = V (row p (j : Int)))) g) : Pst m W (p.set j n) (st ++ ws) M := by
 have hpl : j < p.length := by rw [h.inv.tab.len]; exact hj
 have hsame : row (p.set j n) (j : Int) = n := row_set_same hpl
 have new : ∀ k, k ≤ j → ∀ g, (g = V n ∨ ∃ w ∈ ws, g = V w) → Sp m W (GT W (p.set j n) (st ++ ws) k) g := fun k hk g hg => by
  rcases hg with rfl | ⟨w, hw, rfl⟩
  ·
   exact .gen (.inl ⟨j, hk, hj, by rw [hsame]; exact hn.ne, by rw [hsame]⟩)
  ·
   exact .gen (GT.zb (List.mem_append_right _ hw) fun i hi => (hws w hw).2 i (by omega))
 have old : ∀ g, (g = V v ∨ (row p (j : Int) ≠ [] ∧ g = V (row p (j : Int)))) → Sp m W (GT W p (st ++ [v]) 0) g := fun g hg => by
  rcases hg with rfl | ⟨hr, rfl⟩
  ·
   exact .gen (GT.zb (List.mem_append_right _ (List.mem_singleton.2 rfl)) fun i hi => by omega)
  ·
   exact .gen (.inl ⟨j, Nat.zero_le _, hj, hr, rfl⟩)
 refine h.step (h.inv.tab.set hj hn) (fun s hs => ?_) (fun k g hg => ?_) (fun g hg => ?_) (fun i hi hr e => ?_)
 ·
  rcases List.mem_append.1 hs with hs | hs
  ·
   exact h.inv.sts s (List.mem_append_left _ hs)
  ·
   exact (hws s hs).1
 ·
  rcases hg with ⟨i, hk, hi, hr, rfl⟩ | ⟨s, hs, hk, rfl⟩
  ·
   by_cases e : i = j
   ·
    subst e
    exact (ho hr).mono (new k hk)
   ·
    exact .gen (.inl ⟨i, hk, hi, by rw [row_set_ne e]; exact hr, by rw [row_set_ne e]⟩)
  ·
   rcases List.mem_append.1 hs with hs | hs
   ·
    exact .gen (.inr ⟨s, List.mem_append_left _ hs, hk, rfl⟩)
   ·
    rw [List.mem_singleton] at hs
    subst hs
    have hkj : k ≤ j := by
     by_cases q : k ≤ j
     ·
      exact q
     ·
      exact absurd (hk j (by omega)) hvj
    exact hv.mono (new k hkj)
 ·
  rcases hg with ⟨i, hk, hi, hr, rfl⟩ | ⟨s, hs, hk, rfl⟩
  ·
   by_cases e : i = j
   ·
    subst e
    rw [hsame]
    exact (hb _ (.inl rfl)).mono old
   ·
    rw [row_set_ne e] at hr ⊢
    exact .gen (.inl ⟨i, hk, hi, hr, rfl⟩)
  ·
   rcases List.mem_append.1 hs with hs | hs
   ·
    exact .gen (.inr ⟨s, List.mem_append_left _ hs, hk, rfl⟩)
   ·
    exact (hb _ (.inr ⟨s, hs, rfl⟩)).mono old
 ·
  by_cases q : i = j
  ·
   subst q
   rw [hsame]
   exact hd.mono fun g hg => by
    obtain ⟨w, hw, rfl⟩ := hg
    exact .gen (GT.zb (List.mem_append_right _ hw) (hws w hw).2)
  ·
   exact absurd (row_set_ne q) e
end
end Go.Proofs.YthmcpmnhdbeahaaGreat.V
set_option maxHeartbeats 4000000
namespace Go.Proofs.YthmcpmnhdbeahaaGreat.V
open Go.RowKit Go.Proofs.YthmcpmnhdbeahaaGreat.D Go.Proofs.YthmcpmnhdbeahaaGreat.P
end Go.Proofs.YthmcpmnhdbeahaaGreat.V
namespace Go.Proofs.YthmcpmnhdbeahaaGreat.V
open Go.RowKit Go.Proofs.YthmcpmnhdbeahaaGreat.D Go.Proofs.YthmcpmnhdbeahaaGreat.P
end Go.Proofs.YthmcpmnhdbeahaaGreat.V
namespace Go.Proofs.YthmcpmnhdbeahaaGreat.V
open Go.RowKit Go.Proofs.YthmcpmnhdbeahaaGreat.D Go.Proofs.YthmcpmnhdbeahaaGreat.P
section
variable {m : Int} {W : Nat} {p : List (List Int)} {M : Vc → Prop} {G G' : Vc → Prop}
theorem Pst.lead (m0 : 0 < m) (h : Pst m W p [] M) : Lead m W p M := by
 have e : ∀ k g, GT W p [] k g → Sp m W (Rws W p k) g := fun k g hg => by
  rcases hg with hg | ⟨s, hs, _⟩
  ·
   exact .gen hg
  ·
   cases hs
 exact lead_of m0 h.inv.tab (fun j hj hr => (h.inv.how j hj hr).mono (e _)) fun x => by
  rw [← h.spn x]
  exact ⟨fun hx => hx.mono fun g hg => .gen (.inl hg), fun hx => hx.mono (e 0)⟩
theorem Pst.add {r : List Int} (h : Pst m W p [] (Sp m W G)) (hr : r.length = W ∧ AllIn m r) (hG : ∀ g, G' g ↔ G g ∨ g = V r) : Pst m W p [r] (Sp m W G') where
 inv := ⟨h.inv.tab, fun s hs => by rw [List.mem_singleton] at hs; subst hs; exact hr, fun j hj hn => (h.inv.how j hj hn).mono fun g hg => by
  rcases hg with hg | ⟨s, hs, _⟩
  ·
   exact .gen (.inl hg)
  ·
   cases hs⟩
 spn := fun x => by
  constructor
  ·
   intro hx
   refine hx.mono fun g hg => ?_
   rcases hg with hg | ⟨s, hs, _, rfl⟩
   ·
    exact ((h.spn g).1 (.gen (.inl hg))).mono fun g hg => .gen ((hG g).2 (.inl hg))
   ·
    rw [List.mem_singleton] at hs
    subst hs
    exact .gen ((hG _).2 (.inr rfl))
  ·
   intro hx
   refine hx.mono fun g hg => ?_
   rcases (hG g).1 hg with hg | rfl
   ·
    refine ((h.spn g).2 (.gen hg)).mono fun g hg => ?_
    rcases hg with hg | ⟨s, hs, _⟩
    ·
     exact .gen (.inl hg)
    ·
     cases hs
   ·
    exact .gen (.inr ⟨r, List.mem_singleton.2 rfl, fun i hi => by omega, rfl⟩)
theorem row_repl (n : Nat) (i : Int) : row (List.replicate n ([] : List Int)) i = [] := by
 simp only [row, List.getD_eq_getElem?_getD, List.getElem?_replicate]
 split <;> rfl
theorem Pst.none (hG : ∀ g, ¬ G g) : Pst m W (List.replicate W []) [] (Sp m W G) where
 inv := ⟨⟨List.length_replicate, fun j _ => .inl (row_repl _ _)⟩, fun s hs => (by cases hs), fun j _ hn => absurd (row_repl _ _) hn⟩
 spn := fun x => by
  constructor
  ·
   intro hx
   refine hx.mono fun g hg => ?_
   rcases hg with ⟨j, _, _, hn, _⟩ | ⟨s, hs, _⟩
   ·
    exact absurd (row_repl _ _) hn
   ·
    cases hs
  ·
   intro hx
   exact hx.mono fun g hg => absurd hg (hG g)
theorem rd_take {r : List Int} {A i : Nat} (h : i < A) : rd (r.take A) (i : Int) = rd r (i : Int) := by
 simp [rd, List.getD_eq_getElem?_getD, List.getElem?_take, h]
theorem Lead.first {A B : Nat} {q : List (List Int)} (h : Lead m (A + B) p M) (m0 : 0 < m) (hl : q.length = A) (hr : ∀ j : Nat, j < A → row q (j : Int) = (row p (j : Int)).take A) :
    Lead m A q (fun x => ∃ y, M y ∧ ∀ i, i < A → m ∣ y i - x i) := by
  have hP : ∀ j : Nat, j < A → row p (j : Int) ≠ [] → PRow m A j (row q (j : Int)) := fun j hj hn => by
    have k := h.tab.prow (show j < A + B by omega) hn
    rw [hr j hj]
    refine ⟨by rw [List.length_take, k.len]; omega, k.ent.take _, fun i hi => by rw [rd_take (by omega)]; exact k.zero i hi, ?_, ?_, ?_⟩ <;> rw [rd_take hj]
    · exact k.pos
    · exact k.lt
    · exact k.dvd
  have hE : ∀ j : Nat, j < A → (row q (j : Int) = [] ↔ row p (j : Int) = []) := fun j hj => by
    constructor
    · intro e
      by_cases hn : row p (j : Int) = []
      · exact hn
      · exact absurd e (hP j hj hn).ne
    · intro e; rw [hr j hj, e]; simp
  have hdv : ∀ j : Nat, j < A → dv m q j = dv m p j := fun j hj => by
    unfold dv
    by_cases hn : row p (j : Int) = []
    · rw [if_pos hn, if_pos ((hE j hj).2 hn)]
    · rw [if_neg hn, if_neg fun e => hn ((hE j hj).1 e), hr j hj, rd_take hj]
  exact {
    tab := ⟨hl, fun j hj => by
      by_cases hn : row p (j : Int) = []
      · exact .inl ((hE j hj).2 hn)
      · exact .inr (hP j hj hn)⟩
    sub := ⟨⟨_, h.sub.zero, fun i _ => dvd_same rfl⟩, fun x y ⟨x', hx, ex⟩ ⟨y', hy, ey⟩ c => ⟨_, h.sub.lin _ _ hx hy c, fun i hi => by
      have := Int.dvd_add (ex i hi) (Int.dvd_mul_of_dvd_right (b := c) (ey i hi))
      rw [Int.mul_sub] at this
      rwa [show ∀ a b c d : Int, a + c - (b + d) = a - b + (c - d) from fun a b c d => by omega]⟩,
      fun x y ⟨x', hx, ex⟩ e => ⟨x', hx, fun i hi => by
        have := Int.dvd_add (ex i hi) (e i hi)
        rwa [show ∀ a b c : Int, a - b + (b - c) = a - c from fun a b c => by omega] at this⟩⟩
    own := fun j hj hn => ⟨V (row p (j : Int)), h.own j (by omega) fun e => hn ((hE j hj).2 e), fun i hi => by
      refine dvd_same ?_
      show rd (row p (j : Int)) (i : Int) = rd (row q (j : Int)) (i : Int)
      rw [hr j hj, rd_take hi]⟩
    lead := fun x ⟨y, hy, e⟩ j hj hz => by
      have := h.lead y hy j (by omega) fun i hi => by
        have := Int.dvd_add (e i (by omega)) (hz i hi)
        rwa [show ∀ a b : Int, a - b + b = a from fun a b => by omega] at this
      rw [hdv j hj]
      have hd := (dv_bd m0 h.tab (show j < A + B by omega)).2.2
      have := Int.dvd_sub this (Int.dvd_trans hd (e j hj))
      rwa [show ∀ a b : Int, a - (a - b) = b from fun a b => by omega] at this }
end
end Go.Proofs.YthmcpmnhdbeahaaGreat.V
namespace Go.Proofs.YthmcpmnhdbeahaaGreat.V
open Go.RowKit Go.Proofs.YthmcpmnhdbeahaaGreat.D Go.Proofs.YthmcpmnhdbeahaaGreat.P
end Go.Proofs.YthmcpmnhdbeahaaGreat.V
namespace Go.Proofs.YthmcpmnhdbeahaaGreat.V
open Go.RowKit Go.Proofs.YthmcpmnhdbeahaaGreat.D
end Go.Proofs.YthmcpmnhdbeahaaGreat.V
namespace Go.Proofs.YthmcpmnhdbeahaaGreat.V
open Go.RowKit Go.Proofs.YthmcpmnhdbeahaaGreat.D Go.Proofs.YthmcpmnhdbeahaaGreat.P
def ConP (g : List (List Int)) (m : Int) (u v r : List Int) (n : Nat) : Prop := ∀ x : Int, 0 ≤ x → x < n → ∀ y : Int, 0 ≤ y → y < n → T g x y < n → (rd r x + rd u x * rd r y + At g v [x, y]) % m = rd r (T g x y)
theorem ConP.pre {g : List (List Int)} {m : Int} {u v r r' : List Int} {n n' : Nat} (h : ConP g m u v r n) (hn : n' ≤ n) (hg : Grp g) (hN : n ≤ g.length) (he : ∀ i : Int, 0 ≤ i → i < n' → rd r' i = rd r i) : ConP g m u v r' n' := by
 intro x x0 x1 y y0 y1 ht
 have e := h x x0 (by omega) y y0 (by omega) (by omega)
 obtain ⟨t0, _⟩ := hg.ent x y x0 (by omega) y0 (by omega)
 rw [he x x0 x1, he y y0 y1, he _ t0 ht]
 exact e
theorem take_rdi {r l : List Int} (h : r.take l.length = l) {i : Int} (i0 : 0 ≤ i) (i1 : i < l.length) : rd l i = rd r i := by
 obtain ⟨n, rfl⟩ := Int.eq_ofNat_of_zero_le i0
 rw [← h, rd_take (by omega)]
end Go.Proofs.YthmcpmnhdbeahaaGreat.V
set_option maxHeartbeats 2000000
namespace Go.Proofs.YthmcpmnhdbeahaaGreat.V
open Go.RowKit Go.Proofs.YthmcpmnhdbeahaaGreat.D Go.Proofs.YthmcpmnhdbeahaaGreat.P
theorem nm_bd {g : List (List Int)} (hg : Grp g) {m : Int} {u : List Int} (hm : Mdl g m u) : 0 ≤ (g.length : Int) * m ∧ (g.length : Int) * m ≤ 96 := by
 have n8 := hg.n8; have m2 := hm.m2; have m12 := hm.m12
 exact ⟨Int.mul_nonneg (by omega) (by omega), by have : (g.length : Int) * m ≤ 8 * 12 := Int.mul_le_mul (by omega) m12 (by omega) (by omega); omega⟩
theorem pairs_codes (g : List (List Int)) (hl : g.length ≤ maxLen) (hr : ∀ r ∈ g, r.length ≤ maxLen) (m : Int) (u : List Int) (hu : u.length ≤ maxLen) (ps : List Int) (hp : ps.length ≤ maxLen) :
  (Grp g ∧ Mdl g m u ∧ AllIn (g.length * m) ps ∧ impl_pairsCode.f g m u ps = some 0 ∧ spec_l05Pairs.f g m u ps = some 0) ∨
  ∃ c : Int, ¬ c = 0 ∧ impl_pairsCode.f g m u ps = some c ∧ spec_l05Pairs.f g m u ps = some c := by
 have hml := maxLen_le
 have hM := moduleCode1 g hl hr m u hu
 have hS := Is_ g
 rw [impl_pairsCode.f_eq, spec_l05Pairs.f_eq]
 by_cases h : GM g m u
 rotate_left
 ·
  rw [ite_neg h] at hM
  refine .inr ⟨1, by omega, by ((with_reducible repeat (first | refine go_pos (by first | assumption | omega | rfl | exact B_pos (by omega)) ?_ | refine go_neg (by first | assumption | omega | decide | exact B_not (by omega)) ?_ | refine go_bind (by first | assumption) ?_ | dsimp only)); first | done | (with_reducible rfl) | simp (disch := omega) only [w64] | (show False; done)), ?_⟩
  by_cases h1 : Grp g
  ·
   have h2 := Is02 h1 m u hu
   rw [B_neg fun k => h ⟨h1, k⟩] at h2
   ((with_reducible repeat (first | refine go_pos (by first | assumption | omega | rfl | exact B_pos (by omega)) ?_ | refine go_neg (by first | assumption | omega | decide | exact B_not (by omega)) ?_ | refine go_bind (by first | assumption) ?_ | dsimp only)); first | done | (with_reducible rfl) | simp (disch := omega) only [w64] | (show False; done))
  ·
   ((with_reducible repeat (first | refine go_pos (by first | assumption | omega | rfl | exact B_pos (by omega)) ?_ | refine go_neg (by first | assumption | omega | decide | exact B_not (by omega)) ?_ | refine go_bind (by first | assumption) ?_ | dsimp only)); first | done | (with_reducible rfl) | simp (disch := omega) only [w64] | (show False; done))
 obtain ⟨hg, hm⟩ := h
 have h2 := Is02 hg m u hu
 rw [ite_pos ⟨hg, hm⟩] at hM
 obtain ⟨b0, b1⟩ := nm_bd hg hm
 have hA := areIn (g.length * m) ps hp
 have hB1 : B (Grp g) = true := B_pos hg
 have hB2 : B (Mdl g m u) = true := B_pos hm
 have e1 : wrapI (wrapI (m * g.length) - 1) = g.length * m - 1 := by rw [Int.mul_comm, w64 (x := (g.length : Int) * m) (by omega) (by omega), w64 (by omega) (by omega)]
 rw [impl_order.f_eq, Option.bind_some, w64 (x := (g.length : Int) * m) (by omega) (by omega)]
 rcases scan ps.length (fun i => spec_l05Pairs.l0 ps i g m u) (fun i => 0 ≤ rd ps i ∧ rd ps i < g.length * m) (some 2) (fun i i0 i1 _ => by
  refine ⟨fun h => ?_, fun h => ?_⟩ <;> rw [spec_l05Pairs.l0_eq, spec_l01N.f_eq, Option.bind_some, e1] <;> ((with_reducible repeat (first | refine go_pos (by first | assumption | omega | rfl | exact B_pos (by omega)) ?_ | refine go_neg (by first | assumption | omega | decide | exact B_not (by omega)) ?_ | refine go_bind (by first | assumption | exact In_ _ _ _) ?_ | dsimp only)); first | done | (with_reducible rfl) | simp (disch := omega) only [w64] | (show False; done))) with ⟨h, e⟩ | ⟨j, j0, j1, _, h, _, e⟩
 ·
  have h : AllIn (g.length * m) ps := h
  rw [B_pos h] at hA
  refine .inl ⟨hg, hm, h, by ((with_reducible repeat (first | refine go_pos (by first | assumption | omega | rfl | exact B_pos (by omega)) ?_ | refine go_neg (by first | assumption | omega | decide | exact B_not (by omega)) ?_ | refine go_bind (by first | assumption) ?_ | dsimp only)); first | done | (with_reducible rfl) | simp (disch := omega) only [w64] | (show False; done)), ?_⟩
  (with_reducible repeat (first | refine go_pos (by first | assumption | omega | rfl | exact B_pos (by omega)) ?_ | refine go_neg (by first | assumption | omega | decide | exact B_not (by omega)) ?_ | refine go_bind (by first | assumption) ?_ | dsimp only))
  rw [e, spec_l05Pairs.l0_eq]
  ((with_reducible repeat (first | refine go_pos (by first | assumption | omega | rfl | exact B_pos (by omega)) ?_ | refine go_neg (by first | assumption | omega | decide | exact B_not (by omega)) ?_ | refine go_bind (by first | assumption) ?_ | dsimp only)); first | done | (with_reducible rfl) | simp (disch := omega) only [w64] | (show False; done))
 ·
  rw [B_neg fun k => h (k j j0 j1)] at hA
  exact .inr ⟨2, by omega, by ((with_reducible repeat (first | refine go_pos (by first | assumption | omega | rfl | exact B_pos (by omega)) ?_ | refine go_neg (by first | assumption | omega | decide | exact B_not (by omega)) ?_ | refine go_bind (by first | assumption) ?_ | dsimp only)); first | done | (with_reducible rfl) | simp (disch := omega) only [w64] | (show False; done)), by (with_reducible repeat (first | refine go_pos (by first | assumption | omega | rfl | exact B_pos (by omega)) ?_ | refine go_neg (by first | assumption | omega | decide | exact B_not (by omega)) ?_ | refine go_bind (by first | assumption) ?_ | dsimp only)); exact e⟩
def PP (g : List (List Int)) (m : Int) (u : List Int) (p q : Int) : Int := m * T g (p / m) (q / m) + (p % m + rd u (p / m) * (q % m)) % m
theorem pair_parts {n m p : Int} (hm : 0 < m) (h0 : 0 ≤ p) (h1 : p < n * m) : 0 ≤ p / m ∧ p / m < n ∧ 0 ≤ p % m ∧ p % m < m :=
 ⟨Int.ediv_nonneg h0 (by omega), Int.ediv_lt_of_lt_mul hm h1, Int.emod_nonneg _ (by omega), Int.emod_lt_of_pos _ hm⟩
theorem PP_facts {g : List (List Int)} {m : Int} {u : List Int} (hg : Grp g) (hm : Mdl g m u) {p q : Int} (p0 : 0 ≤ p) (p1 : p < g.length * m) (q0 : 0 ≤ q) (q1 : q < g.length * m) :
  (0 ≤ PP g m u p q ∧ PP g m u p q < g.length * m) ∧ PP g m u p q / m = T g (p / m) (q / m) ∧ impl_pairProduct.f g m u p q = some (PP g m u p q) ∧ spec_l05Times.f g m u p q = some (PP g m u p q) := by
 have n8 := hg.n8; have m2 := hm.m2; have m12 := hm.m12; have hlu := hm.len
 obtain ⟨x0, x1, a0, a1⟩ := pair_parts (show 0 < m by omega) p0 p1
 obtain ⟨y0, y1, b0, b1⟩ := pair_parts (show 0 < m by omega) q0 q1
 obtain ⟨s0, s1⟩ := small_prod hm x0 x1 b0 b1
 obtain ⟨t0, t1⟩ := hg.ent _ _ x0 x1 y0 y1
 have e1 : 0 ≤ m * T g (p / m) (q / m) := Int.mul_nonneg (by omega) t0
 have e2 : m * T g (p / m) (q / m) ≤ m * (g.length - 1) := Int.mul_le_mul_of_nonneg_left (by omega) (by omega)
 have e3 : m * ((g.length : Int) - 1) = g.length * m - m := by rw [Int.mul_sub, Int.mul_comm]; omega
 obtain ⟨e4, e5⟩ := nm_bd hg hm
 have f0 := Int.emod_nonneg (p % m + rd u (p / m) * (q % m)) (show m ≠ 0 by omega)
 have f1 := Int.emod_lt_of_pos (p % m + rd u (p / m) * (q % m)) (show 0 < m by omega)
 have hPP : PP g m u p q = m * T g (p / m) (q / m) + (p % m + rd u (p / m) * (q % m)) % m := rfl
 have ht := times2 hg x0 x1 y0 y1
 have rx := hg.row _ x0 x1
 have hmod := Mod_ (a := p % m + rd u (p / m) * (q % m)) (m := m) (by omega) (by omega) (by omega) (by omega)
 have w1 : wrapI (p.tdiv m) = p / m := by rw [tdiv_nn p0]; exact w64 (by omega) (by omega)
 have w2 : wrapI (q.tdiv m) = q / m := by rw [tdiv_nn q0]; exact w64 (by omega) (by omega)
 refine ⟨⟨by omega, by omega⟩, ?_, ?_, ?_⟩
 ·
  rw [hPP, Int.mul_add_ediv_left _ _ (by omega), Int.ediv_eq_zero_of_lt f0 f1, Int.add_zero]
 ·
  rw [impl_pairProduct.f_eq, w1, w2, ht, Option.bind_some, tmod_nn p0, tmod_nn q0, w64 (x := rd u (p / m) * (q % m)) (by omega) (by omega), w64 (x := p % m + rd u (p / m) * (q % m)) (by omega) (by omega), w64 (x := m * T g (p / m) (q / m)) (by omega) (by omega), tmod_nn (show 0 ≤ p % m + rd u (p / m) * (q % m) by omega), w64 (x := m * T g (p / m) (q / m) + (p % m + rd u (p / m) * (q % m)) % m) (by omega) (by omega), ← hPP]
  clear w1 w2
  ((with_reducible repeat (first | refine go_pos (by first | assumption | omega | rfl | exact B_pos (by omega)) ?_ | refine go_neg (by first | assumption | omega | decide | exact B_not (by omega)) ?_ | refine go_bind (by first | assumption) ?_ | dsimp only)); first | done | (with_reducible rfl) | simp (disch := omega) only [w64] | (show False; done))
 ·
  rw [spec_l05Times.f_eq, w1, w2, tmod_nn p0, tmod_nn q0, w64 (x := rd u (p / m) * (q % m)) (by omega) (by omega), w64 (x := p % m + rd u (p / m) * (q % m)) (by omega) (by omega), hmod, Option.bind_some, Int.mul_comm (T g (p / m) (q / m)) m, w64 (x := m * T g (p / m) (q / m)) (by omega) (by omega), w64 (x := m * T g (p / m) (q / m) + (p % m + rd u (p / m) * (q % m)) % m) (by omega) (by omega), ← hPP]
  clear w1 w2
  ((with_reducible repeat (first | refine go_pos (by first | assumption | omega | rfl | exact B_pos (by omega)) ?_ | refine go_neg (by first | assumption | omega | decide | exact B_not (by omega)) ?_ | refine go_bind (by first | assumption) ?_ | dsimp only)); first | done | (with_reducible rfl) | simp (disch := omega) only [w64] | (show False; done))
def Nums (g : List (List Int)) (m : Int) (l : List Int) : Prop := (l.length : Int) = g.length ∧ AllIn m l
def Crs (g : List (List Int)) (m : Int) (u l : List Int) : Prop := ∀ x : Int, 0 ≤ x → x < g.length → ∀ y : Int, 0 ≤ y → y < g.length → rd l (T g x y) = (rd l x + rd u x * rd l y) % m
theorem crs_mod {m a b : Int} (m0 : 0 < m) (b0 : 0 ≤ b) (b1 : b < m) : (a - b).tmod m = 0 ↔ b = a % m := by
 have e : (a - b).tmod m = 0 ↔ m ∣ (a - b) := ⟨Int.dvd_of_tmod_eq_zero, Int.tmod_eq_zero_of_dvd⟩
 rw [e]
 constructor
 ·
  intro h
  have := (Int.emod_emod_of_dvd a (Int.dvd_refl m))
  have h2 : a % m = b % m := Int.emod_eq_emod_iff_emod_sub_eq_zero.2 (Int.emod_eq_zero_of_dvd h)
  rw [h2, Int.emod_eq_of_lt b0 b1]
 ·
  intro h
  have h2 : a % m = b % m := by rw [Int.emod_eq_of_lt b0 b1]; exact h.symm
  exact Int.dvd_of_emod_eq_zero (Int.emod_eq_emod_iff_emod_sub_eq_zero.1 h2)
theorem isCrossed {g : List (List Int)} {m : Int} {u l : List Int} (hg : Grp g) (hm : Mdl g m u) (hn : Nums g m l) : impl_isCrossed.f g m u l = some (B (Crs g m u l)) := by
 have n8 := hg.n8; have m2 := hm.m2; have m12 := hm.m12; have hlu := hm.len
 obtain ⟨hl, ha⟩ := hn
 rw [impl_isCrossed.f_eq, impl_order.f_eq, Option.bind_some]
 refine scanT g.length (fun x => impl_isCrossed.l0 l (g.length : Int) x g m u) (fun x => ∀ y : Int, 0 ≤ y → y < g.length → rd l (T g x y) = (rd l x + rd u x * rd l y) % m) (fun x x0 x1 _ => ?_) (fun _ => by (rw [impl_isCrossed.l0_eq]); ((with_reducible repeat (first | refine go_pos (by first | assumption | omega | rfl | exact B_pos (by omega)) ?_ | refine go_neg (by first | assumption | omega | decide | exact B_not (by omega)) ?_ | refine go_bind (by first | assumption) ?_ | dsimp only)); first | done | (with_reducible rfl) | simp (disch := omega) only [w64] | (show False; done)))
 have inner := scanI g.length (fun y => impl_isCrossed.l1 l x (g.length : Int) x (g.length : Int) y g m u) (fun y => rd l (T g x y) = (rd l x + rd u x * rd l y) % m) (some false) (impl_isCrossed.l0 l (g.length : Int) (x + 1) g m u) (fun y y0 y1 _ => by
  obtain ⟨e0, e1⟩ := hg.ent x y x0 x1 y0 y1
  obtain ⟨a0, a1⟩ := ha x x0 (by omega)
  obtain ⟨b0, b1⟩ := ha y y0 (by omega)
  obtain ⟨c0, c1⟩ := ha _ e0 (by omega)
  obtain ⟨s0, s1⟩ := small_prod hm x0 x1 b0 b1
  have ht := times2 hg x0 x1 y0 y1
  have key := crs_mod (m := m) (a := rd l x + rd u x * rd l y) (by omega) c0 c1
  rw [impl_isCrossed.l1_eq, ht, Option.bind_some, w64 (x := rd u x * rd l y) (by omega) (by omega), w64 (x := rd l x + rd u x * rd l y) (by omega) (by omega), w64 (x := rd l x + rd u x * rd l y - rd l (T g x y)) (by omega) (by omega)]
  refine ⟨fun h => ?_, fun h => ?_⟩
  ·
   have h' := key.2 h
   ((with_reducible repeat (first | refine go_pos (by first | assumption | omega | rfl | exact B_pos (by omega)) ?_ | refine go_neg (by first | assumption | omega | decide | exact B_not (by omega)) ?_ | refine go_bind (by first | assumption) ?_ | dsimp only)); first | done | (with_reducible rfl) | simp (disch := omega) only [w64] | (show False; done))
  ·
   have h' := fun q => h (key.1 q)
   ((with_reducible repeat (first | refine go_pos (by first | assumption | omega | rfl | exact B_pos (by omega)) ?_ | refine go_neg (by first | assumption | omega | decide | exact B_not (by omega)) ?_ | refine go_bind (by first | assumption) ?_ | dsimp only)); first | done | (with_reducible rfl) | simp (disch := omega) only [w64] | (show False; done))) (fun _ => by (rw [impl_isCrossed.l1_eq]); ((with_reducible repeat (first | refine go_pos (by first | assumption | omega | rfl | exact B_pos (by omega)) ?_ | refine go_neg (by first | assumption | omega | decide | exact B_not (by omega)) ?_ | refine go_bind (by first | assumption) ?_ | dsimp only)); first | done | (with_reducible rfl) | simp (disch := omega) only [w64] | (show False; done)))
 refine ⟨fun h => ?_, fun h => ?_⟩ <;> rw [impl_isCrossed.l0_eq, impl_order.f_eq, Option.bind_some] <;> (with_reducible repeat (first | refine go_pos (by first | assumption | omega | rfl | exact B_pos (by omega)) ?_ | refine go_neg (by first | assumption | omega | decide | exact B_not (by omega)) ?_ | refine go_bind (by first | assumption) ?_ | dsimp only))
 ·
  exact inner.1 h
 ·
  exact inner.2 h
theorem Crossed_ {g : List (List Int)} {m : Int} {u l : List Int} (hg : Grp g) (hm : Mdl g m u) (hn : Nums g m l) : spec_l05Crossed.f g m u l = some (B (Crs g m u l)) := by
 have n8 := hg.n8; have m2 := hm.m2; have m12 := hm.m12; have hlu := hm.len
 obtain ⟨hl, ha⟩ := hn
 rw [spec_l05Crossed.f_eq]
 refine scanT g.length (fun x => spec_l05Crossed.l0 l x g m u) (fun x => ∀ y : Int, 0 ≤ y → y < g.length → rd l (T g x y) = (rd l x + rd u x * rd l y) % m) (fun x x0 x1 _ => ?_) (fun _ => by rw [spec_l05Crossed.l0_eq, spec_l01N.f_eq, Option.bind_some]; ((with_reducible repeat (first | refine go_pos (by first | assumption | omega | rfl | exact B_pos (by omega)) ?_ | refine go_neg (by first | assumption | omega | decide | exact B_not (by omega)) ?_ | refine go_bind (by first | assumption) ?_ | dsimp only)); first | done | (with_reducible rfl) | simp (disch := omega) only [w64] | (show False; done)))
 have rx := hg.row x x0 x1
 have inner := scanI g.length (fun y => spec_l05Crossed.l1 l x y g m u) (fun y => rd l (T g x y) = (rd l x + rd u x * rd l y) % m) (some false) (spec_l05Crossed.l0 l (x + 1) g m u) (fun y y0 y1 _ => by
  obtain ⟨e0, e1⟩ := hg.ent x y x0 x1 y0 y1
  obtain ⟨a0, a1⟩ := ha x x0 (by omega)
  obtain ⟨b0, b1⟩ := ha y y0 (by omega)
  obtain ⟨s0, s1⟩ := small_prod hm x0 x1 b0 b1
  have hmod := Mod_ (a := rd l x + rd u x * rd l y) (m := m) (by omega) (by omega) (by omega) (by omega)
  rw [spec_l05Crossed.l1_eq, spec_l01N.f_eq, Option.bind_some, w64 (x := rd u x * rd l y) (by omega) (by omega), w64 (x := rd l x + rd u x * rd l y) (by omega) (by omega), hmod, Option.bind_some]
  refine ⟨fun h => ?_, fun h => ?_⟩ <;> ((with_reducible repeat (first | refine go_pos (by first | assumption | omega | rfl | exact B_pos (by omega)) ?_ | refine go_neg (by first | assumption | omega | decide | exact B_not (by omega)) ?_ | refine go_bind (by first | assumption) ?_ | dsimp only)); first | done | (with_reducible rfl) | simp (disch := omega) only [w64] | (show False; done))) (fun _ => by rw [spec_l05Crossed.l1_eq, spec_l01N.f_eq, Option.bind_some]; ((with_reducible repeat (first | refine go_pos (by first | assumption | omega | rfl | exact B_pos (by omega)) ?_ | refine go_neg (by first | assumption | omega | decide | exact B_not (by omega)) ?_ | refine go_bind (by first | assumption) ?_ | dsimp only)); first | done | (with_reducible rfl) | simp (disch := omega) only [w64] | (show False; done)))
 refine ⟨fun h => ?_, fun h => ?_⟩ <;> rw [spec_l05Crossed.l0_eq, spec_l01N.f_eq, Option.bind_some] <;> (with_reducible repeat (first | refine go_pos (by first | assumption | omega | rfl | exact B_pos (by omega)) ?_ | refine go_neg (by first | assumption | omega | decide | exact B_not (by omega)) ?_ | refine go_bind (by first | assumption) ?_ | dsimp only))
 ·
  exact inner.1 h
 ·
  exact inner.2 h
def Comp (g : List (List Int)) (m : Int) (u ps : List Int) : Prop := ps.length = g.length ∧ (∀ i : Int, 0 ≤ i → i < ps.length → rd ps i / m = i) ∧ Crs g m u (ps.map (· % m))
theorem nums_map {g : List (List Int)} {m : Int} (m0 : 0 < m) {ps : List Int} (h : ps.length = g.length) : Nums g m (ps.map (· % m)) := by
 refine ⟨by rw [List.length_map]; omega, allIn_of fun x hx => ?_⟩
 obtain ⟨p, _, rfl⟩ := List.mem_map.1 hx
 exact ⟨Int.emod_nonneg _ (by omega), Int.emod_lt_of_pos _ m0⟩
theorem isComplement {g : List (List Int)} {m : Int} {u ps : List Int} (hg : Grp g) (hm : Mdl g m u) (hp : AllIn (g.length * m) ps) (hpl : ps.length ≤ 1048576) : impl_isComplement.f g m u ps = some (B (Comp g m u ps)) := by
 have n8 := hg.n8; have m2 := hm.m2; have m12 := hm.m12
 obtain ⟨b0, b1⟩ := nm_bd hg hm
 rw [impl_isComplement.f_eq]
 have l2 : ∀ x : Int, ([x] : List Int).length = 1 := fun _ => rfl
 rcases scan ps.length (fun i => impl_isComplement.l0 ps (ps.length : Int) i g m u ((ps.take i.toNat).map (· % m))) (fun i => rd ps i / m = i) (some false) (fun i i0 i1 _ => by
  obtain ⟨n, rfl⟩ := Int.eq_ofNat_of_zero_le i0
  obtain ⟨p0, p1⟩ := hp n (by omega) (by omega)
  obtain ⟨x0, x1, _, _⟩ := pair_parts (show 0 < m by omega) p0 p1
  have l1 : ((ps.take n).map (· % m)).length = n := by rw [List.length_map, List.length_take]; omega
  have e : (ps.take (n + 1)).map (· % m) = (ps.take n).map (· % m) ++ [rd ps n % m] := by rw [take_rd (by omega), List.map_append, List.map_singleton]
  rw [Int.toNat_natCast, show ((n : Int) + 1).toNat = n + 1 by omega, e, impl_isComplement.l0_eq, tdiv_nn p0, tmod_nn p0, w64 (x := rd ps n / m) (by omega) (by omega), l1, l2]
  refine ⟨fun h => ?_, fun h => ?_⟩ <;> ((with_reducible repeat (first | refine go_pos (by first | assumption | omega | rfl | exact B_pos (by omega)) ?_ | refine go_neg (by first | assumption | omega | decide | exact B_not (by omega)) ?_ | refine go_bind (by first | assumption) ?_ | dsimp only)); first | done | (with_reducible rfl) | simp (disch := omega) only [w64] | (show False; done))) with ⟨h, e⟩ | ⟨j, j0, j1, _, h, _, e⟩
 ·
  simp only [Int.toNat_zero, List.take_zero, List.map_nil, Int.toNat_natCast, List.take_length] at e
  have l1 : (ps.map (· % m)).length = ps.length := List.length_map ..
  rw [e, impl_isComplement.l0_eq, impl_order.f_eq, Option.bind_some]
  by_cases hn : ps.length = g.length
  ·
   have hc := isCrossed hg hm (nums_map (g := g) (show 0 < m by omega) hn)
   rw [B_congr (show Comp g m u ps ↔ Crs g m u (ps.map (· % m)) from ⟨fun k => k.2.2, fun k => ⟨hn, h, k⟩⟩)]
   (with_reducible repeat (first | refine go_pos (by first | assumption | omega | rfl | exact B_pos (by omega)) ?_ | refine go_neg (by first | assumption | omega | decide | exact B_not (by omega)) ?_ | refine go_bind (by first | assumption) ?_ | dsimp only))
   simp
  ·
   rw [B_neg fun k => hn k.1]
   ((with_reducible repeat (first | refine go_pos (by first | assumption | omega | rfl | exact B_pos (by omega)) ?_ | refine go_neg (by first | assumption | omega | decide | exact B_not (by omega)) ?_ | refine go_bind (by first | assumption) ?_ | dsimp only)); first | done | (with_reducible rfl) | simp (disch := omega) only [w64] | (show False; done))
 ·
  rw [B_neg fun k => h (k.2.1 j j0 j1)]
  exact e
theorem Complement_ {g : List (List Int)} {m : Int} {u ps : List Int} (hg : Grp g) (hm : Mdl g m u) (hp : AllIn (g.length * m) ps) : spec_l05Complement.f g m u ps = some (B (Comp g m u ps)) := by
 have n8 := hg.n8; have m2 := hm.m2; have m12 := hm.m12
 obtain ⟨b0, b1⟩ := nm_bd hg hm
 rw [spec_l05Complement.f_eq]
 by_cases hn : ps.length = g.length
 rotate_left
 ·
  rw [B_neg fun k => hn k.1]
  ((with_reducible repeat (first | refine go_pos (by first | assumption | omega | rfl | exact B_pos (by omega)) ?_ | refine go_neg (by first | assumption | omega | decide | exact B_not (by omega)) ?_ | refine go_bind (by first | assumption) ?_ | dsimp only)); first | done | (with_reducible rfl) | simp (disch := omega) only [w64] | (show False; done))
 (with_reducible repeat (first | refine go_pos (by first | assumption | omega | rfl | exact B_pos (by omega)) ?_ | refine go_neg (by first | assumption | omega | decide | exact B_not (by omega)) ?_ | refine go_bind (by first | assumption) ?_ | dsimp only))
 have l2 : ∀ x : Int, ([x] : List Int).length = 1 := fun _ => rfl
 rcases scan g.length (fun i => spec_l05Complement.l0 ps i g m u ((ps.take i.toNat).map (· % m))) (fun i => rd ps i / m = i) (some false) (fun i i0 i1 _ => by
  obtain ⟨n, rfl⟩ := Int.eq_ofNat_of_zero_le i0
  obtain ⟨p0, p1⟩ := hp n (by omega) (by omega)
  obtain ⟨x0, x1, _, _⟩ := pair_parts (show 0 < m by omega) p0 p1
  have l1 : ((ps.take n).map (· % m)).length = n := by rw [List.length_map, List.length_take]; omega
  have e : (ps.take (n + 1)).map (· % m) = (ps.take n).map (· % m) ++ [rd ps n % m] := by rw [take_rd (by omega), List.map_append, List.map_singleton]
  rw [Int.toNat_natCast, show ((n : Int) + 1).toNat = n + 1 by omega, e, spec_l05Complement.l0_eq, spec_l01N.f_eq, Option.bind_some, tdiv_nn p0, tmod_nn p0, w64 (x := rd ps n / m) (by omega) (by omega), l1, l2]
  refine ⟨fun h => ?_, fun h => ?_⟩ <;> ((with_reducible repeat (first | refine go_pos (by first | assumption | omega | rfl | exact B_pos (by omega)) ?_ | refine go_neg (by first | assumption | omega | decide | exact B_not (by omega)) ?_ | refine go_bind (by first | assumption) ?_ | dsimp only)); first | done | (with_reducible rfl) | simp (disch := omega) only [w64] | (show False; done))) with ⟨h, e⟩ | ⟨j, j0, j1, _, h, _, e⟩
 ·
  simp only [Int.toNat_zero, List.take_zero, List.map_nil, Int.toNat_natCast] at e
  rw [show ps.take g.length = ps by rw [← hn, List.take_length]] at e
  rw [e, spec_l05Complement.l0_eq, spec_l01N.f_eq, Option.bind_some]
  have hc := Crossed_ hg hm (nums_map (g := g) (show 0 < m by omega) hn)
  rw [B_congr (show Comp g m u ps ↔ Crs g m u (ps.map (· % m)) from ⟨fun k => k.2.2, fun k => ⟨hn, fun i i0 i1 => h i i0 (by omega), k⟩⟩)]
  (with_reducible repeat (first | refine go_pos (by first | assumption | omega | rfl | exact B_pos (by omega)) ?_ | refine go_neg (by first | assumption | omega | decide | exact B_not (by omega)) ?_ | refine go_bind (by first | assumption) ?_ | dsimp only))
  simp
 ·
  rw [B_neg fun k => h (k.2.1 j j0 (by omega))]
  exact e
end Go.Proofs.YthmcpmnhdbeahaaGreat.V
namespace Go.Proofs.YthmcpmnhdbeahaaGreat.P
open Go Go.RowKit Go.Proofs.YthmcpmnhdbeahaaGreat.D
end Go.Proofs.YthmcpmnhdbeahaaGreat.P
set_option maxHeartbeats 4000000
namespace Go.Proofs.YthmcpmnhdbeahaaGreat.V
open Go.RowKit Go.Proofs.YthmcpmnhdbeahaaGreat.D Go.Proofs.YthmcpmnhdbeahaaGreat.P
def Ll (W : Nat) (x y : List Int) : Prop := ∃ j : Nat, j < W ∧ (∀ i : Nat, i < j → rd x (i : Int) = rd y (i : Int)) ∧ rd x (j : Int) < rd y (j : Int)
theorem Ll.irrefl {W : Nat} {x : List Int} : ¬ Ll W x x := fun ⟨j, _, _, h⟩ => by omega
theorem Ll.trans {W : Nat} {x y z : List Int} (h : Ll W x y) (k : Ll W y z) : Ll W x z := by
 obtain ⟨i, i1, i2, i3⟩ := h
 obtain ⟨j, j1, j2, j3⟩ := k
 rcases Nat.lt_trichotomy i j with q | q | q
 ·
  exact ⟨i, i1, fun t ht => (i2 t ht).trans (j2 t (by omega)), by rw [← j2 i q]; exact i3⟩
 ·
  subst q; exact ⟨i, i1, fun t ht => (i2 t ht).trans (j2 t ht), by omega⟩
 ·
  exact ⟨j, j1, fun t ht => (i2 t (by omega)).trans (j2 t ht), by rw [i2 j q]; exact j3⟩
theorem Ll.asymm {W : Nat} {x y : List Int} (h : Ll W x y) : ¬ Ll W y x := fun k => Ll.irrefl (h.trans k)
theorem Ll.tri (W : Nat) (x y : List Int) : Ll W x y ∨ (∀ i : Nat, i < W → rd x (i : Int) = rd y (i : Int)) ∨ Ll W y x := by
 have main : ∀ k, k ≤ W → Ll W x y ∨ (∀ i : Nat, i < k → rd x (i : Int) = rd y (i : Int)) ∨ Ll W y x := by
  intro k
  induction k with
  | zero => exact fun _ => .inr (.inl fun i hi => by omega)
  | succ k ih =>
   intro hk
   rcases ih (by omega) with h | h | h
   ·
    exact .inl h
   ·
    rcases Int.lt_trichotomy (rd x (k : Int)) (rd y (k : Int)) with q | q | q
    ·
     exact .inl ⟨k, by omega, h, q⟩
    ·
     refine .inr (.inl fun i hi => ?_)
     by_cases e : i = k
     ·
      rw [e]; exact q
     ·
      exact h i (by omega)
    ·
     exact .inr (.inr ⟨k, by omega, fun i hi => (h i hi).symm, q⟩)
   ·
    exact .inr (.inr h)
 exact main W (Nat.le_refl _)
theorem eq_of_all {W : Nat} {x y : List Int} (hx : x.length = W) (hy : y.length = W) (h : ∀ i : Nat, i < W → rd x (i : Int) = rd y (i : Int)) : x = y :=
 ext_rd (by omega) fun i i0 i1 => by
  obtain ⟨n, rfl⟩ := Int.eq_ofNat_of_zero_le i0
  exact h n (by omega)
theorem Ll.le_trans {W : Nat} {x y z : List Int} (hx : x.length = W) (hy : y.length = W) (hz : z.length = W) (h : ¬ Ll W y x) (k : ¬ Ll W z y) : ¬ Ll W z x := by
 intro q
 rcases Ll.tri W x y with a | a | a
 ·
  rcases Ll.tri W y z with b | b | b
  ·
   exact Ll.asymm q (a.trans b)
  ·
   have := eq_of_all hy hz b; subst this; exact Ll.asymm q a
  ·
   exact k b
 ·
  have := eq_of_all hx hy a; subst this
  exact k q
 ·
  exact h a
theorem Compare_ {x y : List Int} {W : Nat} (hx : x.length = W) (hy : y.length = W) (hW : W ≤ 1000000) : ∃ c : Int, slices_Compare_int64.f x y = some c ∧ (c < 0 ↔ Ll W x y) ∧ (c = 0 ↔ x = y) := by
 rw [slices_Compare_int64.f_eq]
 have hc : ∀ a b : Int, cmp_Compare_int64.f a b = some (if a < b then -1 else if a > b then 1 else 0) := fun a b => by
  have n1 : cmp_isNaN_int64.f a = some false := by rw [cmp_isNaN_int64.f_eq]; simp
  have n2 : cmp_isNaN_int64.f b = some false := by rw [cmp_isNaN_int64.f_eq]; simp
  rw [cmp_Compare_int64.f_eq, n1, n2]
  by_cases h : a < b
  ·
   simp [h]
  ·
   by_cases h2 : a > b
   ·
    simp [h, h2]
   ·
    simp [h, h2]
 suffices H : ∀ d k : Nat, k + d = W → (∀ i : Nat, i < k → rd x (i : Int) = rd y (i : Int)) → ∃ c : Int, slices_Compare_int64.l0 x y x (x.length : Int) (k : Int) = some c ∧ (c < 0 ↔ Ll W x y) ∧ (c = 0 ↔ x = y) from H W 0 (by omega) fun i hi => by omega
 intro d
 induction d with
 | zero =>
  intro k hk he
  have exy := eq_of_all hx hy fun i hi => he i (by omega)
  refine ⟨0, ?_, ⟨fun h => by omega, fun h => by rw [exy] at h; exact absurd h Ll.irrefl⟩, ⟨fun _ => exy, fun _ => rfl⟩⟩
  rw [slices_Compare_int64.l0_eq]
  ((with_reducible repeat (first | refine go_pos (by first | assumption | omega | rfl | exact B_pos (by omega)) ?_ | refine go_neg (by first | assumption | omega | decide | exact B_not (by omega)) ?_ | refine go_bind (by first | assumption) ?_ | dsimp only)); first | done | (with_reducible rfl) | simp (disch := omega) only [w64] | (show False; done))
 | succ d ih =>
  intro k hk he
  have hck := hc (rd x (k : Int)) (rd y (k : Int))
  rcases Int.lt_trichotomy (rd x (k : Int)) (rd y (k : Int)) with q | q | q
  ·
   rw [if_pos q] at hck
   refine ⟨-1, ?_, ⟨fun _ => ⟨k, by omega, he, q⟩, fun _ => by omega⟩, ⟨fun h => by omega, fun h => by rw [h] at q; omega⟩⟩
   rw [slices_Compare_int64.l0_eq]
   ((with_reducible repeat (first | refine go_pos (by first | assumption | omega | rfl | exact B_pos (by omega)) ?_ | refine go_neg (by first | assumption | omega | decide | exact B_not (by omega)) ?_ | refine go_bind (by first | assumption) ?_ | dsimp only)); first | done | (with_reducible rfl) | simp (disch := omega) only [w64] | (show False; done))
  ·
   rw [if_neg (by omega), if_neg (by omega)] at hck
   obtain ⟨c, c1, c2, c3⟩ := ih (k + 1) (by omega) fun i hi => by
    by_cases e : i = k
    ·
     rw [e]; exact q
    ·
     exact he i (by omega)
   refine ⟨c, ?_, c2, c3⟩
   rw [slices_Compare_int64.l0_eq, wn (j := k) (by omega)]
   (with_reducible repeat (first | refine go_pos (by first | assumption | omega | rfl | exact B_pos (by omega)) ?_ | refine go_neg (by first | assumption | omega | decide | exact B_not (by omega)) ?_ | refine go_bind (by first | assumption) ?_ | dsimp only))
   exact c1
  ·
   rw [if_neg (by omega), if_pos q] at hck
   refine ⟨1, ?_, ⟨fun h => by omega, fun h => absurd (⟨k, by omega, fun i hi => (he i hi).symm, q⟩ : Ll W y x) h.asymm⟩, ⟨fun h => by omega, fun h => by rw [h] at q; omega⟩⟩
   rw [slices_Compare_int64.l0_eq]
   ((with_reducible repeat (first | refine go_pos (by first | assumption | omega | rfl | exact B_pos (by omega)) ?_ | refine go_neg (by first | assumption | omega | decide | exact B_not (by omega)) ?_ | refine go_bind (by first | assumption) ?_ | dsimp only)); first | done | (with_reducible rfl) | simp (disch := omega) only [w64] | (show False; done))
theorem Equal_ (x y : List Int) (hx : x.length ≤ 1000000) : slices_Equal_int64.f x y = some (B (x = y)) := by
 rw [slices_Equal_int64.f_eq]
 by_cases h : (x.length : Int) = (y.length : Int)
 rotate_left
 ·
  rw [B_neg fun e => h (by rw [e])]
  ((with_reducible repeat (first | refine go_pos (by first | assumption | omega | rfl | exact B_pos (by omega)) ?_ | refine go_neg (by first | assumption | omega | decide | exact B_not (by omega)) ?_ | refine go_bind (by first | assumption) ?_ | dsimp only)); first | done | (with_reducible rfl) | simp (disch := omega) only [w64] | (show False; done))
 (with_reducible repeat (first | refine go_pos (by first | assumption | omega | rfl | exact B_pos (by omega)) ?_ | refine go_neg (by first | assumption | omega | decide | exact B_not (by omega)) ?_ | refine go_bind (by first | assumption) ?_ | dsimp only))
 rw [B_congr (show x = y ↔ ∀ i : Int, 0 ≤ i → i < x.length → rd x i = rd y i from ⟨fun e i _ _ => by rw [e], fun e => ext_rd (by omega) e⟩)]
 refine scanT x.length (fun i => slices_Equal_int64.l0 x y (x.length : Int) i) (fun i => rd x i = rd y i) (fun i i0 i1 _ => ?_) (fun _ => by (rw [slices_Equal_int64.l0_eq]); ((with_reducible repeat (first | refine go_pos (by first | assumption | omega | rfl | exact B_pos (by omega)) ?_ | refine go_neg (by first | assumption | omega | decide | exact B_not (by omega)) ?_ | refine go_bind (by first | assumption) ?_ | dsimp only)); first | done | (with_reducible rfl) | simp (disch := omega) only [w64] | (show False; done)))
 refine ⟨fun h => ?_, fun h => ?_⟩ <;> (rw [slices_Equal_int64.l0_eq]) <;> ((with_reducible repeat (first | refine go_pos (by first | assumption | omega | rfl | exact B_pos (by omega)) ?_ | refine go_neg (by first | assumption | omega | decide | exact B_not (by omega)) ?_ | refine go_bind (by first | assumption) ?_ | dsimp only)); first | done | (with_reducible rfl) | simp (disch := omega) only [w64] | (show False; done))
end Go.Proofs.YthmcpmnhdbeahaaGreat.V
namespace Go.Proofs.YthmcpmnhdbeahaaGreat.V
open Go Go.RowKit Go.Proofs.YthmcpmnhdbeahaaGreat.D Go.Proofs.YthmcpmnhdbeahaaGreat.P
structure Ord (H : Value → Prop) (L : Value → Value → Prop) (C : Value → Value → Option Int) : Prop where
 asy : ∀ x y, L x y → ¬ L y x
 tr : ∀ x y z, H x → H y → H z → ¬ L y x → ¬ L z y → ¬ L z x
 cmp : ∀ x y, H x → H y → ∃ c : Int, C x y = some c ∧ (c < 0 ↔ L x y)
theorem rdV_mid (P : List Value) (x : Value) (Q : List Value) : Ty.rd .raw (P ++ x :: Q) (P.length : Int) = x := by
 show (P ++ x :: Q).getD ((P.length : Int)).toNat _ = x
 simp [List.getD_eq_getElem?_getD]
theorem vals_snoc {P : List Value} {n : Nat} (h : P.length = n + 1) : ∃ P' p, P = P' ++ [p] ∧ P'.length = n := by
 have hne : P ≠ [] := fun e => by rw [e] at h; simp at h
 exact ⟨P.dropLast, P.getLast hne, (List.dropLast_concat_getLast hne).symm, by rw [List.length_dropLast]; omega⟩
theorem ins_one {H : Value → Prop} {L : Value → Value → Prop} {C : Value → Value → Option Int} (hC : Ord H L C) {N : Nat} (hN : N ≤ 1000000) :
  ∀ (n : Nat) (P Q R : List Value) (x : Value), P.length = n → (∀ r ∈ P ++ x :: (Q ++ R), H r) → (P ++ Q).Pairwise (fun r s => ¬ L s r) → (∀ q ∈ Q, L x q) → (P ++ x :: (Q ++ R)).length = N →
  ∃ S, _root_.Go.Proofs.YthmcpmnhdbeahaaGreat.R.slices_insertionSortCmpFunc_int64.l1 0 (N : Int) C ((P.length + Q.length : Nat) : Int) (n : Int) (P ++ x :: (Q ++ R)) = _root_.Go.Proofs.YthmcpmnhdbeahaaGreat.R.slices_insertionSortCmpFunc_int64.l0 0 (N : Int) C ((P.length + Q.length + 1 : Nat) : Int) (S ++ R) ∧ S.Pairwise (fun r s => ¬ L s r) ∧ S.Perm (P ++ x :: Q) := by
 intro n
 induction n with
 | zero =>
  intro P Q R x hP hr hs hq hN'
  obtain rfl := List.eq_nil_of_length_eq_zero hP
  refine ⟨x :: Q, ?_, ?_, List.Perm.refl _⟩
  ·
   simp only [List.nil_append, List.length_nil, Nat.zero_add] at hN' ⊢
   have : Q.length + 1 ≤ N := by simp only [List.length_cons, List.length_append] at hN'; omega
   rw [_root_.Go.Proofs.YthmcpmnhdbeahaaGreat.R.slices_insertionSortCmpFunc_int64.l1_eq, wn (j := Q.length) (by omega)]
   (with_reducible repeat (first | refine go_pos (by first | assumption | omega | rfl | exact B_pos (by omega)) ?_ | refine go_neg (by first | assumption | omega | decide | exact B_not (by omega)) ?_ | refine go_bind (by first | assumption) ?_ | dsimp only))
   rfl
  ·
   rw [List.pairwise_cons]
   exact ⟨fun q hq' => hC.asy _ _ (hq q hq'), by simpa using hs⟩
 | succ n ih =>
  intro P Q R x hP hr hs hq hN'
  obtain ⟨P', p, rfl, hP'⟩ := vals_snoc hP
  have lN : P'.length + 1 + 1 + Q.length + R.length = N := by
   have := hN'
   simp only [List.length_cons, List.length_append, List.length_nil] at this
   omega
  have hxl : H x := hr x (by simp)
  have hpl : H p := hr p (by simp)
  obtain ⟨c, c1, c2⟩ := hC.cmp x p hxl hpl
  have e0 : (P' ++ [p]) ++ x :: (Q ++ R) = P' ++ p :: (x :: (Q ++ R)) := by simp
  have r1 : Ty.rd .raw ((P' ++ [p]) ++ x :: (Q ++ R)) ((n + 1 : Nat) : Int) = x := by rw [← hP]; exact rdV_mid _ _ _
  have r0 : Ty.rd .raw ((P' ++ [p]) ++ x :: (Q ++ R)) (n : Int) = p := by rw [e0, ← hP']; exact rdV_mid _ _ _
  have w1 : wrapI (((n + 1 : Nat) : Int) - 1) = (n : Int) := by rw [w64 (by omega) (by omega)]; omega
  have sw : (((P' ++ [p]) ++ x :: (Q ++ R)).set (n + 1) p).set n x = P' ++ x :: ((p :: Q) ++ R) := by
   rw [List.set_append, if_neg (by rw [List.length_append, List.length_singleton]; omega), List.length_append, List.length_singleton, show n + 1 - (P'.length + 1) = 0 by omega, List.set_cons_zero, show (P' ++ [p]) ++ p :: (Q ++ R) = P' ++ p :: (p :: (Q ++ R)) by simp, List.set_append, if_neg (by omega), show n - P'.length = 0 by omega, List.set_cons_zero]
   rfl
  have sl : (((P' ++ [p]) ++ x :: (Q ++ R)).set (n + 1) p).length = N := by rw [List.length_set]; exact hN'
  have tn : (((n + 1 : Nat) : Int)).toNat = n + 1 := by omega
  by_cases hc : c < 0
  ·
   have hr2 : ∀ r ∈ P' ++ x :: ((p :: Q) ++ R), H r := fun r hr' => hr r (by simp only [List.mem_append, List.mem_cons, List.mem_singleton] at hr' ⊢; rcases hr' with h | h | (h | h) | h <;> simp [h])
   obtain ⟨S, h1, h2, h3⟩ := ih P' (p :: Q) R x hP' hr2 (by rw [show P' ++ p :: Q = P' ++ [p] ++ Q by simp]; exact hs) (fun q hq' => by
    rcases List.mem_cons.1 hq' with rfl | hq'
    ·
     exact c2.1 hc
    ·
     exact hq q hq') (by rw [← sw, List.length_set, List.length_set]; exact hN')
   refine ⟨S, ?_, h2, h3.trans ?_⟩
   ·
    rw [show (P' ++ [p]).length + Q.length = P'.length + (p :: Q).length by simp only [List.length_append, List.length_cons, List.length_nil]; omega, ← h1, _root_.Go.Proofs.YthmcpmnhdbeahaaGreat.R.slices_insertionSortCmpFunc_int64.l1_eq, w1, tn, Int.toNat_natCast, r1, r0]
    (with_reducible repeat (first | refine go_pos (by first | assumption | omega | rfl | exact B_pos (by omega)) ?_ | refine go_neg (by first | assumption | omega | decide | exact B_not (by omega)) ?_ | refine go_bind (by first | assumption) ?_ | dsimp only))
    rw [sw]
   ·
    rw [show (P' ++ [p]) ++ x :: Q = P' ++ p :: x :: Q by simp]
    exact List.Perm.append_left _ (List.Perm.swap ..)
  ·
   refine ⟨(P' ++ [p]) ++ x :: Q, ?_, ?_, List.Perm.refl _⟩
   ·
    rw [_root_.Go.Proofs.YthmcpmnhdbeahaaGreat.R.slices_insertionSortCmpFunc_int64.l1_eq, w1, r1, r0, wn (j := (P' ++ [p]).length + Q.length) (by simp only [List.length_append, List.length_cons, List.length_nil]; omega)]
    (with_reducible repeat (first | refine go_pos (by first | assumption | omega | rfl | exact B_pos (by omega)) ?_ | refine go_neg (by first | assumption | omega | decide | exact B_not (by omega)) ?_ | refine go_bind (by first | assumption) ?_ | dsimp only))
    rw [show ((P' ++ [p]) ++ x :: Q) ++ R = (P' ++ [p]) ++ x :: (Q ++ R) by simp]
   ·
    have hnp : ¬ L x p := fun k => hc (c2.2 k)
    rw [List.pairwise_append] at hs ⊢
    obtain ⟨s1, s2, s3⟩ := hs
    refine ⟨s1, List.pairwise_cons.2 ⟨fun q hq' => hC.asy _ _ (hq q hq'), s2⟩, fun r hr' s hs' => ?_⟩
    rcases List.mem_cons.1 hs' with rfl | hs'
    ·
     rcases List.mem_append.1 hr' with h | h
     ·
      rw [List.pairwise_append] at s1
      have := s1.2.2 r h p (List.mem_singleton.2 rfl)
      exact hC.tr _ _ _ (hr r (by simp [h])) hpl hxl this hnp
     ·
      rw [List.mem_singleton.1 h]; exact hnp
    ·
     exact s3 r hr' s hs'
theorem isort_ {H : Value → Prop} {L : Value → Value → Prop} {C : Value → Value → Option Int} (hC : Ord H L C) {xs : List Value} (hN : xs.length ≤ 1000000) (hr : ∀ r ∈ xs, H r) :
  ∃ S, _root_.Go.Proofs.YthmcpmnhdbeahaaGreat.R.slices_insertionSortCmpFunc_int64.f xs 0 (xs.length : Int) C = some S ∧ S.Pairwise (fun r s => ¬ L s r) ∧ S.Perm xs := by
 have main : ∀ (n : Nat) (S R : List Value), R.length = n → S.length + n = xs.length → 0 < S.length → S.Pairwise (fun r s => ¬ L s r) → (∀ r ∈ S ++ R, H r) →
   ∃ S', _root_.Go.Proofs.YthmcpmnhdbeahaaGreat.R.slices_insertionSortCmpFunc_int64.l0 0 (xs.length : Int) C (S.length : Int) (S ++ R) = some S' ∧ S'.Pairwise (fun r s => ¬ L s r) ∧ S'.Perm (S ++ R) := by
  intro n
  induction n with
  | zero =>
   intro S R hR hl _ hs hr
   obtain rfl := List.eq_nil_of_length_eq_zero hR
   rw [List.append_nil]
   refine ⟨S, ?_, hs, List.Perm.refl _⟩
   rw [_root_.Go.Proofs.YthmcpmnhdbeahaaGreat.R.slices_insertionSortCmpFunc_int64.l0_eq]
   ((with_reducible repeat (first | refine go_pos (by first | assumption | omega | rfl | exact B_pos (by omega)) ?_ | refine go_neg (by first | assumption | omega | decide | exact B_not (by omega)) ?_ | refine go_bind (by first | assumption) ?_ | dsimp only)); first | done | (with_reducible rfl) | simp (disch := omega) only [w64] | (show False; done))
  | succ n ih =>
   intro S R hR hl h0 hs hr
   cases R with
   | nil => simp at hR
   | cons x R =>
    obtain ⟨S1, h1, h2, h3⟩ := ins_one hC (N := xs.length) hN S.length S [] R x rfl (by simpa using hr) (by simpa using hs) (fun q hq => by cases hq) (by simp only [List.nil_append, List.length_append, List.length_cons] at hR ⊢; omega)
    have l1 : S1.length = S.length + 1 := by rw [h3.length_eq]; simp
    obtain ⟨S', k1, k2, k3⟩ := ih S1 R (by simpa using hR) (by omega) (by omega) h2 (fun r hr' => by
     rcases List.mem_append.1 hr' with h | h
     ·
      exact hr r (by have := h3.mem_iff.1 h; simp at this ⊢; rcases this with h | h <;> simp [h])
     ·
      exact hr r (by simp [h]))
    refine ⟨S', ?_, k2, k3.trans ?_⟩
    ·
     rw [_root_.Go.Proofs.YthmcpmnhdbeahaaGreat.R.slices_insertionSortCmpFunc_int64.l0_eq]
     simp only [List.nil_append, List.length_nil, Nat.add_zero] at h1
     have : S.length < xs.length := by omega
     (with_reducible repeat (first | refine go_pos (by first | assumption | omega | rfl | exact B_pos (by omega)) ?_ | refine go_neg (by first | assumption | omega | decide | exact B_not (by omega)) ?_ | refine go_bind (by first | assumption) ?_ | dsimp only))
     rw [h1, ← l1]
     exact k1
    ·
     have := h3.append_right R
     simpa using this
 rw [_root_.Go.Proofs.YthmcpmnhdbeahaaGreat.R.slices_insertionSortCmpFunc_int64.f_eq, show wrapI (0 + 1) = 1 from w64 (by omega) (by omega)]
 cases xs with
 | nil =>
  refine ⟨[], ?_, List.Pairwise.nil, List.Perm.refl _⟩
  rw [_root_.Go.Proofs.YthmcpmnhdbeahaaGreat.R.slices_insertionSortCmpFunc_int64.l0_eq]
  ((with_reducible repeat (first | refine go_pos (by first | assumption | omega | rfl | exact B_pos (by omega)) ?_ | refine go_neg (by first | assumption | omega | decide | exact B_not (by omega)) ?_ | refine go_bind (by first | assumption) ?_ | dsimp only)); first | done | (with_reducible rfl) | simp (disch := omega) only [w64] | (show False; done))
 | cons x xs =>
  have := main xs.length [x] xs rfl (by simp; omega) (by simp) (List.pairwise_singleton _ _) (by simpa using hr)
  simpa using this
theorem sort12 {H : Value → Prop} {L : Value → Value → Prop} {C : Value → Value → Option Int} (hC : Ord H L C) {xs : List Value} (hN : xs.length ≤ 12) (hr : ∀ r ∈ xs, H r) :
  ∃ S, _root_.Go.Proofs.YthmcpmnhdbeahaaGreat.R.slices_SortFunc_int64.f xs C = some S ∧ S.Pairwise (fun r s => ¬ L s r) ∧ S.Perm xs := by
 obtain ⟨S, h1, h2, h3⟩ := isort_ hC (by omega) hr
 refine ⟨S, ?_, h2, h3⟩
 have hb : ∃ t, _root_.Go.Proofs.YthmcpmnhdbeahaaGreat.R.bits_Len.f (wr .u64 (xs.length : Int)) = some t := by
  have e : wr .u64 (xs.length : Int) = (xs.length : Int) := by
   show hid _ = _
   rw [hid_eq]
   simp [IntKind.wrap, IntKind.bits, IntKind.signed]
   omega
  rw [e]
  unfold _root_.Go.Proofs.YthmcpmnhdbeahaaGreat.R.bits_Len.f
  rw [if_pos (by omega)]
  exact ⟨_, rfl⟩
 obtain ⟨t, ht⟩ := hb
 have w : wrapI ((xs.length : Int) - 0) = (xs.length : Int) := by rw [w64 (by omega) (by omega)]; omega
 have hCC : (fun z0 z1 => (C z0 z1).map fun z => z) = C := by funext a b; cases C a b <;> rfl
 rw [_root_.Go.Proofs.YthmcpmnhdbeahaaGreat.R.slices_SortFunc_int64.f_eq, ht, Option.bind_some, hCC, fuel_eq, _root_.Go.Proofs.YthmcpmnhdbeahaaGreat.R.slices_pdqsortCmpFunc_int64.f_eq, _root_.Go.Proofs.YthmcpmnhdbeahaaGreat.R.slices_pdqsortCmpFunc_int64.l0_eq, w, hCC, if_pos (by omega), h1]
 rfl
end Go.Proofs.YthmcpmnhdbeahaaGreat.V
