/- What the proof of the law FactorSetOfChoice stands on, part 4: words, each Go function's Lean function, and that the Go code comes to its answers; no condition. (Packed by wip/myprint/pack.py out of what the kit's printer wrote, its words among it, partly by our patches of it, and out of texts of this session.) -/
import Derived.Test.YtlkdhmijgpadaaaKFactorSetOfChoice3
set_option linter.unusedVariables false
namespace Go.Proofs.Ytlkdhmijgpadaaa.P
open Go Go.RowKit Go.Proofs.Ytlkdhmijgpadaaa.D
noncomputable def laws_toGroup.E : Env := { tt := TT, con := [(46, laws_toInt64SS.con)], frz := [], rows := [], live := [], n := 9, pin := 0, nils := [] }
noncomputable def laws_toGroup.fn : D.Fn := { body := Try.f13.body.getD .skip, res := Try.f13.results.toList, ins := [.agg [.v (.sl 25 (.sl 2 (.int .i64)))]], outs := [.agg [.own 25 true (.sl 2 (.int .i64))]] }
def laws_toGroup.enc (y : lsd (flats laws_toGroup.fn.outs) × lsd (ios laws_toGroup.fn.ins)) : (List (List Int)) := y.1.1
noncomputable def laws_toGroup.f (l0_0 : List (List Int)) : Option (List (List Int)) := denF laws_toGroup.E laws_toGroup.fn laws_toGroup.enc (l0_0, ())
set_option maxRecDepth 100000 in
theorem laws_toGroup.f_eq (l0_0 : List (List Int)) : laws_toGroup.f l0_0 = (laws_toInt64SS.f l0_0).bind fun t6 => some t6 := by kernel_rfl
noncomputable def laws_toGroup.con : Con := ⟨laws_toGroup.fn.ins, laws_toGroup.fn.outs, (List (List Int)), fun x => laws_toGroup.f x.1, fun r => ((r, ()), (()))⟩
theorem laws_toGroup.valid : Valid Try.prog 13 laws_toGroup.con := fn_valid (f := laws_toGroup.fn) (E := laws_toGroup.E) (enc := laws_toGroup.enc) ⟨ttOk, (conCons laws_toInt64SS.valid conNil)⟩ (Checked.mixed Try.checked) ⟨Try.func13, by kernel_rfl, by kernel_rfl, by kernel_rfl, by kernel_rfl, by decide, by kernel_rfl, by kernel_rfl⟩ (fun _ => rfl)
end Go.Proofs.Ytlkdhmijgpadaaa.P
set_option linter.unusedVariables false
namespace Go.Proofs.Ytlkdhmijgpadaaa.P
open Go Go.RowKit Go.Proofs.Ytlkdhmijgpadaaa.D
noncomputable def laws_eqInt64S.E : Env := { tt := TT, con := [], frz := [], rows := [], live := [(4, [0, 1, 5])], n := 26, pin := 0, nils := [] }
noncomputable def laws_eqInt64S.fn : D.Fn := { body := Try.f17.body.getD .skip, res := Try.f17.results.toList, ins := [.one (.v (.sl 2 (.int .i64))), .one (.v (.sl 2 (.int .i64)))], outs := [.one (.v .bool)] }
def laws_eqInt64S.enc (y : lsd (flats laws_eqInt64S.fn.outs) × lsd (ios laws_eqInt64S.fn.ins)) : Bool := y.1.1
noncomputable def laws_eqInt64S.f (l0 : List Int) (l1 : List Int) : Option Bool := denF laws_eqInt64S.E laws_eqInt64S.fn laws_eqInt64S.enc (l0, l1, ())
noncomputable def laws_eqInt64S.l0 (x0 : List Int) (x1 : List Int) (x5 : Int) : Option Bool := denAt laws_eqInt64S.E laws_eqInt64S.fn laws_eqInt64S.enc [1, 1, 0, 1, 0] { fr := [(0, .lf (.sl (.int .i64) x0)), (1, .lf (.sl (.int .i64) x1)), (5, .lf (.int .i64 x5))], ob := [], nx := 0 }
set_option maxRecDepth 100000 in
theorem laws_eqInt64S.f_eq (l0 : List Int) (l1 : List Int) : laws_eqInt64S.f l0 l1 = if (l0.length : Int) = (l1.length : Int) then (laws_eqInt64S.l0 l0 l1 0) else (some false) := by kernel_rfl
set_option maxRecDepth 100000 in
theorem laws_eqInt64S.l0_eq (x0 : List Int) (x1 : List Int) (x5 : Int) : laws_eqInt64S.l0 x0 x1 x5 = if x5 < (x0.length : Int) then (if 0 ≤ x5 then (if x5 < (x0.length : Int) then (if 0 ≤ x5 then (if x5 < (x1.length : Int) then (if (rd x0 x5) = (rd x1 x5) then (laws_eqInt64S.l0 x0 x1 (wrapI (x5 + 1))) else (some false)) else none) else none) else none) else none) else (some true) := (loop_unfold _ _ _ _).trans (by kernel_rfl)
noncomputable def laws_eqInt64S.con : Con := ⟨laws_eqInt64S.fn.ins, laws_eqInt64S.fn.outs, Bool, fun x => laws_eqInt64S.f x.1 x.2.1, fun r => ((r, ()), (()))⟩
theorem laws_eqInt64S.valid : Valid Try.prog 17 laws_eqInt64S.con := fn_valid (f := laws_eqInt64S.fn) (E := laws_eqInt64S.E) (enc := laws_eqInt64S.enc) ⟨ttOk, conNil⟩ (Checked.mixed Try.checked) ⟨Try.func17, by kernel_rfl, by kernel_rfl, by kernel_rfl, by kernel_rfl, by decide, by kernel_rfl, by kernel_rfl⟩ (fun _ => rfl)
end Go.Proofs.Ytlkdhmijgpadaaa.P
set_option linter.unusedVariables false
namespace Go.Proofs.Ytlkdhmijgpadaaa.P
open Go Go.RowKit Go.Proofs.Ytlkdhmijgpadaaa.D
noncomputable def laws_eqInt64SS.E : Env := { tt := TT, con := [(17, laws_eqInt64S.con)], frz := [], rows := [], live := [(4, [0, 1, 5])], n := 27, pin := 0, nils := [] }
noncomputable def laws_eqInt64SS.fn : D.Fn := { body := Try.f37.body.getD .skip, res := Try.f37.results.toList, ins := [.one (.v (.sl 25 (.sl 2 (.int .i64)))), .one (.v (.sl 25 (.sl 2 (.int .i64))))], outs := [.one (.v .bool)] }
def laws_eqInt64SS.enc (y : lsd (flats laws_eqInt64SS.fn.outs) × lsd (ios laws_eqInt64SS.fn.ins)) : Bool := y.1.1
noncomputable def laws_eqInt64SS.f (l0 : List (List Int)) (l1 : List (List Int)) : Option Bool := denF laws_eqInt64SS.E laws_eqInt64SS.fn laws_eqInt64SS.enc (l0, l1, ())
noncomputable def laws_eqInt64SS.l0 (x0 : List (List Int)) (x1 : List (List Int)) (x5 : Int) : Option Bool := denAt laws_eqInt64SS.E laws_eqInt64SS.fn laws_eqInt64SS.enc [1, 1, 0, 1, 0] { fr := [(0, .lf (.sl (.sl 2 (.int .i64)) x0)), (1, .lf (.sl (.sl 2 (.int .i64)) x1)), (5, .lf (.int .i64 x5))], ob := [], nx := 0 }
set_option maxRecDepth 100000 in
theorem laws_eqInt64SS.f_eq (l0 : List (List Int)) (l1 : List (List Int)) : laws_eqInt64SS.f l0 l1 = if (l0.length : Int) = (l1.length : Int) then (laws_eqInt64SS.l0 l0 l1 0) else (some false) := by kernel_rfl
set_option maxRecDepth 100000 in
theorem laws_eqInt64SS.l0_eq (x0 : List (List Int)) (x1 : List (List Int)) (x5 : Int) : laws_eqInt64SS.l0 x0 x1 x5 = if x5 < (x0.length : Int) then (if 0 ≤ x5 then (if x5 < (x0.length : Int) then (if 0 ≤ x5 then (if x5 < (x1.length : Int) then ((laws_eqInt64S.f (row x0 x5) (row x1 x5)).bind fun t25 => if t25 = true then (laws_eqInt64SS.l0 x0 x1 (wrapI (x5 + 1))) else (some false)) else none) else none) else none) else none) else (some true) := (loop_unfold _ _ _ _).trans (by kernel_rfl)
noncomputable def laws_eqInt64SS.con : Con := ⟨laws_eqInt64SS.fn.ins, laws_eqInt64SS.fn.outs, Bool, fun x => laws_eqInt64SS.f x.1 x.2.1, fun r => ((r, ()), (()))⟩
theorem laws_eqInt64SS.valid : Valid Try.prog 37 laws_eqInt64SS.con := fn_valid (f := laws_eqInt64SS.fn) (E := laws_eqInt64SS.E) (enc := laws_eqInt64SS.enc) ⟨ttOk, (conCons laws_eqInt64S.valid conNil)⟩ (Checked.mixed Try.checked) ⟨Try.func37, by kernel_rfl, by kernel_rfl, by kernel_rfl, by kernel_rfl, by decide, by kernel_rfl, by kernel_rfl⟩ (fun _ => rfl)
end Go.Proofs.Ytlkdhmijgpadaaa.P
set_option linter.unusedVariables false
namespace Go.Proofs.Ytlkdhmijgpadaaa.P
open Go Go.RowKit Go.Proofs.Ytlkdhmijgpadaaa.D
noncomputable def laws_eqGroup.E : Env := { tt := TT, con := [(37, laws_eqInt64SS.con)], frz := [], rows := [], live := [], n := 11, pin := 0, nils := [] }
noncomputable def laws_eqGroup.fn : D.Fn := { body := Try.f18.body.getD .skip, res := Try.f18.results.toList, ins := [.agg [.v (.sl 25 (.sl 2 (.int .i64)))], .agg [.v (.sl 25 (.sl 2 (.int .i64)))]], outs := [.one (.v .bool)] }
def laws_eqGroup.enc (y : lsd (flats laws_eqGroup.fn.outs) × lsd (ios laws_eqGroup.fn.ins)) : Bool := y.1.1
noncomputable def laws_eqGroup.f (l0_0 : List (List Int)) (l1_0 : List (List Int)) : Option Bool := denF laws_eqGroup.E laws_eqGroup.fn laws_eqGroup.enc (l0_0, l1_0, ())
set_option maxRecDepth 100000 in
theorem laws_eqGroup.f_eq (l0_0 : List (List Int)) (l1_0 : List (List Int)) : laws_eqGroup.f l0_0 l1_0 = (laws_eqInt64SS.f l0_0 l1_0).bind fun t9 => if t9 = true then (some true) else (some false) := by kernel_rfl
noncomputable def laws_eqGroup.con : Con := ⟨laws_eqGroup.fn.ins, laws_eqGroup.fn.outs, Bool, fun x => laws_eqGroup.f x.1 x.2.1, fun r => ((r, ()), (()))⟩
theorem laws_eqGroup.valid : Valid Try.prog 18 laws_eqGroup.con := fn_valid (f := laws_eqGroup.fn) (E := laws_eqGroup.E) (enc := laws_eqGroup.enc) ⟨ttOk, (conCons laws_eqInt64SS.valid conNil)⟩ (Checked.mixed Try.checked) ⟨Try.func18, by kernel_rfl, by kernel_rfl, by kernel_rfl, by kernel_rfl, by decide, by kernel_rfl, by kernel_rfl⟩ (fun _ => rfl)
end Go.Proofs.Ytlkdhmijgpadaaa.P
set_option linter.unusedVariables false
namespace Go.Proofs.Ytlkdhmijgpadaaa.P
open Go Go.RowKit Go.Proofs.Ytlkdhmijgpadaaa.D
noncomputable def laws_eqCochain.E : Env := { tt := TT, con := [(17, laws_eqInt64S.con)], frz := [], rows := [], live := [], n := 16, pin := 0, nils := [] }
noncomputable def laws_eqCochain.fn : D.Fn := { body := Try.f20.body.getD .skip, res := Try.f20.results.toList, ins := [.agg [.v (.int .i64), .v (.sl 2 (.int .i64))], .agg [.v (.int .i64), .v (.sl 2 (.int .i64))]], outs := [.one (.v .bool)] }
def laws_eqCochain.enc (y : lsd (flats laws_eqCochain.fn.outs) × lsd (ios laws_eqCochain.fn.ins)) : Bool := y.1.1
noncomputable def laws_eqCochain.f (a0_0 : Int) (l0_1 : List Int) (a1_0 : Int) (l1_1 : List Int) : Option Bool := denF laws_eqCochain.E laws_eqCochain.fn laws_eqCochain.enc (a0_0, l0_1, a1_0, l1_1, ())
set_option maxRecDepth 100000 in
theorem laws_eqCochain.f_eq (a0_0 : Int) (l0_1 : List Int) (a1_0 : Int) (l1_1 : List Int) : laws_eqCochain.f a0_0 l0_1 a1_0 l1_1 = if a0_0 = a1_0 then ((laws_eqInt64S.f l0_1 l1_1).bind fun t14 => if t14 = true then (some true) else (some false)) else (some false) := by kernel_rfl
noncomputable def laws_eqCochain.con : Con := ⟨laws_eqCochain.fn.ins, laws_eqCochain.fn.outs, Bool, fun x => laws_eqCochain.f x.1 x.2.1 x.2.2.1 x.2.2.2.1, fun r => ((r, ()), (()))⟩
theorem laws_eqCochain.valid : Valid Try.prog 20 laws_eqCochain.con := fn_valid (f := laws_eqCochain.fn) (E := laws_eqCochain.E) (enc := laws_eqCochain.enc) ⟨ttOk, (conCons laws_eqInt64S.valid conNil)⟩ (Checked.mixed Try.checked) ⟨Try.func20, by kernel_rfl, by kernel_rfl, by kernel_rfl, by kernel_rfl, by decide, by kernel_rfl, by kernel_rfl⟩ (fun _ => rfl)
end Go.Proofs.Ytlkdhmijgpadaaa.P
set_option linter.unusedVariables false
namespace Go.Proofs.Ytlkdhmijgpadaaa.P
open Go Go.RowKit Go.Proofs.Ytlkdhmijgpadaaa.D
noncomputable def laws_markInt64S.E : Env := { tt := TT, con := [], frz := [], rows := [], live := [(2, [0, 1, 5])], n := 19, pin := 1, nils := [] }
noncomputable def laws_markInt64S.fn : D.Fn := { body := Try.f24.body.getD .skip, res := Try.f24.results.toList, ins := [.one (.own 2 true (.int .i64)), .one (.v (.int .i64))], outs := [.one (.v (.int .i64))] }
def laws_markInt64S.enc (y : lsd (flats laws_markInt64S.fn.outs) × lsd (ios laws_markInt64S.fn.ins)) : Int × (List Int) := (y.1.1, y.2.1)
noncomputable def laws_markInt64S.f (l0 : List Int) (a1 : Int) : Option (Int × (List Int)) := denF laws_markInt64S.E laws_markInt64S.fn laws_markInt64S.enc (l0, a1, ())
noncomputable def laws_markInt64S.l0 (x1 : Int) (x5 : Int) (r0 : List Int) : Option (Int × (List Int)) := denAt laws_markInt64S.E laws_markInt64S.fn laws_markInt64S.enc [1, 0, 1, 0] { fr := [(0, .lf (.own 0)), (1, .lf (.int .i64 x1)), (5, .lf (.int .i64 x5))], ob := [(0, .row 2 true (.int .i64) r0)], nx := 1 }
set_option maxRecDepth 100000 in
theorem laws_markInt64S.f_eq (l0 : List Int) (a1 : Int) : laws_markInt64S.f l0 a1 = laws_markInt64S.l0 a1 0 l0 := by kernel_rfl
set_option maxRecDepth 100000 in
theorem laws_markInt64S.l0_eq (x1 : Int) (x5 : Int) (r0 : List Int) : laws_markInt64S.l0 x1 x5 r0 = if x5 < (r0.length : Int) then (if 0 ≤ x5 then (if x5 < (r0.length : Int) then (if 0 ≤ x5 then (if x5 < (r0.length : Int) then (laws_markInt64S.l0 (wrapI (x1 + 1)) (wrapI (x5 + 1)) (r0.set (x5 : Int).toNat x1)) else none) else none) else none) else none) else (some (x1, r0)) := (loop_unfold _ _ _ _).trans (by kernel_rfl)
noncomputable def laws_markInt64S.con : Con := ⟨laws_markInt64S.fn.ins, laws_markInt64S.fn.outs, Int × (List Int), fun x => laws_markInt64S.f x.1 x.2.1, fun r => ((r.1, ()), (r.2, ()))⟩
theorem laws_markInt64S.valid : Valid Try.prog 24 laws_markInt64S.con := fn_valid (f := laws_markInt64S.fn) (E := laws_markInt64S.E) (enc := laws_markInt64S.enc) ⟨ttOk, conNil⟩ (Checked.mixed Try.checked) ⟨Try.func24, by kernel_rfl, by kernel_rfl, by kernel_rfl, by kernel_rfl, by decide, by kernel_rfl, by kernel_rfl⟩ (fun _ => rfl)
end Go.Proofs.Ytlkdhmijgpadaaa.P
set_option linter.unusedVariables false
namespace Go.Proofs.Ytlkdhmijgpadaaa.P
open Go Go.RowKit Go.Proofs.Ytlkdhmijgpadaaa.D
noncomputable def laws_markInt64SS.E : Env := { tt := TT, con := [(24, laws_markInt64S.con)], frz := [], rows := [], live := [(2, [0, 1, 5])], n := 19, pin := 1, nils := [] }
noncomputable def laws_markInt64SS.fn : D.Fn := { body := Try.f38.body.getD .skip, res := Try.f38.results.toList, ins := [.one (.own 25 true (.sl 2 (.int .i64))), .one (.v (.int .i64))], outs := [.one (.v (.int .i64))] }
def laws_markInt64SS.enc (y : lsd (flats laws_markInt64SS.fn.outs) × lsd (ios laws_markInt64SS.fn.ins)) : Int × (List (List Int)) := (y.1.1, y.2.1)
noncomputable def laws_markInt64SS.f (l0 : List (List Int)) (a1 : Int) : Option (Int × (List (List Int))) := denF laws_markInt64SS.E laws_markInt64SS.fn laws_markInt64SS.enc (l0, a1, ())
noncomputable def laws_markInt64SS.l0 (x1 : Int) (x5 : Int) (r0 : List (List Int)) : Option (Int × (List (List Int))) := denAt laws_markInt64SS.E laws_markInt64SS.fn laws_markInt64SS.enc [1, 0, 1, 0] { fr := [(0, .lf (.own 0)), (1, .lf (.int .i64 x1)), (5, .lf (.int .i64 x5))], ob := [(0, .row 25 true (.sl 2 (.int .i64)) r0)], nx := 1 }
set_option maxRecDepth 100000 in
theorem laws_markInt64SS.f_eq (l0 : List (List Int)) (a1 : Int) : laws_markInt64SS.f l0 a1 = laws_markInt64SS.l0 a1 0 l0 := by kernel_rfl
set_option maxRecDepth 100000 in
theorem laws_markInt64SS.l0_eq (x1 : Int) (x5 : Int) (r0 : List (List Int)) : laws_markInt64SS.l0 x1 x5 r0 = if x5 < (r0.length : Int) then (if 0 ≤ x5 then (if x5 < (r0.length : Int) then (if 0 ≤ x5 then (if x5 < (r0.length : Int) then ((laws_markInt64S.f (row r0 x5) x1).bind fun t17 => laws_markInt64SS.l0 t17.1 (wrapI (x5 + 1)) (r0.set (x5 : Int).toNat t17.2)) else none) else none) else none) else none) else (some (x1, r0)) := (loop_unfold _ _ _ _).trans (by kernel_rfl)
noncomputable def laws_markInt64SS.con : Con := ⟨laws_markInt64SS.fn.ins, laws_markInt64SS.fn.outs, Int × (List (List Int)), fun x => laws_markInt64SS.f x.1 x.2.1, fun r => ((r.1, ()), (r.2, ()))⟩
theorem laws_markInt64SS.valid : Valid Try.prog 38 laws_markInt64SS.con := fn_valid (f := laws_markInt64SS.fn) (E := laws_markInt64SS.E) (enc := laws_markInt64SS.enc) ⟨ttOk, (conCons laws_markInt64S.valid conNil)⟩ (Checked.mixed Try.checked) ⟨Try.func38, by kernel_rfl, by kernel_rfl, by kernel_rfl, by kernel_rfl, by decide, by kernel_rfl, by kernel_rfl⟩ (fun _ => rfl)
end Go.Proofs.Ytlkdhmijgpadaaa.P
set_option linter.unusedVariables false
namespace Go.Proofs.Ytlkdhmijgpadaaa.P
open Go Go.RowKit Go.Proofs.Ytlkdhmijgpadaaa.D
noncomputable def laws_markGroup.E : Env := { tt := TT, con := [(38, laws_markInt64SS.con)], frz := [], rows := [], live := [], n := 10, pin := 1, nils := [] }
noncomputable def laws_markGroup.fn : D.Fn := { body := Try.f21.body.getD .skip, res := Try.f21.results.toList, ins := [.agg [.own 25 true (.sl 2 (.int .i64))], .one (.v (.int .i64))], outs := [.one (.v (.int .i64))] }
def laws_markGroup.enc (y : lsd (flats laws_markGroup.fn.outs) × lsd (ios laws_markGroup.fn.ins)) : Int × (List (List Int)) := (y.1.1, y.2.1)
noncomputable def laws_markGroup.f (l0_0 : List (List Int)) (a1 : Int) : Option (Int × (List (List Int))) := denF laws_markGroup.E laws_markGroup.fn laws_markGroup.enc (l0_0, a1, ())
set_option maxRecDepth 100000 in
theorem laws_markGroup.f_eq (l0_0 : List (List Int)) (a1 : Int) : laws_markGroup.f l0_0 a1 = (laws_markInt64SS.f l0_0 a1).bind fun t8 => some (t8.1, t8.2) := by kernel_rfl
noncomputable def laws_markGroup.con : Con := ⟨laws_markGroup.fn.ins, laws_markGroup.fn.outs, Int × (List (List Int)), fun x => laws_markGroup.f x.1 x.2.1, fun r => ((r.1, ()), (r.2, ()))⟩
theorem laws_markGroup.valid : Valid Try.prog 21 laws_markGroup.con := fn_valid (f := laws_markGroup.fn) (E := laws_markGroup.E) (enc := laws_markGroup.enc) ⟨ttOk, (conCons laws_markInt64SS.valid conNil)⟩ (Checked.mixed Try.checked) ⟨Try.func21, by kernel_rfl, by kernel_rfl, by kernel_rfl, by kernel_rfl, by decide, by kernel_rfl, by kernel_rfl⟩ (fun _ => rfl)
end Go.Proofs.Ytlkdhmijgpadaaa.P
set_option linter.unusedVariables false
namespace Go.Proofs.Ytlkdhmijgpadaaa.P
open Go Go.RowKit Go.Proofs.Ytlkdhmijgpadaaa.D
noncomputable def laws_markCochain.E : Env := { tt := TT, con := [(24, laws_markInt64S.con)], frz := [], rows := [], live := [], n := 10, pin := 1, nils := [] }
noncomputable def laws_markCochain.fn : D.Fn := { body := Try.f23.body.getD .skip, res := Try.f23.results.toList, ins := [.agg [.v (.int .i64), .own 2 true (.int .i64)], .one (.v (.int .i64))], outs := [.one (.v (.int .i64))] }
def laws_markCochain.enc (y : lsd (flats laws_markCochain.fn.outs) × lsd (ios laws_markCochain.fn.ins)) : Int × (List Int) := (y.1.1, y.2.1)
noncomputable def laws_markCochain.f (a0_0 : Int) (l0_1 : List Int) (a1 : Int) : Option (Int × (List Int)) := denF laws_markCochain.E laws_markCochain.fn laws_markCochain.enc (a0_0, l0_1, a1, ())
set_option maxRecDepth 100000 in
theorem laws_markCochain.f_eq (a0_0 : Int) (l0_1 : List Int) (a1 : Int) : laws_markCochain.f a0_0 l0_1 a1 = (laws_markInt64S.f l0_1 a1).bind fun t8 => some (t8.1, t8.2) := by kernel_rfl
noncomputable def laws_markCochain.con : Con := ⟨laws_markCochain.fn.ins, laws_markCochain.fn.outs, Int × (List Int), fun x => laws_markCochain.f x.1 x.2.1 x.2.2.1, fun r => ((r.1, ()), (r.2, ()))⟩
theorem laws_markCochain.valid : Valid Try.prog 23 laws_markCochain.con := fn_valid (f := laws_markCochain.fn) (E := laws_markCochain.E) (enc := laws_markCochain.enc) ⟨ttOk, (conCons laws_markInt64S.valid conNil)⟩ (Checked.mixed Try.checked) ⟨Try.func23, by kernel_rfl, by kernel_rfl, by kernel_rfl, by kernel_rfl, by decide, by kernel_rfl, by kernel_rfl⟩ (fun _ => rfl)
end Go.Proofs.Ytlkdhmijgpadaaa.P
set_option linter.unusedVariables false
namespace Go.Proofs.Ytlkdhmijgpadaaa.P
open Go Go.RowKit Go.Proofs.Ytlkdhmijgpadaaa.D
noncomputable def spec_l01In.E : Env := { tt := TT, con := [], frz := [], rows := [], live := [], n := 15, pin := 0, nils := [] }
noncomputable def spec_l01In.fn : D.Fn := { body := Try.f92.body.getD .skip, res := Try.f92.results.toList, ins := [.one (.v (.int .i64)), .one (.v (.int .i64)), .one (.v (.int .i64))], outs := [.one (.v .bool)] }
def spec_l01In.enc (y : lsd (flats spec_l01In.fn.outs) × lsd (ios spec_l01In.fn.ins)) : Bool := y.1.1
noncomputable def spec_l01In.f (a0 : Int) (a1 : Int) (a2 : Int) : Option Bool := denF spec_l01In.E spec_l01In.fn spec_l01In.enc (a0, a1, a2, ())
set_option maxRecDepth 100000 in
theorem spec_l01In.f_eq (a0 : Int) (a1 : Int) (a2 : Int) : spec_l01In.f a0 a1 a2 = if a0 ≥ a1 then (some (decide (a0 ≤ a2))) else (some false) := by kernel_rfl
noncomputable def spec_l01In.con : Con := ⟨spec_l01In.fn.ins, spec_l01In.fn.outs, Bool, fun x => spec_l01In.f x.1 x.2.1 x.2.2.1, fun r => ((r, ()), (()))⟩
theorem spec_l01In.valid : Valid Try.prog 92 spec_l01In.con := fn_valid (f := spec_l01In.fn) (E := spec_l01In.E) (enc := spec_l01In.enc) ⟨ttOk, conNil⟩ (Checked.mixed Try.checked) ⟨Try.func92, by kernel_rfl, by kernel_rfl, by kernel_rfl, by kernel_rfl, by decide, by kernel_rfl, by kernel_rfl⟩ (fun _ => rfl)
end Go.Proofs.Ytlkdhmijgpadaaa.P
set_option linter.unusedVariables false
namespace Go.Proofs.Ytlkdhmijgpadaaa.P
open Go Go.RowKit Go.Proofs.Ytlkdhmijgpadaaa.D
noncomputable def spec_l01Is.E : Env := { tt := TT, con := [(92, spec_l01In.con)], frz := [], rows := [], live := [(5, [1, 3, 4]), (10, [1, 3, 4, 5]), (15, [1, 3, 6]), (21, [1, 3, 6, 7, 8]), (25, [1, 3, 6, 7, 8, 9])], n := 137, pin := 0, nils := [7] }
noncomputable def spec_l01Is.fn : D.Fn := { body := Try.f71.body.getD .skip, res := Try.f71.results.toList, ins := [.agg [.v (.sl 25 (.sl 2 (.int .i64)))]], outs := [.one (.v .bool)] }
def spec_l01Is.enc (y : lsd (flats spec_l01Is.fn.outs) × lsd (ios spec_l01Is.fn.ins)) : Bool := y.1.1
noncomputable def spec_l01Is.f (l0_0 : List (List Int)) : Option Bool := denF spec_l01Is.E spec_l01Is.fn spec_l01Is.enc (l0_0, ())
noncomputable def spec_l01Is.l0 (x3 : Int) (x4 : Int) (b0_0 : List (List Int)) : Option Bool := denAt spec_l01Is.E spec_l01Is.fn spec_l01Is.enc [1, 1, 1, 0, 1, 0] { fr := [(1, .lf (.box 0 0)), (3, .lf (.int .i64 x3)), (4, .lf (.int .i64 x4))], ob := [(0, .box 35 false [.sl (.sl 2 (.int .i64)) b0_0])], nx := 1 }
noncomputable def spec_l01Is.l1 (x3 : Int) (x4 : Int) (x5 : Int) (b0_0 : List (List Int)) : Option Bool := denAt spec_l01Is.E spec_l01Is.fn spec_l01Is.enc [1, 1, 1, 0, 1, 0, 0, 1, 0, 0, 1, 1, 0] { fr := [(1, .lf (.box 0 0)), (3, .lf (.int .i64 x3)), (4, .lf (.int .i64 x4)), (5, .lf (.int .i64 x5))], ob := [(0, .box 35 false [.sl (.sl 2 (.int .i64)) b0_0])], nx := 1 }
noncomputable def spec_l01Is.l2 (x3 : Int) (x6 : Int) (b0_0 : List (List Int)) : Option Bool := denAt spec_l01Is.E spec_l01Is.fn spec_l01Is.enc [1, 1, 1, 1, 0, 1, 0] { fr := [(1, .lf (.box 0 0)), (3, .lf (.int .i64 x3)), (6, .lf (.int .i64 x6))], ob := [(0, .box 35 false [.sl (.sl 2 (.int .i64)) b0_0])], nx := 1 }
noncomputable def spec_l01Is.l3 (x3 : Int) (x6 : Int) (x7 : Bool) (x8 : Int) (b0_0 : List (List Int)) : Option Bool := denAt spec_l01Is.E spec_l01Is.fn spec_l01Is.enc [1, 1, 1, 1, 0, 1, 0, 0, 1, 0, 0, 1, 1, 0, 1, 0] { fr := [(1, .lf (.box 0 0)), (3, .lf (.int .i64 x3)), (6, .lf (.int .i64 x6)), (7, .lf (boolLf x7)), (8, .lf (.int .i64 x8))], ob := [(0, .box 35 false [.sl (.sl 2 (.int .i64)) b0_0])], nx := 1 }
noncomputable def spec_l01Is.l4 (x3 : Int) (x6 : Int) (x7 : Bool) (x8 : Int) (x9 : Int) (b0_0 : List (List Int)) : Option Bool := denAt spec_l01Is.E spec_l01Is.fn spec_l01Is.enc [1, 1, 1, 1, 0, 1, 0, 0, 1, 0, 0, 1, 1, 0, 1, 0, 0, 1, 0, 0, 1, 1, 0] { fr := [(1, .lf (.box 0 0)), (3, .lf (.int .i64 x3)), (6, .lf (.int .i64 x6)), (7, .lf (boolLf x7)), (8, .lf (.int .i64 x8)), (9, .lf (.int .i64 x9))], ob := [(0, .box 35 false [.sl (.sl 2 (.int .i64)) b0_0])], nx := 1 }
set_option maxRecDepth 100000 in
theorem spec_l01Is.f_eq (l0_0 : List (List Int)) : spec_l01Is.f l0_0 = (spec_l01In.f (l0_0.length : Int) 1 8).bind fun t14 => if t14 = true then (spec_l01Is.l0 (l0_0.length : Int) 0 l0_0) else (some false) := by kernel_rfl
set_option maxRecDepth 100000 in
theorem spec_l01Is.l0_eq (x3 : Int) (x4 : Int) (b0_0 : List (List Int)) : spec_l01Is.l0 x3 x4 b0_0 = if x4 < x3 then (if 0 ≤ x4 then (if x4 < (b0_0.length : Int) then (if ((row b0_0 x4).length : Int) = x3 then (spec_l01Is.l1 x3 x4 0 b0_0) else (some false)) else none) else none) else (spec_l01Is.l2 x3 0 b0_0) := (loop_unfold _ _ _ _).trans (by kernel_rfl)
set_option maxRecDepth 100000 in
theorem spec_l01Is.l1_eq (x3 : Int) (x4 : Int) (x5 : Int) (b0_0 : List (List Int)) : spec_l01Is.l1 x3 x4 x5 b0_0 = if x5 < x3 then (if 0 ≤ x4 then (if x4 < (b0_0.length : Int) then (if 0 ≤ x5 then (if x5 < ((row b0_0 x4).length : Int) then ((spec_l01In.f (T b0_0 x4 x5) 0 (wrapI (x3 - 1))).bind fun t44 => if t44 = true then (spec_l01Is.l1 x3 x4 (wrapI (x5 + 1)) b0_0) else (some false)) else none) else none) else none) else none) else (spec_l01Is.l0 x3 (wrapI (x4 + 1)) b0_0) := (loop_unfold _ _ _ _).trans (by kernel_rfl)
set_option maxRecDepth 100000 in
theorem spec_l01Is.l2_eq (x3 : Int) (x6 : Int) (b0_0 : List (List Int)) : spec_l01Is.l2 x3 x6 b0_0 = if x6 < x3 then (if 0 < (b0_0.length : Int) then (if 0 ≤ x6 then (if x6 < ((row b0_0 0).length : Int) then (if (T b0_0 0 x6) = x6 then (if 0 ≤ x6 then (if x6 < (b0_0.length : Int) then (if 0 < ((row b0_0 x6).length : Int) then (if (T b0_0 x6 0) = x6 then (spec_l01Is.l3 x3 x6 false 0 b0_0) else (some false)) else none) else none) else none) else (some false)) else none) else none) else none) else (some true) := (loop_unfold _ _ _ _).trans (by kernel_rfl)
set_option maxRecDepth 100000 in
theorem spec_l01Is.l3_eq (x3 : Int) (x6 : Int) (x7 : Bool) (x8 : Int) (b0_0 : List (List Int)) : spec_l01Is.l3 x3 x6 x7 x8 b0_0 = if x8 < x3 then (if x7 = true then (spec_l01Is.l4 x3 x6 true x8 0 b0_0) else (if 0 ≤ x6 then (if x6 < (b0_0.length : Int) then (if 0 ≤ x8 then (if x8 < ((row b0_0 x6).length : Int) then (if (T b0_0 x6 x8) = 0 then (if 0 ≤ x8 then (if x8 < (b0_0.length : Int) then (if 0 ≤ x6 then (if x6 < ((row b0_0 x8).length : Int) then (spec_l01Is.l4 x3 x6 (decide ((T b0_0 x8 x6) = 0)) x8 0 b0_0) else none) else none) else none) else none) else (spec_l01Is.l4 x3 x6 false x8 0 b0_0)) else none) else none) else none) else none)) else (if x7 = true then (spec_l01Is.l2 x3 (wrapI (x6 + 1)) b0_0) else (some false)) := (loop_unfold _ _ _ _).trans (by kernel_rfl)
set_option maxRecDepth 100000 in
theorem spec_l01Is.l4_eq (x3 : Int) (x6 : Int) (x7 : Bool) (x8 : Int) (x9 : Int) (b0_0 : List (List Int)) : spec_l01Is.l4 x3 x6 x7 x8 x9 b0_0 = if x9 < x3 then (if 0 ≤ x6 then (if x6 < (b0_0.length : Int) then (if 0 ≤ x8 then (if x8 < ((row b0_0 x6).length : Int) then (if 0 ≤ T b0_0 x6 x8 then (if T b0_0 x6 x8 < (b0_0.length : Int) then (if 0 ≤ x9 then (if x9 < ((row b0_0 (T b0_0 x6 x8)).length : Int) then (if 0 ≤ x6 then (if x6 < (b0_0.length : Int) then (if 0 ≤ x8 then (if x8 < (b0_0.length : Int) then (if 0 ≤ x9 then (if x9 < ((row b0_0 x8).length : Int) then (if 0 ≤ T b0_0 x8 x9 then (if T b0_0 x8 x9 < ((row b0_0 x6).length : Int) then (if (T b0_0 (T b0_0 x6 x8) x9) = (T b0_0 x6 (T b0_0 x8 x9)) then (spec_l01Is.l4 x3 x6 x7 x8 (wrapI (x9 + 1)) b0_0) else (some false)) else none) else none) else none) else none) else none) else none) else none) else none) else none) else none) else none) else none) else none) else none) else none) else none) else (spec_l01Is.l3 x3 x6 x7 (wrapI (x8 + 1)) b0_0) := (loop_unfold _ _ _ _).trans (by kernel_rfl)
noncomputable def spec_l01Is.con : Con := ⟨spec_l01Is.fn.ins, spec_l01Is.fn.outs, Bool, fun x => spec_l01Is.f x.1, fun r => ((r, ()), (()))⟩
theorem spec_l01Is.valid : Valid Try.prog 71 spec_l01Is.con := fn_valid (f := spec_l01Is.fn) (E := spec_l01Is.E) (enc := spec_l01Is.enc) ⟨ttOk, (conCons spec_l01In.valid conNil)⟩ (Checked.mixed Try.checked) ⟨Try.func71, by kernel_rfl, by kernel_rfl, by kernel_rfl, by kernel_rfl, by decide, by kernel_rfl, by kernel_rfl⟩ (fun _ => rfl)
end Go.Proofs.Ytlkdhmijgpadaaa.P
set_option linter.unusedVariables false
namespace Go.Proofs.Ytlkdhmijgpadaaa.P
open Go Go.RowKit Go.Proofs.Ytlkdhmijgpadaaa.D
noncomputable def spec_l01N.E : Env := { tt := TT, con := [], frz := [], rows := [], live := [], n := 6, pin := 0, nils := [] }
noncomputable def spec_l01N.fn : D.Fn := { body := Try.f84.body.getD .skip, res := Try.f84.results.toList, ins := [.agg [.v (.sl 25 (.sl 2 (.int .i64)))]], outs := [.one (.v (.int .i64))] }
def spec_l01N.enc (y : lsd (flats spec_l01N.fn.outs) × lsd (ios spec_l01N.fn.ins)) : Int := y.1.1
noncomputable def spec_l01N.f (l0_0 : List (List Int)) : Option Int := denF spec_l01N.E spec_l01N.fn spec_l01N.enc (l0_0, ())
set_option maxRecDepth 100000 in
theorem spec_l01N.f_eq (l0_0 : List (List Int)) : spec_l01N.f l0_0 = some (l0_0.length : Int) := by kernel_rfl
noncomputable def spec_l01N.con : Con := ⟨spec_l01N.fn.ins, spec_l01N.fn.outs, Int, fun x => spec_l01N.f x.1, fun r => ((r, ()), (()))⟩
theorem spec_l01N.valid : Valid Try.prog 84 spec_l01N.con := fn_valid (f := spec_l01N.fn) (E := spec_l01N.E) (enc := spec_l01N.enc) ⟨ttOk, conNil⟩ (Checked.mixed Try.checked) ⟨Try.func84, by kernel_rfl, by kernel_rfl, by kernel_rfl, by kernel_rfl, by decide, by kernel_rfl, by kernel_rfl⟩ (fun _ => rfl)
end Go.Proofs.Ytlkdhmijgpadaaa.P
set_option linter.unusedVariables false
namespace Go.Proofs.Ytlkdhmijgpadaaa.P
open Go Go.RowKit Go.Proofs.Ytlkdhmijgpadaaa.D
noncomputable def spec_l01Inverse.E : Env := { tt := TT, con := [(84, spec_l01N.con)], frz := [], rows := [], live := [(2, [1, 2, 5])], n := 22, pin := 0, nils := [] }
noncomputable def spec_l01Inverse.fn : D.Fn := { body := Try.f113.body.getD .skip, res := Try.f113.results.toList, ins := [.agg [.v (.sl 25 (.sl 2 (.int .i64)))], .one (.v (.int .i64))], outs := [.one (.v (.int .i64))] }
def spec_l01Inverse.enc (y : lsd (flats spec_l01Inverse.fn.outs) × lsd (ios spec_l01Inverse.fn.ins)) : Int := y.1.1
noncomputable def spec_l01Inverse.f (l0_0 : List (List Int)) (a1 : Int) : Option Int := denF spec_l01Inverse.E spec_l01Inverse.fn spec_l01Inverse.enc (l0_0, a1, ())
noncomputable def spec_l01Inverse.l0 (x1 : Int) (x5 : Int) (b0_0 : List (List Int)) : Option Int := denAt spec_l01Inverse.E spec_l01Inverse.fn spec_l01Inverse.enc [1, 0, 1, 0] { fr := [(1, .lf (.int .i64 x1)), (2, .lf (.box 0 0)), (5, .lf (.int .i64 x5))], ob := [(0, .box 35 false [.sl (.sl 2 (.int .i64)) b0_0])], nx := 1 }
set_option maxRecDepth 100000 in
theorem spec_l01Inverse.f_eq (l0_0 : List (List Int)) (a1 : Int) : spec_l01Inverse.f l0_0 a1 = spec_l01Inverse.l0 a1 0 l0_0 := by kernel_rfl
set_option maxRecDepth 100000 in
theorem spec_l01Inverse.l0_eq (x1 : Int) (x5 : Int) (b0_0 : List (List Int)) : spec_l01Inverse.l0 x1 x5 b0_0 = (spec_l01N.f b0_0).bind fun t8 => if x5 < t8 then (if 0 ≤ x1 then (if x1 < (b0_0.length : Int) then (if 0 ≤ x5 then (if x5 < ((row b0_0 x1).length : Int) then (if (T b0_0 x1 x5) = 0 then (some x5) else (spec_l01Inverse.l0 x1 (wrapI (x5 + 1)) b0_0)) else none) else none) else none) else none) else (some 0) := (loop_unfold _ _ _ _).trans (by kernel_rfl)
noncomputable def spec_l01Inverse.con : Con := ⟨spec_l01Inverse.fn.ins, spec_l01Inverse.fn.outs, Int, fun x => spec_l01Inverse.f x.1 x.2.1, fun r => ((r, ()), (()))⟩
theorem spec_l01Inverse.valid : Valid Try.prog 113 spec_l01Inverse.con := fn_valid (f := spec_l01Inverse.fn) (E := spec_l01Inverse.E) (enc := spec_l01Inverse.enc) ⟨ttOk, (conCons spec_l01N.valid conNil)⟩ (Checked.mixed Try.checked) ⟨Try.func113, by kernel_rfl, by kernel_rfl, by kernel_rfl, by kernel_rfl, by decide, by kernel_rfl, by kernel_rfl⟩ (fun _ => rfl)
end Go.Proofs.Ytlkdhmijgpadaaa.P
set_option linter.unusedVariables false
namespace Go.Proofs.Ytlkdhmijgpadaaa.P
open Go Go.RowKit Go.Proofs.Ytlkdhmijgpadaaa.D
noncomputable def spec_l01Conjugate.E : Env := { tt := TT, con := [(113, spec_l01Inverse.con)], frz := [], rows := [], live := [], n := 24, pin := 0, nils := [] }
noncomputable def spec_l01Conjugate.fn : D.Fn := { body := Try.f112.body.getD .skip, res := Try.f112.results.toList, ins := [.agg [.v (.sl 25 (.sl 2 (.int .i64)))], .one (.v (.int .i64)), .one (.v (.int .i64))], outs := [.one (.v (.int .i64))] }
def spec_l01Conjugate.enc (y : lsd (flats spec_l01Conjugate.fn.outs) × lsd (ios spec_l01Conjugate.fn.ins)) : Int := y.1.1
noncomputable def spec_l01Conjugate.f (l0_0 : List (List Int)) (a1 : Int) (a2 : Int) : Option Int := denF spec_l01Conjugate.E spec_l01Conjugate.fn spec_l01Conjugate.enc (l0_0, a1, a2, ())
set_option maxRecDepth 100000 in
theorem spec_l01Conjugate.f_eq (l0_0 : List (List Int)) (a1 : Int) (a2 : Int) : spec_l01Conjugate.f l0_0 a1 a2 = if 0 ≤ a2 then (if a2 < (l0_0.length : Int) then (if 0 ≤ a1 then (if a1 < ((row l0_0 a2).length : Int) then (if 0 ≤ T l0_0 a2 a1 then (if T l0_0 a2 a1 < (l0_0.length : Int) then ((spec_l01Inverse.f l0_0 a2).bind fun t21 => if 0 ≤ t21 then (if t21 < ((row l0_0 (T l0_0 a2 a1)).length : Int) then (some (T l0_0 (T l0_0 a2 a1) t21)) else none) else none) else none) else none) else none) else none) else none) else none := by kernel_rfl
noncomputable def spec_l01Conjugate.con : Con := ⟨spec_l01Conjugate.fn.ins, spec_l01Conjugate.fn.outs, Int, fun x => spec_l01Conjugate.f x.1 x.2.1 x.2.2.1, fun r => ((r, ()), (()))⟩
theorem spec_l01Conjugate.valid : Valid Try.prog 112 spec_l01Conjugate.con := fn_valid (f := spec_l01Conjugate.fn) (E := spec_l01Conjugate.E) (enc := spec_l01Conjugate.enc) ⟨ttOk, (conCons spec_l01Inverse.valid conNil)⟩ (Checked.mixed Try.checked) ⟨Try.func112, by kernel_rfl, by kernel_rfl, by kernel_rfl, by kernel_rfl, by decide, by kernel_rfl, by kernel_rfl⟩ (fun _ => rfl)
end Go.Proofs.Ytlkdhmijgpadaaa.P
set_option linter.unusedVariables false
namespace Go.Proofs.Ytlkdhmijgpadaaa.P
open Go Go.RowKit Go.Proofs.Ytlkdhmijgpadaaa.D
noncomputable def spec_l01Bits.E : Env := { tt := TT, con := [], frz := [], rows := [], live := [(3, [0, 3, 4])], n := 20, pin := 0, nils := [] }
noncomputable def spec_l01Bits.fn : D.Fn := { body := Try.f150.body.getD .skip, res := Try.f150.results.toList, ins := [.one (.v (.sl 2 (.int .i64)))], outs := [.one (.v (.int .i64))] }
def spec_l01Bits.enc (y : lsd (flats spec_l01Bits.fn.outs) × lsd (ios spec_l01Bits.fn.ins)) : Int := y.1.1
noncomputable def spec_l01Bits.f (l0 : List Int) : Option Int := denF spec_l01Bits.E spec_l01Bits.fn spec_l01Bits.enc (l0, ())
noncomputable def spec_l01Bits.l0 (x0 : List Int) (x3 : Int) (x4 : Int) : Option Int := denAt spec_l01Bits.E spec_l01Bits.fn spec_l01Bits.enc [1, 1, 0, 1, 0] { fr := [(0, .lf (.sl (.int .i64) x0)), (3, .lf (.int .i64 x3)), (4, .lf (.int .i64 x4))], ob := [], nx := 0 }
set_option maxRecDepth 100000 in
theorem spec_l01Bits.f_eq (l0 : List Int) : spec_l01Bits.f l0 = spec_l01Bits.l0 l0 0 0 := by kernel_rfl
set_option maxRecDepth 100000 in
theorem spec_l01Bits.l0_eq (x0 : List Int) (x3 : Int) (x4 : Int) : spec_l01Bits.l0 x0 x3 x4 = if x4 < (x0.length : Int) then (if 0 ≤ x4 then (if x4 < (x0.length : Int) then (if (wr .u64 (rd x0 x4)) < 0 then none else (spec_l01Bits.l0 x0 (orI .i64 x3 (shlI .i64 1 (wr .u64 (rd x0 x4)))) (wrapI (x4 + 1)))) else none) else none) else (some x3) := (loop_unfold _ _ _ _).trans (by kernel_rfl)
noncomputable def spec_l01Bits.con : Con := ⟨spec_l01Bits.fn.ins, spec_l01Bits.fn.outs, Int, fun x => spec_l01Bits.f x.1, fun r => ((r, ()), (()))⟩
theorem spec_l01Bits.valid : Valid Try.prog 150 spec_l01Bits.con := fn_valid (f := spec_l01Bits.fn) (E := spec_l01Bits.E) (enc := spec_l01Bits.enc) ⟨ttOk, conNil⟩ (Checked.mixed Try.checked) ⟨Try.func150, by kernel_rfl, by kernel_rfl, by kernel_rfl, by kernel_rfl, by decide, by kernel_rfl, by kernel_rfl⟩ (fun _ => rfl)
end Go.Proofs.Ytlkdhmijgpadaaa.P
set_option linter.unusedVariables false
namespace Go.Proofs.Ytlkdhmijgpadaaa.P
open Go Go.RowKit Go.Proofs.Ytlkdhmijgpadaaa.D
noncomputable def spec_l01Normal.E : Env := { tt := TT, con := [(150, spec_l01Bits.con), (84, spec_l01N.con), (112, spec_l01Conjugate.con)], frz := [], rows := [], live := [(3, [1, 2, 5, 6]), (6, [1, 2, 5, 6, 7])], n := 34, pin := 0, nils := [] }
noncomputable def spec_l01Normal.fn : D.Fn := { body := Try.f106.body.getD .skip, res := Try.f106.results.toList, ins := [.agg [.v (.sl 25 (.sl 2 (.int .i64)))], .one (.v (.sl 2 (.int .i64)))], outs := [.one (.v .bool)] }
def spec_l01Normal.enc (y : lsd (flats spec_l01Normal.fn.outs) × lsd (ios spec_l01Normal.fn.ins)) : Bool := y.1.1
noncomputable def spec_l01Normal.f (l0_0 : List (List Int)) (l1 : List Int) : Option Bool := denF spec_l01Normal.E spec_l01Normal.fn spec_l01Normal.enc (l0_0, l1, ())
noncomputable def spec_l01Normal.l0 (x1 : List Int) (x5 : Int) (x6 : Int) (b0_0 : List (List Int)) : Option Bool := denAt spec_l01Normal.E spec_l01Normal.fn spec_l01Normal.enc [1, 1, 0, 1, 0] { fr := [(1, .lf (.sl (.int .i64) x1)), (2, .lf (.box 0 0)), (5, .lf (.int .i64 x5)), (6, .lf (.int .i64 x6))], ob := [(0, .box 35 false [.sl (.sl 2 (.int .i64)) b0_0])], nx := 1 }
noncomputable def spec_l01Normal.l1 (x1 : List Int) (x5 : Int) (x6 : Int) (x7 : Int) (b0_0 : List (List Int)) : Option Bool := denAt spec_l01Normal.E spec_l01Normal.fn spec_l01Normal.enc [1, 1, 0, 1, 0, 0, 1, 0, 0, 1, 0] { fr := [(1, .lf (.sl (.int .i64) x1)), (2, .lf (.box 0 0)), (5, .lf (.int .i64 x5)), (6, .lf (.int .i64 x6)), (7, .lf (.int .i64 x7))], ob := [(0, .box 35 false [.sl (.sl 2 (.int .i64)) b0_0])], nx := 1 }
set_option maxRecDepth 100000 in
theorem spec_l01Normal.f_eq (l0_0 : List (List Int)) (l1 : List Int) : spec_l01Normal.f l0_0 l1 = (spec_l01Bits.f l1).bind fun t9 => spec_l01Normal.l0 l1 t9 0 l0_0 := by kernel_rfl
set_option maxRecDepth 100000 in
theorem spec_l01Normal.l0_eq (x1 : List Int) (x5 : Int) (x6 : Int) (b0_0 : List (List Int)) : spec_l01Normal.l0 x1 x5 x6 b0_0 = (spec_l01N.f b0_0).bind fun t12 => if x6 < t12 then (spec_l01Normal.l1 x1 x5 x6 0 b0_0) else (some true) := (loop_unfold _ _ _ _).trans (by kernel_rfl)
set_option maxRecDepth 100000 in
theorem spec_l01Normal.l1_eq (x1 : List Int) (x5 : Int) (x6 : Int) (x7 : Int) (b0_0 : List (List Int)) : spec_l01Normal.l1 x1 x5 x6 x7 b0_0 = if x7 < (x1.length : Int) then (if 0 ≤ x7 then (if x7 < (x1.length : Int) then ((spec_l01Conjugate.f b0_0 (rd x1 x7) x6).bind fun t29 => if (wr .u64 t29) < 0 then none else (if (andI .i64 (shrI .i64 x5 (wr .u64 t29)) 1) = 0 then (some false) else (spec_l01Normal.l1 x1 x5 x6 (wrapI (x7 + 1)) b0_0))) else none) else none) else (spec_l01Normal.l0 x1 x5 (wrapI (x6 + 1)) b0_0) := (loop_unfold _ _ _ _).trans (by kernel_rfl)
noncomputable def spec_l01Normal.con : Con := ⟨spec_l01Normal.fn.ins, spec_l01Normal.fn.outs, Bool, fun x => spec_l01Normal.f x.1 x.2.1, fun r => ((r, ()), (()))⟩
theorem spec_l01Normal.valid : Valid Try.prog 106 spec_l01Normal.con := fn_valid (f := spec_l01Normal.fn) (E := spec_l01Normal.E) (enc := spec_l01Normal.enc) ⟨ttOk, (conCons spec_l01Bits.valid (conCons spec_l01N.valid (conCons spec_l01Conjugate.valid conNil)))⟩ (Checked.mixed Try.checked) ⟨Try.func106, by kernel_rfl, by kernel_rfl, by kernel_rfl, by kernel_rfl, by decide, by kernel_rfl, by kernel_rfl⟩ (fun _ => rfl)
end Go.Proofs.Ytlkdhmijgpadaaa.P
set_option linter.unusedVariables false
namespace Go.Proofs.Ytlkdhmijgpadaaa.P
open Go Go.RowKit Go.Proofs.Ytlkdhmijgpadaaa.D
noncomputable def spec_l01List.E : Env := { tt := TT, con := [], frz := [], rows := [], live := [(3, [0, 3, 4])], n := 21, pin := 0, nils := [] }
noncomputable def spec_l01List.fn : D.Fn := { body := Try.f151.body.getD .skip, res := Try.f151.results.toList, ins := [.one (.v (.int .i64))], outs := [.one (.own 2 true (.int .i64))] }
def spec_l01List.enc (y : lsd (flats spec_l01List.fn.outs) × lsd (ios spec_l01List.fn.ins)) : (List Int) := y.1.1
noncomputable def spec_l01List.f (a0 : Int) : Option (List Int) := denF spec_l01List.E spec_l01List.fn spec_l01List.enc (a0, ())
noncomputable def spec_l01List.l0 (x0 : Int) (x4 : Int) (r0 : List Int) : Option (List Int) := denAt spec_l01List.E spec_l01List.fn spec_l01List.enc [1, 1, 0, 1, 0] { fr := [(0, .lf (.int .i64 x0)), (3, .lf (.own 0)), (4, .lf (.int .i64 x4))], ob := [(0, .row 2 true (.int .i64) r0)], nx := 1 }
set_option maxRecDepth 100000 in
theorem spec_l01List.f_eq (a0 : Int) : spec_l01List.f a0 = spec_l01List.l0 a0 0 ([] : List Int) := by kernel_rfl
set_option maxRecDepth 100000 in
theorem spec_l01List.l0_eq (x0 : Int) (x4 : Int) (r0 : List Int) : spec_l01List.l0 x0 x4 r0 = if x4 < 8 then (if (wr .u64 x4) < 0 then none else (if (andI .i64 (shrI .i64 x0 (wr .u64 x4)) 1) = 1 then (if r0.length + ([x4] : List Int).length ≤ 17592186044416 then (spec_l01List.l0 x0 (wrapI (x4 + 1)) (r0 ++ ([x4] : List Int))) else none) else (spec_l01List.l0 x0 (wrapI (x4 + 1)) r0))) else (some r0) := (loop_unfold _ _ _ _).trans (by kernel_rfl)
noncomputable def spec_l01List.con : Con := ⟨spec_l01List.fn.ins, spec_l01List.fn.outs, (List Int), fun x => spec_l01List.f x.1, fun r => ((r, ()), (()))⟩
theorem spec_l01List.valid : Valid Try.prog 151 spec_l01List.con := fn_valid (f := spec_l01List.fn) (E := spec_l01List.E) (enc := spec_l01List.enc) ⟨ttOk, conNil⟩ (Checked.mixed Try.checked) ⟨Try.func151, by kernel_rfl, by kernel_rfl, by kernel_rfl, by kernel_rfl, by decide, by kernel_rfl, by kernel_rfl⟩ (fun _ => rfl)
end Go.Proofs.Ytlkdhmijgpadaaa.P
set_option linter.unusedVariables false
namespace Go.Proofs.Ytlkdhmijgpadaaa.P
open Go Go.RowKit Go.Proofs.Ytlkdhmijgpadaaa.D
noncomputable def spec_l01Closed.E : Env := { tt := TT, con := [(151, spec_l01List.con)], frz := [], rows := [], live := [(3, [1, 2, 5]), (7, [1, 2, 5, 6, 7]), (10, [1, 2, 5, 6, 7, 8])], n := 51, pin := 0, nils := [5] }
noncomputable def spec_l01Closed.fn : D.Fn := { body := Try.f152.body.getD .skip, res := Try.f152.results.toList, ins := [.agg [.v (.sl 25 (.sl 2 (.int .i64)))], .one (.v (.int .i64))], outs := [.one (.v (.int .i64))] }
def spec_l01Closed.enc (y : lsd (flats spec_l01Closed.fn.outs) × lsd (ios spec_l01Closed.fn.ins)) : Int := y.1.1
noncomputable def spec_l01Closed.f (l0_0 : List (List Int)) (a1 : Int) : Option Int := denF spec_l01Closed.E spec_l01Closed.fn spec_l01Closed.enc (l0_0, a1, ())
noncomputable def spec_l01Closed.l0 (x1 : Int) (x5 : Bool) (b0_0 : List (List Int)) : Option Int := denAt spec_l01Closed.E spec_l01Closed.fn spec_l01Closed.enc [1, 1, 0, 1, 0] { fr := [(1, .lf (.int .i64 x1)), (2, .lf (.box 0 0)), (5, .lf (boolLf x5))], ob := [(0, .box 35 false [.sl (.sl 2 (.int .i64)) b0_0])], nx := 1 }
noncomputable def spec_l01Closed.l1 (x1 : Int) (x5 : Bool) (x7 : Int) (b0_0 : List (List Int)) (r1 : List Int) : Option Int := denAt spec_l01Closed.E spec_l01Closed.fn spec_l01Closed.enc [1, 1, 0, 1, 0, 0, 1, 0, 1, 1, 1, 0] { fr := [(1, .lf (.int .i64 x1)), (2, .lf (.box 0 0)), (5, .lf (boolLf x5)), (6, .lf (.own 1)), (7, .lf (.int .i64 x7))], ob := [(0, .box 35 false [.sl (.sl 2 (.int .i64)) b0_0]), (1, .row 2 true (.int .i64) r1)], nx := 2 }
noncomputable def spec_l01Closed.l2 (x1 : Int) (x5 : Bool) (x7 : Int) (x8 : Int) (b0_0 : List (List Int)) (r1 : List Int) : Option Int := denAt spec_l01Closed.E spec_l01Closed.fn spec_l01Closed.enc [1, 1, 0, 1, 0, 0, 1, 0, 1, 1, 1, 0, 0, 1, 0, 0, 1, 0] { fr := [(1, .lf (.int .i64 x1)), (2, .lf (.box 0 0)), (5, .lf (boolLf x5)), (6, .lf (.own 1)), (7, .lf (.int .i64 x7)), (8, .lf (.int .i64 x8))], ob := [(0, .box 35 false [.sl (.sl 2 (.int .i64)) b0_0]), (1, .row 2 true (.int .i64) r1)], nx := 2 }
set_option maxRecDepth 100000 in
theorem spec_l01Closed.f_eq (l0_0 : List (List Int)) (a1 : Int) : spec_l01Closed.f l0_0 a1 = spec_l01Closed.l0 (orI .i64 a1 1) true l0_0 := by kernel_rfl
set_option maxRecDepth 100000 in
theorem spec_l01Closed.l0_eq (x1 : Int) (x5 : Bool) (b0_0 : List (List Int)) : spec_l01Closed.l0 x1 x5 b0_0 = if x5 = true then ((spec_l01List.f x1).bind fun t14 => spec_l01Closed.l1 x1 false 0 b0_0 t14) else (some x1) := (loop_unfold _ _ _ _).trans (by kernel_rfl)
set_option maxRecDepth 100000 in
theorem spec_l01Closed.l1_eq (x1 : Int) (x5 : Bool) (x7 : Int) (b0_0 : List (List Int)) (r1 : List Int) : spec_l01Closed.l1 x1 x5 x7 b0_0 r1 = if x7 < (r1.length : Int) then (spec_l01Closed.l2 x1 x5 x7 0 b0_0 r1) else (spec_l01Closed.l0 x1 x5 b0_0) := (loop_unfold _ _ _ _).trans (by kernel_rfl)
set_option maxRecDepth 100000 in
theorem spec_l01Closed.l2_eq (x1 : Int) (x5 : Bool) (x7 : Int) (x8 : Int) (b0_0 : List (List Int)) (r1 : List Int) : spec_l01Closed.l2 x1 x5 x7 x8 b0_0 r1 = if x8 < (r1.length : Int) then (if 0 ≤ x7 then (if x7 < (r1.length : Int) then (if 0 ≤ x7 then (if x7 < (r1.length : Int) then (if 0 ≤ rd r1 x7 then (if rd r1 x7 < (b0_0.length : Int) then (if 0 ≤ x8 then (if x8 < (r1.length : Int) then (if 0 ≤ x8 then (if x8 < (r1.length : Int) then (if 0 ≤ rd r1 x8 then (if rd r1 x8 < ((row b0_0 (rd r1 x7)).length : Int) then (if (wr .u64 (T b0_0 (rd r1 x7) (rd r1 x8))) < 0 then none else (if (andI .i64 x1 (shlI .i64 1 (wr .u64 (T b0_0 (rd r1 x7) (rd r1 x8))))) = 0 then (spec_l01Closed.l2 (orI .i64 x1 (shlI .i64 1 (wr .u64 (T b0_0 (rd r1 x7) (rd r1 x8))))) true x7 (wrapI (x8 + 1)) b0_0 r1) else (spec_l01Closed.l2 x1 x5 x7 (wrapI (x8 + 1)) b0_0 r1))) else none) else none) else none) else none) else none) else none) else none) else none) else none) else none) else none) else none) else (spec_l01Closed.l1 x1 x5 (wrapI (x7 + 1)) b0_0 r1) := (loop_unfold _ _ _ _).trans (by kernel_rfl)
noncomputable def spec_l01Closed.con : Con := ⟨spec_l01Closed.fn.ins, spec_l01Closed.fn.outs, Int, fun x => spec_l01Closed.f x.1 x.2.1, fun r => ((r, ()), (()))⟩
theorem spec_l01Closed.valid : Valid Try.prog 152 spec_l01Closed.con := fn_valid (f := spec_l01Closed.fn) (E := spec_l01Closed.E) (enc := spec_l01Closed.enc) ⟨ttOk, (conCons spec_l01List.valid conNil)⟩ (Checked.mixed Try.checked) ⟨Try.func152, by kernel_rfl, by kernel_rfl, by kernel_rfl, by kernel_rfl, by decide, by kernel_rfl, by kernel_rfl⟩ (fun _ => rfl)
end Go.Proofs.Ytlkdhmijgpadaaa.P
set_option linter.unusedVariables false
namespace Go.Proofs.Ytlkdhmijgpadaaa.P
open Go Go.RowKit Go.Proofs.Ytlkdhmijgpadaaa.D
noncomputable def spec_l06Made.E : Env := { tt := TT, con := [(152, spec_l01Closed.con), (151, spec_l01List.con)], frz := [], rows := [], live := [], n := 12, pin := 0, nils := [] }
noncomputable def spec_l06Made.fn : D.Fn := { body := Try.f107.body.getD .skip, res := Try.f107.results.toList, ins := [.agg [.v (.sl 25 (.sl 2 (.int .i64)))], .one (.v (.int .i64))], outs := [.one (.own 2 true (.int .i64))] }
def spec_l06Made.enc (y : lsd (flats spec_l06Made.fn.outs) × lsd (ios spec_l06Made.fn.ins)) : (List Int) := y.1.1
noncomputable def spec_l06Made.f (l0_0 : List (List Int)) (a1 : Int) : Option (List Int) := denF spec_l06Made.E spec_l06Made.fn spec_l06Made.enc (l0_0, a1, ())
set_option maxRecDepth 100000 in
theorem spec_l06Made.f_eq (l0_0 : List (List Int)) (a1 : Int) : spec_l06Made.f l0_0 a1 = if (wr .u64 a1) < 0 then none else ((spec_l01Closed.f l0_0 (orI .i64 1 (shlI .i64 1 (wr .u64 a1)))).bind fun t10 => (spec_l01List.f t10).bind fun t11 => some t11) := by kernel_rfl
noncomputable def spec_l06Made.con : Con := ⟨spec_l06Made.fn.ins, spec_l06Made.fn.outs, (List Int), fun x => spec_l06Made.f x.1 x.2.1, fun r => ((r, ()), (()))⟩
theorem spec_l06Made.valid : Valid Try.prog 107 spec_l06Made.con := fn_valid (f := spec_l06Made.fn) (E := spec_l06Made.E) (enc := spec_l06Made.enc) ⟨ttOk, (conCons spec_l01Closed.valid (conCons spec_l01List.valid conNil))⟩ (Checked.mixed Try.checked) ⟨Try.func107, by kernel_rfl, by kernel_rfl, by kernel_rfl, by kernel_rfl, by decide, by kernel_rfl, by kernel_rfl⟩ (fun _ => rfl)
end Go.Proofs.Ytlkdhmijgpadaaa.P
set_option linter.unusedVariables false
namespace Go.Proofs.Ytlkdhmijgpadaaa.P
open Go Go.RowKit Go.Proofs.Ytlkdhmijgpadaaa.D
noncomputable def spec_l06Choice.E : Env := { tt := TT, con := [(71, spec_l01Is.con), (84, spec_l01N.con), (92, spec_l01In.con), (107, spec_l06Made.con), (106, spec_l01Normal.con)], frz := [], rows := [], live := [], n := 23, pin := 0, nils := [] }
noncomputable def spec_l06Choice.fn : D.Fn := { body := Try.f60.body.getD .skip, res := Try.f60.results.toList, ins := [.agg [.v (.sl 25 (.sl 2 (.int .i64)))], .one (.v (.int .i64))], outs := [.one (.v (.int .i64))] }
def spec_l06Choice.enc (y : lsd (flats spec_l06Choice.fn.outs) × lsd (ios spec_l06Choice.fn.ins)) : Int := y.1.1
noncomputable def spec_l06Choice.f (l0_0 : List (List Int)) (a1 : Int) : Option Int := denF spec_l06Choice.E spec_l06Choice.fn spec_l06Choice.enc (l0_0, a1, ())
set_option maxRecDepth 100000 in
theorem spec_l06Choice.f_eq (l0_0 : List (List Int)) (a1 : Int) : spec_l06Choice.f l0_0 a1 = (spec_l01Is.f l0_0).bind fun t7 => if t7 = true then ((spec_l01N.f l0_0).bind fun t12 => (spec_l01In.f a1 1 (wrapI (t12 - 1))).bind fun t14 => if t14 = true then ((spec_l06Made.f l0_0 a1).bind fun t20 => (spec_l01Normal.f l0_0 t20).bind fun t21 => if t21 = true then (some 0) else (some 5)) else (some 2)) else (some 1) := by kernel_rfl
noncomputable def spec_l06Choice.con : Con := ⟨spec_l06Choice.fn.ins, spec_l06Choice.fn.outs, Int, fun x => spec_l06Choice.f x.1 x.2.1, fun r => ((r, ()), (()))⟩
theorem spec_l06Choice.valid : Valid Try.prog 60 spec_l06Choice.con := fn_valid (f := spec_l06Choice.fn) (E := spec_l06Choice.E) (enc := spec_l06Choice.enc) ⟨ttOk, (conCons spec_l01Is.valid (conCons spec_l01N.valid (conCons spec_l01In.valid (conCons spec_l06Made.valid (conCons spec_l01Normal.valid conNil)))))⟩ (Checked.mixed Try.checked) ⟨Try.func60, by kernel_rfl, by kernel_rfl, by kernel_rfl, by kernel_rfl, by decide, by kernel_rfl, by kernel_rfl⟩ (fun _ => rfl)
end Go.Proofs.Ytlkdhmijgpadaaa.P
set_option linter.unusedVariables false
namespace Go.Proofs.Ytlkdhmijgpadaaa.P
open Go Go.RowKit Go.Proofs.Ytlkdhmijgpadaaa.D
noncomputable def spec_l01Cosets.E : Env := { tt := TT, con := [(84, spec_l01N.con)], frz := [], rows := [], live := [(4, [1, 2, 6, 7, 8, 9]), (8, [1, 2, 6, 7, 8, 9, 10])], n := 61, pin := 0, nils := [] }
noncomputable def spec_l01Cosets.fn : D.Fn := { body := Try.f108.body.getD .skip, res := Try.f108.results.toList, ins := [.agg [.v (.sl 25 (.sl 2 (.int .i64)))], .one (.v (.sl 2 (.int .i64)))], outs := [.one (.own 2 true (.int .i64)), .one (.own 2 true (.int .i64))] }
def spec_l01Cosets.enc (y : lsd (flats spec_l01Cosets.fn.outs) × lsd (ios spec_l01Cosets.fn.ins)) : (List Int) × (List Int) := (y.1.1, y.1.2.1)
noncomputable def spec_l01Cosets.f (l0_0 : List (List Int)) (l1 : List Int) : Option ((List Int) × (List Int)) := denF spec_l01Cosets.E spec_l01Cosets.fn spec_l01Cosets.enc (l0_0, l1, ())
noncomputable def spec_l01Cosets.l0 (x1 : List Int) (x8 : Int) (x9 : Int) (b0_0 : List (List Int)) (r1 : List Int) (r2 : List Int) : Option ((List Int) × (List Int)) := denAt spec_l01Cosets.E spec_l01Cosets.fn spec_l01Cosets.enc [1, 1, 1, 0, 1, 0] { fr := [(1, .lf (.sl (.int .i64) x1)), (2, .lf (.box 0 0)), (6, .lf (.own 1)), (7, .lf (.own 2)), (8, .lf (.int .i64 x8)), (9, .lf (.int .i64 x9))], ob := [(0, .box 35 false [.sl (.sl 2 (.int .i64)) b0_0]), (1, .row 2 true (.int .i64) r1), (2, .row 2 true (.int .i64) r2)], nx := 3 }
noncomputable def spec_l01Cosets.l1 (x1 : List Int) (x8 : Int) (x9 : Int) (x10 : Int) (b0_0 : List (List Int)) (r1 : List Int) (r2 : List Int) : Option ((List Int) × (List Int)) := denAt spec_l01Cosets.E spec_l01Cosets.fn spec_l01Cosets.enc [1, 1, 1, 0, 1, 0, 0, 1, 0, 0, 1, 0, 1, 0] { fr := [(1, .lf (.sl (.int .i64) x1)), (2, .lf (.box 0 0)), (6, .lf (.own 1)), (7, .lf (.own 2)), (8, .lf (.int .i64 x8)), (9, .lf (.int .i64 x9)), (10, .lf (.int .i64 x10))], ob := [(0, .box 35 false [.sl (.sl 2 (.int .i64)) b0_0]), (1, .row 2 true (.int .i64) r1), (2, .row 2 true (.int .i64) r2)], nx := 3 }
set_option maxRecDepth 100000 in
theorem spec_l01Cosets.f_eq (l0_0 : List (List Int)) (l1 : List Int) : spec_l01Cosets.f l0_0 l1 = (spec_l01N.f l0_0).bind fun t13 => if t13 = t13 then (if 0 ≤ t13 then (if (t13 : Int).toNat ≤ 17592186044416 then (spec_l01Cosets.l0 l1 0 0 l0_0 (List.replicate (t13 : Int).toNat (0 : Int)) ([] : List Int)) else none) else none) else none := by kernel_rfl
set_option maxRecDepth 100000 in
theorem spec_l01Cosets.l0_eq (x1 : List Int) (x8 : Int) (x9 : Int) (b0_0 : List (List Int)) (r1 : List Int) (r2 : List Int) : spec_l01Cosets.l0 x1 x8 x9 b0_0 r1 r2 = (spec_l01N.f b0_0).bind fun t18 => if x9 < t18 then (if (wr .u64 x9) < 0 then none else (if (andI .i64 (shrI .i64 x8 (wr .u64 x9)) 1) = 1 then (spec_l01Cosets.l0 x1 x8 (wrapI (x9 + 1)) b0_0 r1 r2) else (spec_l01Cosets.l1 x1 x8 x9 0 b0_0 r1 r2))) else (some (r1, r2)) := (loop_unfold _ _ _ _).trans (by kernel_rfl)
set_option maxRecDepth 100000 in
theorem spec_l01Cosets.l1_eq (x1 : List Int) (x8 : Int) (x9 : Int) (x10 : Int) (b0_0 : List (List Int)) (r1 : List Int) (r2 : List Int) : spec_l01Cosets.l1 x1 x8 x9 x10 b0_0 r1 r2 = if x10 < (x1.length : Int) then (if 0 ≤ x9 then (if x9 < (b0_0.length : Int) then (if 0 ≤ x10 then (if x10 < (x1.length : Int) then (if 0 ≤ rd x1 x10 then (if rd x1 x10 < ((row b0_0 x9).length : Int) then (if (wr .u64 (T b0_0 x9 (rd x1 x10))) < 0 then none else (if 0 ≤ T b0_0 x9 (rd x1 x10) then (if T b0_0 x9 (rd x1 x10) < (r1.length : Int) then (if 0 ≤ T b0_0 x9 (rd x1 x10) then (if T b0_0 x9 (rd x1 x10) < (r1.length : Int) then (spec_l01Cosets.l1 x1 (orI .i64 x8 (shlI .i64 1 (wr .u64 (T b0_0 x9 (rd x1 x10))))) x9 (wrapI (x10 + 1)) b0_0 (r1.set (T b0_0 x9 (rd x1 x10) : Int).toNat (r2.length : Int)) r2) else none) else none) else none) else none)) else none) else none) else none) else none) else none) else none) else (if r2.length + ([x9] : List Int).length ≤ 17592186044416 then (spec_l01Cosets.l0 x1 x8 (wrapI (x9 + 1)) b0_0 r1 (r2 ++ ([x9] : List Int))) else none) := (loop_unfold _ _ _ _).trans (by kernel_rfl)
noncomputable def spec_l01Cosets.con : Con := ⟨spec_l01Cosets.fn.ins, spec_l01Cosets.fn.outs, (List Int) × (List Int), fun x => spec_l01Cosets.f x.1 x.2.1, fun r => ((r.1, r.2, ()), (()))⟩
theorem spec_l01Cosets.valid : Valid Try.prog 108 spec_l01Cosets.con := fn_valid (f := spec_l01Cosets.fn) (E := spec_l01Cosets.E) (enc := spec_l01Cosets.enc) ⟨ttOk, (conCons spec_l01N.valid conNil)⟩ (Checked.mixed Try.checked) ⟨Try.func108, by kernel_rfl, by kernel_rfl, by kernel_rfl, by kernel_rfl, by decide, by kernel_rfl, by kernel_rfl⟩ (fun _ => rfl)
end Go.Proofs.Ytlkdhmijgpadaaa.P
set_option linter.unusedVariables false
namespace Go.Proofs.Ytlkdhmijgpadaaa.P
open Go Go.RowKit Go.Proofs.Ytlkdhmijgpadaaa.D
noncomputable def spec_l01Quotient.E : Env := { tt := TT, con := [(108, spec_l01Cosets.con)], frz := [], rows := [], live := [(4, [2, 4, 6, 7, 8, 9]), (8, [2, 4, 6, 7, 8, 9, 10, 11])], n := 61, pin := 0, nils := [] }
noncomputable def spec_l01Quotient.fn : D.Fn := { body := Try.f109.body.getD .skip, res := Try.f109.results.toList, ins := [.agg [.v (.sl 25 (.sl 2 (.int .i64)))], .one (.v (.sl 2 (.int .i64)))], outs := [.agg [.own 25 true (.sl 2 (.int .i64))], .one (.own 2 true (.int .i64))] }
def spec_l01Quotient.enc (y : lsd (flats spec_l01Quotient.fn.outs) × lsd (ios spec_l01Quotient.fn.ins)) : (List (List Int)) × (List Int) := (y.1.1, y.1.2.1)
noncomputable def spec_l01Quotient.f (l0_0 : List (List Int)) (l1 : List Int) : Option ((List (List Int)) × (List Int)) := denF spec_l01Quotient.E spec_l01Quotient.fn spec_l01Quotient.enc (l0_0, l1, ())
noncomputable def spec_l01Quotient.l0 (x9 : Int) (b0_0 : List (List Int)) (r2 : List Int) (r3 : List Int) (r5 : List (List Int)) : Option ((List (List Int)) × (List Int)) := denAt spec_l01Quotient.E spec_l01Quotient.fn spec_l01Quotient.enc [1, 1, 1, 0, 1, 0] { fr := [(2, .lf (.box 0 0)), (4, .lf (.box 1 0)), (6, .lf (.own 2)), (7, .lf (.own 3)), (8, .lf (.box 4 0)), (9, .lf (.int .i64 x9))], ob := [(0, .box 35 false [.sl (.sl 2 (.int .i64)) b0_0]), (1, .box 35 false [.nil]), (2, .row 2 true (.int .i64) r2), (3, .row 2 true (.int .i64) r3), (4, .box 35 false [.own 5]), (5, .row 25 true (.sl 2 (.int .i64)) r5)], nx := 6 }
noncomputable def spec_l01Quotient.l1 (x9 : Int) (x11 : Int) (b0_0 : List (List Int)) (r2 : List Int) (r3 : List Int) (r5 : List Int) (r6 : List (List Int)) : Option ((List (List Int)) × (List Int)) := denAt spec_l01Quotient.E spec_l01Quotient.fn spec_l01Quotient.enc [1, 1, 1, 0, 1, 0, 0, 1, 0, 0, 1, 0, 1, 0] { fr := [(2, .lf (.box 0 0)), (4, .lf (.box 1 0)), (6, .lf (.own 2)), (7, .lf (.own 3)), (8, .lf (.box 4 0)), (9, .lf (.int .i64 x9)), (10, .lf (.own 5)), (11, .lf (.int .i64 x11))], ob := [(0, .box 35 false [.sl (.sl 2 (.int .i64)) b0_0]), (1, .box 35 false [.nil]), (2, .row 2 true (.int .i64) r2), (3, .row 2 true (.int .i64) r3), (4, .box 35 false [.own 6]), (5, .row 2 true (.int .i64) r5), (6, .row 25 true (.sl 2 (.int .i64)) r6)], nx := 7 }
set_option maxRecDepth 100000 in
theorem spec_l01Quotient.f_eq (l0_0 : List (List Int)) (l1 : List Int) : spec_l01Quotient.f l0_0 l1 = (spec_l01Cosets.f l0_0 l1).bind fun t15 => spec_l01Quotient.l0 0 l0_0 t15.1 t15.2 ([] : List (List Int)) := by kernel_rfl
set_option maxRecDepth 100000 in
theorem spec_l01Quotient.l0_eq (x9 : Int) (b0_0 : List (List Int)) (r2 : List Int) (r3 : List Int) (r5 : List (List Int)) : spec_l01Quotient.l0 x9 b0_0 r2 r3 r5 = if x9 < (r3.length : Int) then (spec_l01Quotient.l1 x9 0 b0_0 r2 r3 ([] : List Int) r5) else (some (r5, r2)) := (loop_unfold _ _ _ _).trans (by kernel_rfl)
set_option maxRecDepth 100000 in
theorem spec_l01Quotient.l1_eq (x9 : Int) (x11 : Int) (b0_0 : List (List Int)) (r2 : List Int) (r3 : List Int) (r5 : List Int) (r6 : List (List Int)) : spec_l01Quotient.l1 x9 x11 b0_0 r2 r3 r5 r6 = if x11 < (r3.length : Int) then (if 0 ≤ x9 then (if x9 < (r3.length : Int) then (if 0 ≤ x9 then (if x9 < (r3.length : Int) then (if 0 ≤ rd r3 x9 then (if rd r3 x9 < (b0_0.length : Int) then (if 0 ≤ x11 then (if x11 < (r3.length : Int) then (if 0 ≤ x11 then (if x11 < (r3.length : Int) then (if 0 ≤ rd r3 x11 then (if rd r3 x11 < ((row b0_0 (rd r3 x9)).length : Int) then (if 0 ≤ T b0_0 (rd r3 x9) (rd r3 x11) then (if T b0_0 (rd r3 x9) (rd r3 x11) < (r2.length : Int) then (if 0 ≤ T b0_0 (rd r3 x9) (rd r3 x11) then (if T b0_0 (rd r3 x9) (rd r3 x11) < (r2.length : Int) then (if r5.length + ([rd r2 (T b0_0 (rd r3 x9) (rd r3 x11))] : List Int).length ≤ 17592186044416 then (spec_l01Quotient.l1 x9 (wrapI (x11 + 1)) b0_0 r2 r3 (r5 ++ ([rd r2 (T b0_0 (rd r3 x9) (rd r3 x11))] : List Int)) r6) else none) else none) else none) else none) else none) else none) else none) else none) else none) else none) else none) else none) else none) else none) else none) else none) else none) else (if r6.length + ([r5] : List (List Int)).length ≤ 5864062014805 then (spec_l01Quotient.l0 (wrapI (x9 + 1)) b0_0 r2 r3 (r6 ++ ([r5] : List (List Int)))) else none) := (loop_unfold _ _ _ _).trans (by kernel_rfl)
noncomputable def spec_l01Quotient.con : Con := ⟨spec_l01Quotient.fn.ins, spec_l01Quotient.fn.outs, (List (List Int)) × (List Int), fun x => spec_l01Quotient.f x.1 x.2.1, fun r => ((r.1, r.2, ()), (()))⟩
theorem spec_l01Quotient.valid : Valid Try.prog 109 spec_l01Quotient.con := fn_valid (f := spec_l01Quotient.fn) (E := spec_l01Quotient.E) (enc := spec_l01Quotient.enc) ⟨ttOk, (conCons spec_l01Cosets.valid conNil)⟩ (Checked.mixed Try.checked) ⟨Try.func109, by kernel_rfl, by kernel_rfl, by kernel_rfl, by kernel_rfl, by decide, by kernel_rfl, by kernel_rfl⟩ (fun _ => rfl)
end Go.Proofs.Ytlkdhmijgpadaaa.P
set_option linter.unusedVariables false
namespace Go.Proofs.Ytlkdhmijgpadaaa.P
open Go Go.RowKit Go.Proofs.Ytlkdhmijgpadaaa.D
noncomputable def spec_l01Order.E : Env := { tt := TT, con := [], frz := [], rows := [], live := [(3, [1, 2, 5, 6])], n := 21, pin := 0, nils := [] }
noncomputable def spec_l01Order.fn : D.Fn := { body := Try.f110.body.getD .skip, res := Try.f110.results.toList, ins := [.agg [.v (.sl 25 (.sl 2 (.int .i64)))], .one (.v (.int .i64))], outs := [.one (.v (.int .i64))] }
def spec_l01Order.enc (y : lsd (flats spec_l01Order.fn.outs) × lsd (ios spec_l01Order.fn.ins)) : Int := y.1.1
noncomputable def spec_l01Order.f (l0_0 : List (List Int)) (a1 : Int) : Option Int := denF spec_l01Order.E spec_l01Order.fn spec_l01Order.enc (l0_0, a1, ())
noncomputable def spec_l01Order.l0 (x1 : Int) (x5 : Int) (x6 : Int) (b0_0 : List (List Int)) : Option Int := denAt spec_l01Order.E spec_l01Order.fn spec_l01Order.enc [1, 1, 0, 1, 0] { fr := [(1, .lf (.int .i64 x1)), (2, .lf (.box 0 0)), (5, .lf (.int .i64 x5)), (6, .lf (.int .i64 x6))], ob := [(0, .box 35 false [.sl (.sl 2 (.int .i64)) b0_0])], nx := 1 }
set_option maxRecDepth 100000 in
theorem spec_l01Order.f_eq (l0_0 : List (List Int)) (a1 : Int) : spec_l01Order.f l0_0 a1 = spec_l01Order.l0 a1 1 a1 l0_0 := by kernel_rfl
set_option maxRecDepth 100000 in
theorem spec_l01Order.l0_eq (x1 : Int) (x5 : Int) (x6 : Int) (b0_0 : List (List Int)) : spec_l01Order.l0 x1 x5 x6 b0_0 = if x6 = 0 then (some x5) else (if 0 ≤ x6 then (if x6 < (b0_0.length : Int) then (if 0 ≤ x1 then (if x1 < ((row b0_0 x6).length : Int) then (spec_l01Order.l0 x1 (wrapI (x5 + 1)) (T b0_0 x6 x1) b0_0) else none) else none) else none) else none) := (loop_unfold _ _ _ _).trans (by kernel_rfl)
noncomputable def spec_l01Order.con : Con := ⟨spec_l01Order.fn.ins, spec_l01Order.fn.outs, Int, fun x => spec_l01Order.f x.1 x.2.1, fun r => ((r, ()), (()))⟩
theorem spec_l01Order.valid : Valid Try.prog 110 spec_l01Order.con := fn_valid (f := spec_l01Order.fn) (E := spec_l01Order.E) (enc := spec_l01Order.enc) ⟨ttOk, conNil⟩ (Checked.mixed Try.checked) ⟨Try.func110, by kernel_rfl, by kernel_rfl, by kernel_rfl, by kernel_rfl, by decide, by kernel_rfl, by kernel_rfl⟩ (fun _ => rfl)
end Go.Proofs.Ytlkdhmijgpadaaa.P
set_option linter.unusedVariables false
namespace Go.Proofs.Ytlkdhmijgpadaaa.P
open Go Go.RowKit Go.Proofs.Ytlkdhmijgpadaaa.D
noncomputable def spec_l06Power.E : Env := { tt := TT, con := [(110, spec_l01Order.con)], frz := [], rows := [], live := [(3, [1, 2, 3, 7, 8])], n := 28, pin := 0, nils := [] }
noncomputable def spec_l06Power.fn : D.Fn := { body := Try.f111.body.getD .skip, res := Try.f111.results.toList, ins := [.agg [.v (.sl 25 (.sl 2 (.int .i64)))], .one (.v (.int .i64)), .one (.v (.int .i64))], outs := [.one (.v (.int .i64))] }
def spec_l06Power.enc (y : lsd (flats spec_l06Power.fn.outs) × lsd (ios spec_l06Power.fn.ins)) : Int := y.1.1
noncomputable def spec_l06Power.f (l0_0 : List (List Int)) (a1 : Int) (a2 : Int) : Option Int := denF spec_l06Power.E spec_l06Power.fn spec_l06Power.enc (l0_0, a1, a2, ())
noncomputable def spec_l06Power.l0 (x1 : Int) (x2 : Int) (x7 : Int) (x8 : Int) (b0_0 : List (List Int)) : Option Int := denAt spec_l06Power.E spec_l06Power.fn spec_l06Power.enc [1, 1, 0, 1, 0] { fr := [(1, .lf (.int .i64 x1)), (2, .lf (.int .i64 x2)), (3, .lf (.box 0 0)), (7, .lf (.int .i64 x7)), (8, .lf (.int .i64 x8))], ob := [(0, .box 35 false [.sl (.sl 2 (.int .i64)) b0_0])], nx := 1 }
set_option maxRecDepth 100000 in
theorem spec_l06Power.f_eq (l0_0 : List (List Int)) (a1 : Int) (a2 : Int) : spec_l06Power.f l0_0 a1 a2 = spec_l06Power.l0 a1 a2 0 0 l0_0 := by kernel_rfl
set_option maxRecDepth 100000 in
theorem spec_l06Power.l0_eq (x1 : Int) (x2 : Int) (x7 : Int) (x8 : Int) (b0_0 : List (List Int)) : spec_l06Power.l0 x1 x2 x7 x8 b0_0 = (spec_l01Order.f b0_0 x1).bind fun t12 => if x8 < t12 then (if x7 = x2 then (some x8) else (if 0 ≤ x7 then (if x7 < (b0_0.length : Int) then (if 0 ≤ x1 then (if x1 < ((row b0_0 x7).length : Int) then (spec_l06Power.l0 x1 x2 (T b0_0 x7 x1) (wrapI (x8 + 1)) b0_0) else none) else none) else none) else none)) else (some (-1)) := (loop_unfold _ _ _ _).trans (by kernel_rfl)
noncomputable def spec_l06Power.con : Con := ⟨spec_l06Power.fn.ins, spec_l06Power.fn.outs, Int, fun x => spec_l06Power.f x.1 x.2.1 x.2.2.1, fun r => ((r, ()), (()))⟩
theorem spec_l06Power.valid : Valid Try.prog 111 spec_l06Power.con := fn_valid (f := spec_l06Power.fn) (E := spec_l06Power.E) (enc := spec_l06Power.enc) ⟨ttOk, (conCons spec_l01Order.valid conNil)⟩ (Checked.mixed Try.checked) ⟨Try.func111, by kernel_rfl, by kernel_rfl, by kernel_rfl, by kernel_rfl, by decide, by kernel_rfl, by kernel_rfl⟩ (fun _ => rfl)
end Go.Proofs.Ytlkdhmijgpadaaa.P
set_option linter.unusedVariables false
namespace Go.Proofs.Ytlkdhmijgpadaaa.P
open Go Go.RowKit Go.Proofs.Ytlkdhmijgpadaaa.D
noncomputable def spec_l06Module.E : Env := { tt := TT, con := [(107, spec_l06Made.con), (108, spec_l01Cosets.con), (109, spec_l01Quotient.con), (110, spec_l01Order.con), (112, spec_l01Conjugate.con), (111, spec_l06Power.con), (113, spec_l01Inverse.con)], frz := [], rows := [], live := [(6, [1, 2, 4, 5, 6, 8, 9, 10, 12, 13]), (11, [1, 2, 4, 5, 6, 8, 9, 10, 12, 14, 15]), (14, [1, 2, 4, 5, 6, 8, 9, 10, 12, 14, 15, 16])], n := 116, pin := 0, nils := [] }
noncomputable def spec_l06Module.fn : D.Fn := { body := Try.f61.body.getD .skip, res := Try.f61.results.toList, ins := [.agg [.v (.sl 25 (.sl 2 (.int .i64)))], .one (.v (.int .i64))], outs := [.agg [.own 25 true (.sl 2 (.int .i64))], .agg [.v (.int .i64), .own 2 true (.int .i64)], .agg [.v (.int .i64), .own 2 true (.int .i64)]] }
def spec_l06Module.enc (y : lsd (flats spec_l06Module.fn.outs) × lsd (ios spec_l06Module.fn.ins)) : (List (List Int)) × Int × (List Int) × Int × (List Int) := (y.1.1, y.1.2.1, y.1.2.2.1, y.1.2.2.2.1, y.1.2.2.2.2.1)
noncomputable def spec_l06Module.f (l0_0 : List (List Int)) (a1 : Int) : Option ((List (List Int)) × Int × (List Int) × Int × (List Int)) := denF spec_l06Module.E spec_l06Module.fn spec_l06Module.enc (l0_0, a1, ())
noncomputable def spec_l06Module.l0 (x1 : Int) (x13 : Int) (b0_0 : List (List Int)) (b2_0 : Int) (b3_0 : Int) (r4 : List Int) (r5 : List Int) (b7_0 : Int) (r8 : List (List Int)) (r9 : List Int) : Option ((List (List Int)) × Int × (List Int) × Int × (List Int)) := denAt spec_l06Module.E spec_l06Module.fn spec_l06Module.enc [1, 1, 1, 1, 1, 0, 1, 0] { fr := [(1, .lf (.int .i64 x1)), (2, .lf (.box 0 0)), (4, .lf (.box 1 0)), (5, .lf (.box 2 0)), (6, .lf (.box 3 0)), (8, .lf (.own 4)), (9, .lf (.own 5)), (10, .lf (.box 6 0)), (12, .lf (.box 7 0)), (13, .lf (.int .i64 x13))], ob := [(0, .box 35 false [.sl (.sl 2 (.int .i64)) b0_0]), (1, .box 35 false [.nil]), (2, .box 37 false [.int .i64 b2_0, .nil]), (3, .box 39 false [.int .i64 b3_0, .nil]), (4, .row 2 true (.int .i64) r4), (5, .row 2 true (.int .i64) r5), (6, .box 35 false [.own 8]), (7, .box 37 false [.int .i64 b7_0, .own 9]), (8, .row 25 true (.sl 2 (.int .i64)) r8), (9, .row 2 true (.int .i64) r9)], nx := 10 }
noncomputable def spec_l06Module.l1 (x1 : Int) (x15 : Int) (b0_0 : List (List Int)) (b2_0 : Int) (b3_0 : Int) (r4 : List Int) (r5 : List Int) (b7_0 : Int) (b8_0 : Int) (r9 : List (List Int)) (r10 : List Int) (r11 : List Int) : Option ((List (List Int)) × Int × (List Int) × Int × (List Int)) := denAt spec_l06Module.E spec_l06Module.fn spec_l06Module.enc [1, 1, 1, 1, 1, 1, 1, 0, 1, 0] { fr := [(1, .lf (.int .i64 x1)), (2, .lf (.box 0 0)), (4, .lf (.box 1 0)), (5, .lf (.box 2 0)), (6, .lf (.box 3 0)), (8, .lf (.own 4)), (9, .lf (.own 5)), (10, .lf (.box 6 0)), (12, .lf (.box 7 0)), (14, .lf (.box 8 0)), (15, .lf (.int .i64 x15))], ob := [(0, .box 35 false [.sl (.sl 2 (.int .i64)) b0_0]), (1, .box 35 false [.nil]), (2, .box 37 false [.int .i64 b2_0, .nil]), (3, .box 39 false [.int .i64 b3_0, .nil]), (4, .row 2 true (.int .i64) r4), (5, .row 2 true (.int .i64) r5), (6, .box 35 false [.own 9]), (7, .box 37 false [.int .i64 b7_0, .own 10]), (8, .box 39 false [.int .i64 b8_0, .own 11]), (9, .row 25 true (.sl 2 (.int .i64)) r9), (10, .row 2 true (.int .i64) r10), (11, .row 2 true (.int .i64) r11)], nx := 12 }
noncomputable def spec_l06Module.l2 (x1 : Int) (x15 : Int) (x16 : Int) (b0_0 : List (List Int)) (b2_0 : Int) (b3_0 : Int) (r4 : List Int) (r5 : List Int) (b7_0 : Int) (b8_0 : Int) (r9 : List (List Int)) (r10 : List Int) (r11 : List Int) : Option ((List (List Int)) × Int × (List Int) × Int × (List Int)) := denAt spec_l06Module.E spec_l06Module.fn spec_l06Module.enc [1, 1, 1, 1, 1, 1, 1, 0, 1, 0, 0, 1, 0, 0, 1, 0] { fr := [(1, .lf (.int .i64 x1)), (2, .lf (.box 0 0)), (4, .lf (.box 1 0)), (5, .lf (.box 2 0)), (6, .lf (.box 3 0)), (8, .lf (.own 4)), (9, .lf (.own 5)), (10, .lf (.box 6 0)), (12, .lf (.box 7 0)), (14, .lf (.box 8 0)), (15, .lf (.int .i64 x15)), (16, .lf (.int .i64 x16))], ob := [(0, .box 35 false [.sl (.sl 2 (.int .i64)) b0_0]), (1, .box 35 false [.nil]), (2, .box 37 false [.int .i64 b2_0, .nil]), (3, .box 39 false [.int .i64 b3_0, .nil]), (4, .row 2 true (.int .i64) r4), (5, .row 2 true (.int .i64) r5), (6, .box 35 false [.own 9]), (7, .box 37 false [.int .i64 b7_0, .own 10]), (8, .box 39 false [.int .i64 b8_0, .own 11]), (9, .row 25 true (.sl 2 (.int .i64)) r9), (10, .row 2 true (.int .i64) r10), (11, .row 2 true (.int .i64) r11)], nx := 12 }
set_option maxRecDepth 100000 in
theorem spec_l06Module.f_eq (l0_0 : List (List Int)) (a1 : Int) : spec_l06Module.f l0_0 a1 = (spec_l06Made.f l0_0 a1).bind fun t21 => (spec_l01Cosets.f l0_0 t21).bind fun t25 => (spec_l01Quotient.f l0_0 t21).bind fun t31 => (spec_l01Order.f l0_0 a1).bind fun t36 => spec_l06Module.l0 a1 0 l0_0 0 0 t25.1 t25.2 t36 t31.1 ([] : List Int) := by kernel_rfl
set_option maxRecDepth 100000 in
theorem spec_l06Module.l0_eq (x1 : Int) (x13 : Int) (b0_0 : List (List Int)) (b2_0 : Int) (b3_0 : Int) (r4 : List Int) (r5 : List Int) (b7_0 : Int) (r8 : List (List Int)) (r9 : List Int) : spec_l06Module.l0 x1 x13 b0_0 b2_0 b3_0 r4 r5 b7_0 r8 r9 = if x13 < (r5.length : Int) then (if 0 ≤ x13 then (if x13 < (r5.length : Int) then (if 0 ≤ x13 then (if x13 < (r5.length : Int) then ((spec_l01Conjugate.f b0_0 x1 (rd r5 x13)).bind fun t55 => (spec_l06Power.f b0_0 x1 t55).bind fun t56 => if r9.length + ([t56] : List Int).length ≤ 17592186044416 then (spec_l06Module.l0 x1 (wrapI (x13 + 1)) b0_0 b2_0 b3_0 r4 r5 b7_0 r8 (r9 ++ ([t56] : List Int))) else none) else none) else none) else none) else none) else (spec_l06Module.l1 x1 1 b0_0 b2_0 b3_0 r4 r5 b7_0 2 r8 r9 ([] : List Int)) := (loop_unfold _ _ _ _).trans (by kernel_rfl)
set_option maxRecDepth 100000 in
theorem spec_l06Module.l1_eq (x1 : Int) (x15 : Int) (b0_0 : List (List Int)) (b2_0 : Int) (b3_0 : Int) (r4 : List Int) (r5 : List Int) (b7_0 : Int) (b8_0 : Int) (r9 : List (List Int)) (r10 : List Int) (r11 : List Int) : spec_l06Module.l1 x1 x15 b0_0 b2_0 b3_0 r4 r5 b7_0 b8_0 r9 r10 r11 = if x15 < (r5.length : Int) then (spec_l06Module.l2 x1 x15 1 b0_0 b2_0 b3_0 r4 r5 b7_0 b8_0 r9 r10 r11) else (some (r9, b7_0, r10, b8_0, r11)) := (loop_unfold _ _ _ _).trans (by kernel_rfl)
set_option maxRecDepth 100000 in
theorem spec_l06Module.l2_eq (x1 : Int) (x15 : Int) (x16 : Int) (b0_0 : List (List Int)) (b2_0 : Int) (b3_0 : Int) (r4 : List Int) (r5 : List Int) (b7_0 : Int) (b8_0 : Int) (r9 : List (List Int)) (r10 : List Int) (r11 : List Int) : spec_l06Module.l2 x1 x15 x16 b0_0 b2_0 b3_0 r4 r5 b7_0 b8_0 r9 r10 r11 = if x16 < (r5.length : Int) then (if 0 ≤ x15 then (if x15 < (r5.length : Int) then (if 0 ≤ x15 then (if x15 < (r5.length : Int) then (if 0 ≤ rd r5 x15 then (if rd r5 x15 < (b0_0.length : Int) then (if 0 ≤ x16 then (if x16 < (r5.length : Int) then (if 0 ≤ x16 then (if x16 < (r5.length : Int) then (if 0 ≤ rd r5 x16 then (if rd r5 x16 < ((row b0_0 (rd r5 x15)).length : Int) then (if 0 ≤ T b0_0 (rd r5 x15) (rd r5 x16) then (if T b0_0 (rd r5 x15) (rd r5 x16) < (b0_0.length : Int) then (if 0 ≤ T b0_0 (rd r5 x15) (rd r5 x16) then (if T b0_0 (rd r5 x15) (rd r5 x16) < (r4.length : Int) then (if 0 ≤ T b0_0 (rd r5 x15) (rd r5 x16) then (if T b0_0 (rd r5 x15) (rd r5 x16) < (r4.length : Int) then (if 0 ≤ rd r4 (T b0_0 (rd r5 x15) (rd r5 x16)) then (if rd r4 (T b0_0 (rd r5 x15) (rd r5 x16)) < (r5.length : Int) then (if 0 ≤ rd r4 (T b0_0 (rd r5 x15) (rd r5 x16)) then (if rd r4 (T b0_0 (rd r5 x15) (rd r5 x16)) < (r5.length : Int) then ((spec_l01Inverse.f b0_0 (rd r5 (rd r4 (T b0_0 (rd r5 x15) (rd r5 x16))))).bind fun t101 => if 0 ≤ t101 then (if t101 < ((row b0_0 (T b0_0 (rd r5 x15) (rd r5 x16))).length : Int) then ((spec_l06Power.f b0_0 x1 (T b0_0 (T b0_0 (rd r5 x15) (rd r5 x16)) t101)).bind fun t109 => if r11.length + ([t109] : List Int).length ≤ 17592186044416 then (spec_l06Module.l2 x1 x15 (wrapI (x16 + 1)) b0_0 b2_0 b3_0 r4 r5 b7_0 b8_0 r9 r10 (r11 ++ ([t109] : List Int))) else none) else none) else none) else none) else none) else none) else none) else none) else none) else none) else none) else none) else none) else none) else none) else none) else none) else none) else none) else none) else none) else none) else none) else none) else none) else (spec_l06Module.l1 x1 (wrapI (x15 + 1)) b0_0 b2_0 b3_0 r4 r5 b7_0 b8_0 r9 r10 r11) := (loop_unfold _ _ _ _).trans (by kernel_rfl)
noncomputable def spec_l06Module.con : Con := ⟨spec_l06Module.fn.ins, spec_l06Module.fn.outs, (List (List Int)) × Int × (List Int) × Int × (List Int), fun x => spec_l06Module.f x.1 x.2.1, fun r => ((r.1, r.2.1, r.2.2.1, r.2.2.2.1, r.2.2.2.2, ()), (()))⟩
theorem spec_l06Module.valid : Valid Try.prog 61 spec_l06Module.con := fn_valid (f := spec_l06Module.fn) (E := spec_l06Module.E) (enc := spec_l06Module.enc) ⟨ttOk, (conCons spec_l06Made.valid (conCons spec_l01Cosets.valid (conCons spec_l01Quotient.valid (conCons spec_l01Order.valid (conCons spec_l01Conjugate.valid (conCons spec_l06Power.valid (conCons spec_l01Inverse.valid conNil)))))))⟩ (Checked.mixed Try.checked) ⟨Try.func61, by kernel_rfl, by kernel_rfl, by kernel_rfl, by kernel_rfl, by decide, by kernel_rfl, by kernel_rfl⟩ (fun _ => rfl)
end Go.Proofs.Ytlkdhmijgpadaaa.P
set_option linter.unusedVariables false
namespace Go.Proofs.Ytlkdhmijgpadaaa.P
open Go Go.RowKit Go.Proofs.Ytlkdhmijgpadaaa.D
noncomputable def spec_FactorSetOfChoice.E : Env := { tt := TT, con := [(60, spec_l06Choice.con), (61, spec_l06Module.con)], frz := [], rows := [], live := [], n := 25, pin := 0, nils := [] }
noncomputable def spec_FactorSetOfChoice.fn : D.Fn := { body := Try.f32.body.getD .skip, res := Try.f32.results.toList, ins := [.agg [.v (.sl 25 (.sl 2 (.int .i64)))], .one (.v (.int .i64))], outs := [.agg [.v (.int .i64), .own 2 true (.int .i64)], .one (.v (.int .i64))] }
def spec_FactorSetOfChoice.enc (y : lsd (flats spec_FactorSetOfChoice.fn.outs) × lsd (ios spec_FactorSetOfChoice.fn.ins)) : Int × (List Int) × Int := (y.1.1, y.1.2.1, y.1.2.2.1)
noncomputable def spec_FactorSetOfChoice.f (l0_0 : List (List Int)) (a1 : Int) : Option (Int × (List Int) × Int) := denF spec_FactorSetOfChoice.E spec_FactorSetOfChoice.fn spec_FactorSetOfChoice.enc (l0_0, a1, ())
set_option maxRecDepth 100000 in
theorem spec_FactorSetOfChoice.f_eq (l0_0 : List (List Int)) (a1 : Int) : spec_FactorSetOfChoice.f l0_0 a1 = (spec_l06Choice.f l0_0 a1).bind fun t12 => if t12 = 0 then ((spec_l06Module.f l0_0 a1).bind fun t20 => some (t20.2.2.2.1, t20.2.2.2.2, 0)) else (some (0, ([] : List Int), t12)) := by kernel_rfl
noncomputable def spec_FactorSetOfChoice.con : Con := ⟨spec_FactorSetOfChoice.fn.ins, spec_FactorSetOfChoice.fn.outs, Int × (List Int) × Int, fun x => spec_FactorSetOfChoice.f x.1 x.2.1, fun r => ((r.1, r.2.1, r.2.2, ()), (()))⟩
theorem spec_FactorSetOfChoice.valid : Valid Try.prog 32 spec_FactorSetOfChoice.con := fn_valid (f := spec_FactorSetOfChoice.fn) (E := spec_FactorSetOfChoice.E) (enc := spec_FactorSetOfChoice.enc) ⟨ttOk, (conCons spec_l06Choice.valid (conCons spec_l06Module.valid conNil))⟩ (Checked.mixed Try.checked) ⟨Try.func32, by kernel_rfl, by kernel_rfl, by kernel_rfl, by kernel_rfl, by decide, by kernel_rfl, by kernel_rfl⟩ (fun _ => rfl)
end Go.Proofs.Ytlkdhmijgpadaaa.P
set_option linter.unusedVariables false
namespace Go.Proofs.Ytlkdhmijgpadaaa.P
open Go Go.RowKit Go.Proofs.Ytlkdhmijgpadaaa.D
noncomputable def impl_Group_times.E : Env := { tt := TT, con := [], frz := [], rows := [], live := [(3, [2, 5, 8, 9, 10])], n := 24, pin := 0, nils := [] }
noncomputable def impl_Group_times.fn : D.Fn := { body := Try.f69.body.getD .skip, res := Try.f69.results.toList, ins := [.agg [.v (.sl 25 (.sl 2 (.int .i64)))], .one (.v (.sl 2 (.int .i64)))], outs := [.one (.v (.int .i64))] }
def impl_Group_times.enc (y : lsd (flats impl_Group_times.fn.outs) × lsd (ios impl_Group_times.fn.ins)) : Int := y.1.1
noncomputable def impl_Group_times.f (l0_0 : List (List Int)) (l1 : List Int) : Option Int := denF impl_Group_times.E impl_Group_times.fn impl_Group_times.enc (l0_0, l1, ())
noncomputable def impl_Group_times.l0 (x5 : Int) (x8 : List Int) (x9 : Int) (x10 : Int) (b0_0 : List (List Int)) : Option Int := denAt impl_Group_times.E impl_Group_times.fn impl_Group_times.enc [1, 1, 0, 1, 0] { fr := [(2, .lf (.box 0 0)), (5, .lf (.int .i64 x5)), (8, .lf (.sl (.int .i64) x8)), (9, .lf (.int .i64 x9)), (10, .lf (.int .i64 x10))], ob := [(0, .box 35 false [.sl (.sl 2 (.int .i64)) b0_0])], nx := 1 }
set_option maxRecDepth 100000 in
theorem impl_Group_times.f_eq (l0_0 : List (List Int)) (l1 : List Int) : impl_Group_times.f l0_0 l1 = impl_Group_times.l0 0 l1 (l1.length : Int) 0 l0_0 := by kernel_rfl
set_option maxRecDepth 100000 in
theorem impl_Group_times.l0_eq (x5 : Int) (x8 : List Int) (x9 : Int) (x10 : Int) (b0_0 : List (List Int)) : impl_Group_times.l0 x5 x8 x9 x10 b0_0 = if x10 < x9 then (if 0 ≤ x10 then (if x10 < (x8.length : Int) then (if 0 ≤ x5 then (if x5 < (b0_0.length : Int) then (if 0 ≤ rd x8 x10 then (if rd x8 x10 < ((row b0_0 x5).length : Int) then (impl_Group_times.l0 (T b0_0 x5 (rd x8 x10)) x8 x9 (wrapI (x10 + 1)) b0_0) else none) else none) else none) else none) else none) else none) else (some x5) := (loop_unfold _ _ _ _).trans (by kernel_rfl)
noncomputable def impl_Group_times.con : Con := ⟨impl_Group_times.fn.ins, impl_Group_times.fn.outs, Int, fun x => impl_Group_times.f x.1 x.2.1, fun r => ((r, ()), (()))⟩
theorem impl_Group_times.valid : Valid Try.prog 69 impl_Group_times.con := fn_valid (f := impl_Group_times.fn) (E := impl_Group_times.E) (enc := impl_Group_times.enc) ⟨ttOk, conNil⟩ (Checked.mixed Try.checked) ⟨Try.func69, by kernel_rfl, by kernel_rfl, by kernel_rfl, by kernel_rfl, by decide, by kernel_rfl, by kernel_rfl⟩ (fun _ => rfl)
end Go.Proofs.Ytlkdhmijgpadaaa.P
set_option linter.unusedVariables false
namespace Go.Proofs.Ytlkdhmijgpadaaa.P
open Go Go.RowKit Go.Proofs.Ytlkdhmijgpadaaa.D
noncomputable def impl_Group_orderOf.E : Env := { tt := TT, con := [(69, impl_Group_times.con)], frz := [], rows := [], live := [(3, [1, 2, 5, 6])], n := 18, pin := 0, nils := [] }
noncomputable def impl_Group_orderOf.fn : D.Fn := { body := Try.f53.body.getD .skip, res := Try.f53.results.toList, ins := [.agg [.v (.sl 25 (.sl 2 (.int .i64)))], .one (.v (.int .i64))], outs := [.one (.v (.int .i64))] }
def impl_Group_orderOf.enc (y : lsd (flats impl_Group_orderOf.fn.outs) × lsd (ios impl_Group_orderOf.fn.ins)) : Int := y.1.1
noncomputable def impl_Group_orderOf.f (l0_0 : List (List Int)) (a1 : Int) : Option Int := denF impl_Group_orderOf.E impl_Group_orderOf.fn impl_Group_orderOf.enc (l0_0, a1, ())
noncomputable def impl_Group_orderOf.l0 (x1 : Int) (x5 : Int) (x6 : Int) (b0_0 : List (List Int)) : Option Int := denAt impl_Group_orderOf.E impl_Group_orderOf.fn impl_Group_orderOf.enc [1, 1, 0, 1, 0] { fr := [(1, .lf (.int .i64 x1)), (2, .lf (.box 0 0)), (5, .lf (.int .i64 x5)), (6, .lf (.int .i64 x6))], ob := [(0, .box 35 false [.sl (.sl 2 (.int .i64)) b0_0])], nx := 1 }
set_option maxRecDepth 100000 in
theorem impl_Group_orderOf.f_eq (l0_0 : List (List Int)) (a1 : Int) : impl_Group_orderOf.f l0_0 a1 = impl_Group_orderOf.l0 a1 1 a1 l0_0 := by kernel_rfl
set_option maxRecDepth 100000 in
theorem impl_Group_orderOf.l0_eq (x1 : Int) (x5 : Int) (x6 : Int) (b0_0 : List (List Int)) : impl_Group_orderOf.l0 x1 x5 x6 b0_0 = if x6 = 0 then (some x5) else ((impl_Group_times.f b0_0 ([x6, x1] : List Int)).bind fun t14 => impl_Group_orderOf.l0 x1 (wrapI (x5 + 1)) t14 b0_0) := (loop_unfold _ _ _ _).trans (by kernel_rfl)
noncomputable def impl_Group_orderOf.con : Con := ⟨impl_Group_orderOf.fn.ins, impl_Group_orderOf.fn.outs, Int, fun x => impl_Group_orderOf.f x.1 x.2.1, fun r => ((r, ()), (()))⟩
theorem impl_Group_orderOf.valid : Valid Try.prog 53 impl_Group_orderOf.con := fn_valid (f := impl_Group_orderOf.fn) (E := impl_Group_orderOf.E) (enc := impl_Group_orderOf.enc) ⟨ttOk, (conCons impl_Group_times.valid conNil)⟩ (Checked.mixed Try.checked) ⟨Try.func53, by kernel_rfl, by kernel_rfl, by kernel_rfl, by kernel_rfl, by decide, by kernel_rfl, by kernel_rfl⟩ (fun _ => rfl)
end Go.Proofs.Ytlkdhmijgpadaaa.P
set_option linter.unusedVariables false
namespace Go.Proofs.Ytlkdhmijgpadaaa.P
open Go Go.RowKit Go.Proofs.Ytlkdhmijgpadaaa.D
noncomputable def impl_order.E : Env := { tt := TT, con := [], frz := [], rows := [], live := [], n := 6, pin := 0, nils := [] }
noncomputable def impl_order.fn : D.Fn := { body := Try.f52.body.getD .skip, res := Try.f52.results.toList, ins := [.agg [.v (.sl 25 (.sl 2 (.int .i64)))]], outs := [.one (.v (.int .i64))] }
def impl_order.enc (y : lsd (flats impl_order.fn.outs) × lsd (ios impl_order.fn.ins)) : Int := y.1.1
noncomputable def impl_order.f (l0_0 : List (List Int)) : Option Int := denF impl_order.E impl_order.fn impl_order.enc (l0_0, ())
set_option maxRecDepth 100000 in
theorem impl_order.f_eq (l0_0 : List (List Int)) : impl_order.f l0_0 = some (l0_0.length : Int) := by kernel_rfl
noncomputable def impl_order.con : Con := ⟨impl_order.fn.ins, impl_order.fn.outs, Int, fun x => impl_order.f x.1, fun r => ((r, ()), (()))⟩
theorem impl_order.valid : Valid Try.prog 52 impl_order.con := fn_valid (f := impl_order.fn) (E := impl_order.E) (enc := impl_order.enc) ⟨ttOk, conNil⟩ (Checked.mixed Try.checked) ⟨Try.func52, by kernel_rfl, by kernel_rfl, by kernel_rfl, by kernel_rfl, by decide, by kernel_rfl, by kernel_rfl⟩ (fun _ => rfl)
end Go.Proofs.Ytlkdhmijgpadaaa.P
set_option linter.unusedVariables false
namespace Go.Proofs.Ytlkdhmijgpadaaa.P
open Go Go.RowKit Go.Proofs.Ytlkdhmijgpadaaa.D
noncomputable def impl_areIn.E : Env := { tt := TT, con := [], frz := [], rows := [], live := [(2, [0, 7, 8, 9])], n := 21, pin := 0, nils := [] }
noncomputable def impl_areIn.fn : D.Fn := { body := Try.f153.body.getD .skip, res := Try.f153.results.toList, ins := [.one (.v (.int .i64)), .one (.v (.sl 2 (.int .i64)))], outs := [.one (.v .bool)] }
def impl_areIn.enc (y : lsd (flats impl_areIn.fn.outs) × lsd (ios impl_areIn.fn.ins)) : Bool := y.1.1
noncomputable def impl_areIn.f (a0 : Int) (l1 : List Int) : Option Bool := denF impl_areIn.E impl_areIn.fn impl_areIn.enc (a0, l1, ())
noncomputable def impl_areIn.l0 (x0 : Int) (x7 : List Int) (x8 : Int) (x9 : Int) : Option Bool := denAt impl_areIn.E impl_areIn.fn impl_areIn.enc [1, 0, 1, 0] { fr := [(0, .lf (.int .i64 x0)), (7, .lf (.sl (.int .i64) x7)), (8, .lf (.int .i64 x8)), (9, .lf (.int .i64 x9))], ob := [], nx := 0 }
set_option maxRecDepth 100000 in
theorem impl_areIn.f_eq (a0 : Int) (l1 : List Int) : impl_areIn.f a0 l1 = impl_areIn.l0 a0 l1 (l1.length : Int) 0 := by kernel_rfl
set_option maxRecDepth 100000 in
theorem impl_areIn.l0_eq (x0 : Int) (x7 : List Int) (x8 : Int) (x9 : Int) : impl_areIn.l0 x0 x7 x8 x9 = if x9 < x8 then (if 0 ≤ x9 then (if x9 < (x7.length : Int) then (if (rd x7 x9) < 0 then (some false) else (if (rd x7 x9) ≥ x0 then (some false) else (impl_areIn.l0 x0 x7 x8 (wrapI (x9 + 1))))) else none) else none) else (some true) := (loop_unfold _ _ _ _).trans (by kernel_rfl)
noncomputable def impl_areIn.con : Con := ⟨impl_areIn.fn.ins, impl_areIn.fn.outs, Bool, fun x => impl_areIn.f x.1 x.2.1, fun r => ((r, ()), (()))⟩
theorem impl_areIn.valid : Valid Try.prog 153 impl_areIn.con := fn_valid (f := impl_areIn.fn) (E := impl_areIn.E) (enc := impl_areIn.enc) ⟨ttOk, conNil⟩ (Checked.mixed Try.checked) ⟨Try.func153, by kernel_rfl, by kernel_rfl, by kernel_rfl, by kernel_rfl, by decide, by kernel_rfl, by kernel_rfl⟩ (fun _ => rfl)
end Go.Proofs.Ytlkdhmijgpadaaa.P
set_option linter.unusedVariables false
namespace Go.Proofs.Ytlkdhmijgpadaaa.P
open Go Go.RowKit Go.Proofs.Ytlkdhmijgpadaaa.D
noncomputable def slices_Index_int64.E : Env := { tt := TT, con := [], frz := [], rows := [], live := [(2, [0, 1, 7, 8])], n := 19, pin := 0, nils := [] }
noncomputable def slices_Index_int64.fn : D.Fn := { body := Try.f120.body.getD .skip, res := Try.f120.results.toList, ins := [.one (.v (.sl 2 (.int .i64))), .one (.v (.int .i64))], outs := [.one (.v (.int .i64))] }
def slices_Index_int64.enc (y : lsd (flats slices_Index_int64.fn.outs) × lsd (ios slices_Index_int64.fn.ins)) : Int := y.1.1
noncomputable def slices_Index_int64.f (l0 : List Int) (a1 : Int) : Option Int := denF slices_Index_int64.E slices_Index_int64.fn slices_Index_int64.enc (l0, a1, ())
noncomputable def slices_Index_int64.l0 (x0 : List Int) (x1 : Int) (x7 : Int) (x8 : Int) : Option Int := denAt slices_Index_int64.E slices_Index_int64.fn slices_Index_int64.enc [1, 0, 1, 0] { fr := [(0, .lf (.sl (.int .i64) x0)), (1, .lf (.int .i64 x1)), (7, .lf (.int .i64 x7)), (8, .lf (.int .i64 x8))], ob := [], nx := 0 }
set_option maxRecDepth 100000 in
theorem slices_Index_int64.f_eq (l0 : List Int) (a1 : Int) : slices_Index_int64.f l0 a1 = slices_Index_int64.l0 l0 a1 (l0.length : Int) 0 := by kernel_rfl
set_option maxRecDepth 100000 in
theorem slices_Index_int64.l0_eq (x0 : List Int) (x1 : Int) (x7 : Int) (x8 : Int) : slices_Index_int64.l0 x0 x1 x7 x8 = if x8 < x7 then (if 0 ≤ x8 then (if x8 < (x0.length : Int) then (if x1 = (rd x0 x8) then (some x8) else (slices_Index_int64.l0 x0 x1 x7 (wrapI (x8 + 1)))) else none) else none) else (some (-1)) := (loop_unfold _ _ _ _).trans (by kernel_rfl)
noncomputable def slices_Index_int64.con : Con := ⟨slices_Index_int64.fn.ins, slices_Index_int64.fn.outs, Int, fun x => slices_Index_int64.f x.1 x.2.1, fun r => ((r, ()), (()))⟩
theorem slices_Index_int64.valid : Valid Try.prog 120 slices_Index_int64.con := fn_valid (f := slices_Index_int64.fn) (E := slices_Index_int64.E) (enc := slices_Index_int64.enc) ⟨ttOk, conNil⟩ (Checked.mixed Try.checked) ⟨Try.func120, by kernel_rfl, by kernel_rfl, by kernel_rfl, by kernel_rfl, by decide, by kernel_rfl, by kernel_rfl⟩ (fun _ => rfl)
end Go.Proofs.Ytlkdhmijgpadaaa.P
set_option linter.unusedVariables false
namespace Go.Proofs.Ytlkdhmijgpadaaa.P
open Go Go.RowKit Go.Proofs.Ytlkdhmijgpadaaa.D
noncomputable def slices_Contains_int64.E : Env := { tt := TT, con := [(120, slices_Index_int64.con)], frz := [], rows := [], live := [], n := 9, pin := 0, nils := [] }
noncomputable def slices_Contains_int64.fn : D.Fn := { body := Try.f154.body.getD .skip, res := Try.f154.results.toList, ins := [.one (.v (.sl 2 (.int .i64))), .one (.v (.int .i64))], outs := [.one (.v .bool)] }
def slices_Contains_int64.enc (y : lsd (flats slices_Contains_int64.fn.outs) × lsd (ios slices_Contains_int64.fn.ins)) : Bool := y.1.1
noncomputable def slices_Contains_int64.f (l0 : List Int) (a1 : Int) : Option Bool := denF slices_Contains_int64.E slices_Contains_int64.fn slices_Contains_int64.enc (l0, a1, ())
set_option maxRecDepth 100000 in
theorem slices_Contains_int64.f_eq (l0 : List Int) (a1 : Int) : slices_Contains_int64.f l0 a1 = (slices_Index_int64.f l0 a1).bind fun t7 => some (decide (t7 ≥ 0)) := by kernel_rfl
noncomputable def slices_Contains_int64.con : Con := ⟨slices_Contains_int64.fn.ins, slices_Contains_int64.fn.outs, Bool, fun x => slices_Contains_int64.f x.1 x.2.1, fun r => ((r, ()), (()))⟩
theorem slices_Contains_int64.valid : Valid Try.prog 154 slices_Contains_int64.con := fn_valid (f := slices_Contains_int64.fn) (E := slices_Contains_int64.E) (enc := slices_Contains_int64.enc) ⟨ttOk, (conCons slices_Index_int64.valid conNil)⟩ (Checked.mixed Try.checked) ⟨Try.func154, by kernel_rfl, by kernel_rfl, by kernel_rfl, by kernel_rfl, by decide, by kernel_rfl, by kernel_rfl⟩ (fun _ => rfl)
end Go.Proofs.Ytlkdhmijgpadaaa.P
set_option linter.unusedVariables false
namespace Go.Proofs.Ytlkdhmijgpadaaa.P
open Go Go.RowKit Go.Proofs.Ytlkdhmijgpadaaa.D
noncomputable def impl_IsGroup.E : Env := { tt := TT, con := [(52, impl_order.con), (153, impl_areIn.con), (154, slices_Contains_int64.con)], frz := [], rows := [], live := [(5, [1, 3, 18, 19, 20]), (11, [1, 3, 35, 36]), (16, [1, 3, 6, 35, 36, 68, 69]), (19, [1, 3, 6, 7, 35, 36, 68, 69, 72, 73])], n := 110, pin := 0, nils := [] }
noncomputable def impl_IsGroup.fn : D.Fn := { body := Try.f114.body.getD .skip, res := Try.f114.results.toList, ins := [.agg [.v (.sl 25 (.sl 2 (.int .i64)))]], outs := [.one (.v .bool)] }
def impl_IsGroup.enc (y : lsd (flats impl_IsGroup.fn.outs) × lsd (ios impl_IsGroup.fn.ins)) : Bool := y.1.1
noncomputable def impl_IsGroup.f (l0_0 : List (List Int)) : Option Bool := denF impl_IsGroup.E impl_IsGroup.fn impl_IsGroup.enc (l0_0, ())
noncomputable def impl_IsGroup.l0 (x3 : Int) (x18 : List (List Int)) (x19 : Int) (x20 : Int) (b0_0 : List (List Int)) : Option Bool := denAt impl_IsGroup.E impl_IsGroup.fn impl_IsGroup.enc [1, 1, 1, 0, 1, 0] { fr := [(1, .lf (.box 0 0)), (3, .lf (.int .i64 x3)), (18, .lf (.sl (.sl 2 (.int .i64)) x18)), (19, .lf (.int .i64 x19)), (20, .lf (.int .i64 x20))], ob := [(0, .box 35 false [.sl (.sl 2 (.int .i64)) b0_0])], nx := 1 }
noncomputable def impl_IsGroup.l1 (x3 : Int) (x35 : Int) (x36 : Int) (b0_0 : List (List Int)) : Option Bool := denAt impl_IsGroup.E impl_IsGroup.fn impl_IsGroup.enc [1, 1, 1, 1, 0, 1, 0] { fr := [(1, .lf (.box 0 0)), (3, .lf (.int .i64 x3)), (35, .lf (.int .i64 x35)), (36, .lf (.int .i64 x36))], ob := [(0, .box 35 false [.sl (.sl 2 (.int .i64)) b0_0])], nx := 1 }
noncomputable def impl_IsGroup.l2 (x3 : Int) (x6 : Int) (x35 : Int) (x36 : Int) (x68 : Int) (x69 : Int) (b0_0 : List (List Int)) : Option Bool := denAt impl_IsGroup.E impl_IsGroup.fn impl_IsGroup.enc [1, 1, 1, 1, 0, 1, 0, 0, 1, 1, 0, 0, 1, 1, 1, 0] { fr := [(1, .lf (.box 0 0)), (3, .lf (.int .i64 x3)), (6, .lf (.int .i64 x6)), (35, .lf (.int .i64 x35)), (36, .lf (.int .i64 x36)), (68, .lf (.int .i64 x68)), (69, .lf (.int .i64 x69))], ob := [(0, .box 35 false [.sl (.sl 2 (.int .i64)) b0_0])], nx := 1 }
noncomputable def impl_IsGroup.l3 (x3 : Int) (x6 : Int) (x7 : Int) (x35 : Int) (x36 : Int) (x68 : Int) (x69 : Int) (x72 : Int) (x73 : Int) (b0_0 : List (List Int)) : Option Bool := denAt impl_IsGroup.E impl_IsGroup.fn impl_IsGroup.enc [1, 1, 1, 1, 0, 1, 0, 0, 1, 1, 0, 0, 1, 1, 1, 0, 0, 1, 1, 0, 0, 1, 1, 0] { fr := [(1, .lf (.box 0 0)), (3, .lf (.int .i64 x3)), (6, .lf (.int .i64 x6)), (7, .lf (.int .i64 x7)), (35, .lf (.int .i64 x35)), (36, .lf (.int .i64 x36)), (68, .lf (.int .i64 x68)), (69, .lf (.int .i64 x69)), (72, .lf (.int .i64 x72)), (73, .lf (.int .i64 x73))], ob := [(0, .box 35 false [.sl (.sl 2 (.int .i64)) b0_0])], nx := 1 }
set_option maxRecDepth 100000 in
theorem impl_IsGroup.f_eq (l0_0 : List (List Int)) : impl_IsGroup.f l0_0 = (impl_order.f l0_0).bind fun t10 => if t10 < 1 then (some false) else (if t10 > 8 then (some false) else (impl_IsGroup.l0 t10 l0_0 (l0_0.length : Int) 0 l0_0)) := by kernel_rfl
set_option maxRecDepth 100000 in
theorem impl_IsGroup.l0_eq (x3 : Int) (x18 : List (List Int)) (x19 : Int) (x20 : Int) (b0_0 : List (List Int)) : impl_IsGroup.l0 x3 x18 x19 x20 b0_0 = if x20 < x19 then (if 0 ≤ x20 then (if x20 < (x18.length : Int) then (if ((row x18 x20).length : Int) = x3 then ((impl_areIn.f x3 (row x18 x20)).bind fun t31 => if t31 = true then (impl_IsGroup.l0 x3 x18 x19 (wrapI (x20 + 1)) b0_0) else (some false)) else (some false)) else none) else none) else (impl_IsGroup.l1 x3 x3 0 b0_0) := (loop_unfold _ _ _ _).trans (by kernel_rfl)
set_option maxRecDepth 100000 in
theorem impl_IsGroup.l1_eq (x3 : Int) (x35 : Int) (x36 : Int) (b0_0 : List (List Int)) : impl_IsGroup.l1 x3 x35 x36 b0_0 = if x36 < x35 then (if 0 < (b0_0.length : Int) then (if 0 ≤ x36 then (if x36 < ((row b0_0 0).length : Int) then (if (T b0_0 0 x36) = x36 then (if 0 ≤ x36 then (if x36 < (b0_0.length : Int) then (if 0 < ((row b0_0 x36).length : Int) then (if (T b0_0 x36 0) = x36 then (if 0 ≤ x36 then (if x36 < (b0_0.length : Int) then ((slices_Contains_int64.f (row b0_0 x36) 0).bind fun t65 => if t65 = true then (impl_IsGroup.l2 x3 x36 x35 x36 x3 0 b0_0) else (some false)) else none) else none) else (some false)) else none) else none) else none) else (some false)) else none) else none) else none) else (some true) := (loop_unfold _ _ _ _).trans (by kernel_rfl)
set_option maxRecDepth 100000 in
theorem impl_IsGroup.l2_eq (x3 : Int) (x6 : Int) (x35 : Int) (x36 : Int) (x68 : Int) (x69 : Int) (b0_0 : List (List Int)) : impl_IsGroup.l2 x3 x6 x35 x36 x68 x69 b0_0 = if x69 < x68 then (impl_IsGroup.l3 x3 x6 x69 x35 x36 x68 x69 x3 0 b0_0) else (impl_IsGroup.l1 x3 x35 (wrapI (x36 + 1)) b0_0) := (loop_unfold _ _ _ _).trans (by kernel_rfl)
set_option maxRecDepth 100000 in
theorem impl_IsGroup.l3_eq (x3 : Int) (x6 : Int) (x7 : Int) (x35 : Int) (x36 : Int) (x68 : Int) (x69 : Int) (x72 : Int) (x73 : Int) (b0_0 : List (List Int)) : impl_IsGroup.l3 x3 x6 x7 x35 x36 x68 x69 x72 x73 b0_0 = if x73 < x72 then (if 0 ≤ x6 then (if x6 < (b0_0.length : Int) then (if 0 ≤ x7 then (if x7 < ((row b0_0 x6).length : Int) then (if 0 ≤ T b0_0 x6 x7 then (if T b0_0 x6 x7 < (b0_0.length : Int) then (if 0 ≤ x73 then (if x73 < ((row b0_0 (T b0_0 x6 x7)).length : Int) then (if 0 ≤ x6 then (if x6 < (b0_0.length : Int) then (if 0 ≤ x7 then (if x7 < (b0_0.length : Int) then (if 0 ≤ x73 then (if x73 < ((row b0_0 x7).length : Int) then (if 0 ≤ T b0_0 x7 x73 then (if T b0_0 x7 x73 < ((row b0_0 x6).length : Int) then (if (T b0_0 (T b0_0 x6 x7) x73) = (T b0_0 x6 (T b0_0 x7 x73)) then (impl_IsGroup.l3 x3 x6 x7 x35 x36 x68 x69 x72 (wrapI (x73 + 1)) b0_0) else (some false)) else none) else none) else none) else none) else none) else none) else none) else none) else none) else none) else none) else none) else none) else none) else none) else none) else (impl_IsGroup.l2 x3 x6 x35 x36 x68 (wrapI (x69 + 1)) b0_0) := (loop_unfold _ _ _ _).trans (by kernel_rfl)
noncomputable def impl_IsGroup.con : Con := ⟨impl_IsGroup.fn.ins, impl_IsGroup.fn.outs, Bool, fun x => impl_IsGroup.f x.1, fun r => ((r, ()), (()))⟩
theorem impl_IsGroup.valid : Valid Try.prog 114 impl_IsGroup.con := fn_valid (f := impl_IsGroup.fn) (E := impl_IsGroup.E) (enc := impl_IsGroup.enc) ⟨ttOk, (conCons impl_order.valid (conCons impl_areIn.valid (conCons slices_Contains_int64.valid conNil)))⟩ (Checked.mixed Try.checked) ⟨Try.func114, by kernel_rfl, by kernel_rfl, by kernel_rfl, by kernel_rfl, by decide, by kernel_rfl, by kernel_rfl⟩ (fun _ => rfl)
end Go.Proofs.Ytlkdhmijgpadaaa.P
