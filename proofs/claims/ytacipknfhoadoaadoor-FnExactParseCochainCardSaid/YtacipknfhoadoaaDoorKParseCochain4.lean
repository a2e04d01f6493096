/- What the proof of the law ParseCochain stands on, part 4: words, each Go function's Lean function, and that the Go code comes to its answers; no condition. (Packed by wip/myprint/pack.py out of what the kit's printer wrote, its words among it, partly by our patches of it, and out of texts of this session.) -/
import Derived.Test.YtacipknfhoadoaaDoorKParseCochain3
set_option linter.unusedVariables false
namespace Go.Proofs.YtacipknfhoadoaaDoor.P
open Go Go.RowKit Go.Proofs.YtacipknfhoadoaaDoor.D
noncomputable def laws_toInt64SS.E : Env := { tt := TT, con := [(27, laws_toInt64S.con)], frz := [], rows := [], live := [(3, [0, 3, 4])], n := 23, pin := 0, nils := [] }
noncomputable def laws_toInt64SS.fn : D.Fn := { body := Tryd.f26.body.getD .skip, res := Tryd.f26.results.toList, ins := [.one (.v (.sl 25 (.sl 2 (.int .i64))))], outs := [.one (.own 25 true (.sl 2 (.int .i64)))] }
def laws_toInt64SS.enc (y : lsd (flats laws_toInt64SS.fn.outs) × lsd (ios laws_toInt64SS.fn.ins)) : (List (List Int)) := y.1.1
noncomputable def laws_toInt64SS.f (l0 : List (List Int)) : Option (List (List Int)) := denF laws_toInt64SS.E laws_toInt64SS.fn laws_toInt64SS.enc (l0, ())
noncomputable def laws_toInt64SS.l0 (x0 : List (List Int)) (x4 : Int) (r0 : List (List Int)) : Option (List (List Int)) := denAt laws_toInt64SS.E laws_toInt64SS.fn laws_toInt64SS.enc [1, 1, 0, 1, 0] { fr := [(0, .lf (.sl (.sl 2 (.int .i64)) x0)), (3, .lf (.own 0)), (4, .lf (.int .i64 x4))], ob := [(0, .row 25 true (.sl 2 (.int .i64)) r0)], nx := 1 }
set_option maxRecDepth 100000 in
theorem laws_toInt64SS.f_eq (l0 : List (List Int)) : laws_toInt64SS.f l0 = if (l0.length : Int) = (l0.length : Int) then (if 0 ≤ (l0.length : Int) then (if ((l0.length : Int) : Int).toNat ≤ 5864062014805 then (laws_toInt64SS.l0 l0 0 (List.replicate ((l0.length : Int) : Int).toNat ([] : List Int))) else none) else none) else none := by kernel_rfl
set_option maxRecDepth 100000 in
theorem laws_toInt64SS.l0_eq (x0 : List (List Int)) (x4 : Int) (r0 : List (List Int)) : laws_toInt64SS.l0 x0 x4 r0 = if x4 < (x0.length : Int) then (if 0 ≤ x4 then (if x4 < (x0.length : Int) then ((laws_toInt64S.f (row x0 x4)).bind fun t20 => if 0 ≤ x4 then (if x4 < (r0.length : Int) then (if 0 ≤ x4 then (if x4 < (r0.length : Int) then (laws_toInt64SS.l0 x0 (wrapI (x4 + 1)) (r0.set (x4 : Int).toNat t20)) else none) else none) else none) else none) else none) else none) else (some r0) := (loop_unfold _ _ _ _).trans (by kernel_rfl)
noncomputable def laws_toInt64SS.con : Con := ⟨laws_toInt64SS.fn.ins, laws_toInt64SS.fn.outs, (List (List Int)), fun x => laws_toInt64SS.f x.1, fun r => ((r, ()), (()))⟩
theorem laws_toInt64SS.valid : Valid Tryd.prog 26 laws_toInt64SS.con := fn_valid (f := laws_toInt64SS.fn) (E := laws_toInt64SS.E) (enc := laws_toInt64SS.enc) ⟨ttOk, (conCons laws_toInt64S.valid conNil)⟩ (Checked.mixed Tryd.checked) ⟨Tryd.func26, by kernel_rfl, by kernel_rfl, by kernel_rfl, by kernel_rfl, by decide, by kernel_rfl, by kernel_rfl⟩ (fun _ => rfl)
end Go.Proofs.YtacipknfhoadoaaDoor.P
set_option linter.unusedVariables false
namespace Go.Proofs.YtacipknfhoadoaaDoor.P
open Go Go.RowKit Go.Proofs.YtacipknfhoadoaaDoor.D
noncomputable def laws_toGroup.E : Env := { tt := TT, con := [(26, laws_toInt64SS.con)], frz := [], rows := [], live := [], n := 9, pin := 0, nils := [] }
noncomputable def laws_toGroup.fn : D.Fn := { body := Tryd.f9.body.getD .skip, res := Tryd.f9.results.toList, ins := [.agg [.v (.sl 25 (.sl 2 (.int .i64)))]], outs := [.agg [.own 25 true (.sl 2 (.int .i64))]] }
def laws_toGroup.enc (y : lsd (flats laws_toGroup.fn.outs) × lsd (ios laws_toGroup.fn.ins)) : (List (List Int)) := y.1.1
noncomputable def laws_toGroup.f (l0_0 : List (List Int)) : Option (List (List Int)) := denF laws_toGroup.E laws_toGroup.fn laws_toGroup.enc (l0_0, ())
set_option maxRecDepth 100000 in
theorem laws_toGroup.f_eq (l0_0 : List (List Int)) : laws_toGroup.f l0_0 = (laws_toInt64SS.f l0_0).bind fun t6 => some t6 := by kernel_rfl
noncomputable def laws_toGroup.con : Con := ⟨laws_toGroup.fn.ins, laws_toGroup.fn.outs, (List (List Int)), fun x => laws_toGroup.f x.1, fun r => ((r, ()), (()))⟩
theorem laws_toGroup.valid : Valid Tryd.prog 9 laws_toGroup.con := fn_valid (f := laws_toGroup.fn) (E := laws_toGroup.E) (enc := laws_toGroup.enc) ⟨ttOk, (conCons laws_toInt64SS.valid conNil)⟩ (Checked.mixed Tryd.checked) ⟨Tryd.func9, by kernel_rfl, by kernel_rfl, by kernel_rfl, by kernel_rfl, by decide, by kernel_rfl, by kernel_rfl⟩ (fun _ => rfl)
end Go.Proofs.YtacipknfhoadoaaDoor.P
set_option linter.unusedVariables false
namespace Go.Proofs.YtacipknfhoadoaaDoor.P
open Go Go.RowKit Go.Proofs.YtacipknfhoadoaaDoor.D
noncomputable def laws_toModule.E : Env := { tt := TT, con := [(27, laws_toInt64S.con)], frz := [], rows := [], live := [], n := 12, pin := 0, nils := [] }
noncomputable def laws_toModule.fn : D.Fn := { body := Tryd.f10.body.getD .skip, res := Tryd.f10.results.toList, ins := [.agg [.v (.int .i64), .v (.sl 2 (.int .i64))]], outs := [.agg [.v (.int .i64), .own 2 true (.int .i64)]] }
def laws_toModule.enc (y : lsd (flats laws_toModule.fn.outs) × lsd (ios laws_toModule.fn.ins)) : Int × (List Int) := (y.1.1, y.1.2.1)
noncomputable def laws_toModule.f (a0_0 : Int) (l0_1 : List Int) : Option (Int × (List Int)) := denF laws_toModule.E laws_toModule.fn laws_toModule.enc (a0_0, l0_1, ())
set_option maxRecDepth 100000 in
theorem laws_toModule.f_eq (a0_0 : Int) (l0_1 : List Int) : laws_toModule.f a0_0 l0_1 = (laws_toInt64S.f l0_1).bind fun t9 => some (a0_0, t9) := by kernel_rfl
noncomputable def laws_toModule.con : Con := ⟨laws_toModule.fn.ins, laws_toModule.fn.outs, Int × (List Int), fun x => laws_toModule.f x.1 x.2.1, fun r => ((r.1, r.2, ()), (()))⟩
theorem laws_toModule.valid : Valid Tryd.prog 10 laws_toModule.con := fn_valid (f := laws_toModule.fn) (E := laws_toModule.E) (enc := laws_toModule.enc) ⟨ttOk, (conCons laws_toInt64S.valid conNil)⟩ (Checked.mixed Tryd.checked) ⟨Tryd.func10, by kernel_rfl, by kernel_rfl, by kernel_rfl, by kernel_rfl, by decide, by kernel_rfl, by kernel_rfl⟩ (fun _ => rfl)
end Go.Proofs.YtacipknfhoadoaaDoor.P
set_option linter.unusedVariables false
namespace Go.Proofs.YtacipknfhoadoaaDoor.P
open Go Go.RowKit Go.Proofs.YtacipknfhoadoaaDoor.D
noncomputable def laws_eqInt64S.E : Env := { tt := TT, con := [], frz := [], rows := [], live := [(4, [0, 1, 5])], n := 26, pin := 0, nils := [] }
noncomputable def laws_eqInt64S.fn : D.Fn := { body := Tryd.f31.body.getD .skip, res := Tryd.f31.results.toList, ins := [.one (.v (.sl 2 (.int .i64))), .one (.v (.sl 2 (.int .i64)))], outs := [.one (.v .bool)] }
def laws_eqInt64S.enc (y : lsd (flats laws_eqInt64S.fn.outs) × lsd (ios laws_eqInt64S.fn.ins)) : Bool := y.1.1
noncomputable def laws_eqInt64S.f (l0 : List Int) (l1 : List Int) : Option Bool := denF laws_eqInt64S.E laws_eqInt64S.fn laws_eqInt64S.enc (l0, l1, ())
noncomputable def laws_eqInt64S.l0 (x0 : List Int) (x1 : List Int) (x5 : Int) : Option Bool := denAt laws_eqInt64S.E laws_eqInt64S.fn laws_eqInt64S.enc [1, 1, 0, 1, 0] { fr := [(0, .lf (.sl (.int .i64) x0)), (1, .lf (.sl (.int .i64) x1)), (5, .lf (.int .i64 x5))], ob := [], nx := 0 }
set_option maxRecDepth 100000 in
theorem laws_eqInt64S.f_eq (l0 : List Int) (l1 : List Int) : laws_eqInt64S.f l0 l1 = if (l0.length : Int) = (l1.length : Int) then (laws_eqInt64S.l0 l0 l1 0) else (some false) := by kernel_rfl
set_option maxRecDepth 100000 in
theorem laws_eqInt64S.l0_eq (x0 : List Int) (x1 : List Int) (x5 : Int) : laws_eqInt64S.l0 x0 x1 x5 = if x5 < (x0.length : Int) then (if 0 ≤ x5 then (if x5 < (x0.length : Int) then (if 0 ≤ x5 then (if x5 < (x1.length : Int) then (if (rd x0 x5) = (rd x1 x5) then (laws_eqInt64S.l0 x0 x1 (wrapI (x5 + 1))) else (some false)) else none) else none) else none) else none) else (some true) := (loop_unfold _ _ _ _).trans (by kernel_rfl)
noncomputable def laws_eqInt64S.con : Con := ⟨laws_eqInt64S.fn.ins, laws_eqInt64S.fn.outs, Bool, fun x => laws_eqInt64S.f x.1 x.2.1, fun r => ((r, ()), (()))⟩
theorem laws_eqInt64S.valid : Valid Tryd.prog 31 laws_eqInt64S.con := fn_valid (f := laws_eqInt64S.fn) (E := laws_eqInt64S.E) (enc := laws_eqInt64S.enc) ⟨ttOk, conNil⟩ (Checked.mixed Tryd.checked) ⟨Tryd.func31, by kernel_rfl, by kernel_rfl, by kernel_rfl, by kernel_rfl, by decide, by kernel_rfl, by kernel_rfl⟩ (fun _ => rfl)
end Go.Proofs.YtacipknfhoadoaaDoor.P
set_option linter.unusedVariables false
namespace Go.Proofs.YtacipknfhoadoaaDoor.P
open Go Go.RowKit Go.Proofs.YtacipknfhoadoaaDoor.D
noncomputable def laws_eqInt64SS.E : Env := { tt := TT, con := [(31, laws_eqInt64S.con)], frz := [], rows := [], live := [(4, [0, 1, 5])], n := 27, pin := 0, nils := [] }
noncomputable def laws_eqInt64SS.fn : D.Fn := { body := Tryd.f30.body.getD .skip, res := Tryd.f30.results.toList, ins := [.one (.v (.sl 25 (.sl 2 (.int .i64)))), .one (.v (.sl 25 (.sl 2 (.int .i64))))], outs := [.one (.v .bool)] }
def laws_eqInt64SS.enc (y : lsd (flats laws_eqInt64SS.fn.outs) × lsd (ios laws_eqInt64SS.fn.ins)) : Bool := y.1.1
noncomputable def laws_eqInt64SS.f (l0 : List (List Int)) (l1 : List (List Int)) : Option Bool := denF laws_eqInt64SS.E laws_eqInt64SS.fn laws_eqInt64SS.enc (l0, l1, ())
noncomputable def laws_eqInt64SS.l0 (x0 : List (List Int)) (x1 : List (List Int)) (x5 : Int) : Option Bool := denAt laws_eqInt64SS.E laws_eqInt64SS.fn laws_eqInt64SS.enc [1, 1, 0, 1, 0] { fr := [(0, .lf (.sl (.sl 2 (.int .i64)) x0)), (1, .lf (.sl (.sl 2 (.int .i64)) x1)), (5, .lf (.int .i64 x5))], ob := [], nx := 0 }
set_option maxRecDepth 100000 in
theorem laws_eqInt64SS.f_eq (l0 : List (List Int)) (l1 : List (List Int)) : laws_eqInt64SS.f l0 l1 = if (l0.length : Int) = (l1.length : Int) then (laws_eqInt64SS.l0 l0 l1 0) else (some false) := by kernel_rfl
set_option maxRecDepth 100000 in
theorem laws_eqInt64SS.l0_eq (x0 : List (List Int)) (x1 : List (List Int)) (x5 : Int) : laws_eqInt64SS.l0 x0 x1 x5 = if x5 < (x0.length : Int) then (if 0 ≤ x5 then (if x5 < (x0.length : Int) then (if 0 ≤ x5 then (if x5 < (x1.length : Int) then ((laws_eqInt64S.f (row x0 x5) (row x1 x5)).bind fun t25 => if t25 = true then (laws_eqInt64SS.l0 x0 x1 (wrapI (x5 + 1))) else (some false)) else none) else none) else none) else none) else (some true) := (loop_unfold _ _ _ _).trans (by kernel_rfl)
noncomputable def laws_eqInt64SS.con : Con := ⟨laws_eqInt64SS.fn.ins, laws_eqInt64SS.fn.outs, Bool, fun x => laws_eqInt64SS.f x.1 x.2.1, fun r => ((r, ()), (()))⟩
theorem laws_eqInt64SS.valid : Valid Tryd.prog 30 laws_eqInt64SS.con := fn_valid (f := laws_eqInt64SS.fn) (E := laws_eqInt64SS.E) (enc := laws_eqInt64SS.enc) ⟨ttOk, (conCons laws_eqInt64S.valid conNil)⟩ (Checked.mixed Tryd.checked) ⟨Tryd.func30, by kernel_rfl, by kernel_rfl, by kernel_rfl, by kernel_rfl, by decide, by kernel_rfl, by kernel_rfl⟩ (fun _ => rfl)
end Go.Proofs.YtacipknfhoadoaaDoor.P
set_option linter.unusedVariables false
namespace Go.Proofs.YtacipknfhoadoaaDoor.P
open Go Go.RowKit Go.Proofs.YtacipknfhoadoaaDoor.D
noncomputable def laws_eqGroup.E : Env := { tt := TT, con := [(30, laws_eqInt64SS.con)], frz := [], rows := [], live := [], n := 11, pin := 0, nils := [] }
noncomputable def laws_eqGroup.fn : D.Fn := { body := Tryd.f13.body.getD .skip, res := Tryd.f13.results.toList, ins := [.agg [.v (.sl 25 (.sl 2 (.int .i64)))], .agg [.v (.sl 25 (.sl 2 (.int .i64)))]], outs := [.one (.v .bool)] }
def laws_eqGroup.enc (y : lsd (flats laws_eqGroup.fn.outs) × lsd (ios laws_eqGroup.fn.ins)) : Bool := y.1.1
noncomputable def laws_eqGroup.f (l0_0 : List (List Int)) (l1_0 : List (List Int)) : Option Bool := denF laws_eqGroup.E laws_eqGroup.fn laws_eqGroup.enc (l0_0, l1_0, ())
set_option maxRecDepth 100000 in
theorem laws_eqGroup.f_eq (l0_0 : List (List Int)) (l1_0 : List (List Int)) : laws_eqGroup.f l0_0 l1_0 = (laws_eqInt64SS.f l0_0 l1_0).bind fun t9 => if t9 = true then (some true) else (some false) := by kernel_rfl
noncomputable def laws_eqGroup.con : Con := ⟨laws_eqGroup.fn.ins, laws_eqGroup.fn.outs, Bool, fun x => laws_eqGroup.f x.1 x.2.1, fun r => ((r, ()), (()))⟩
theorem laws_eqGroup.valid : Valid Tryd.prog 13 laws_eqGroup.con := fn_valid (f := laws_eqGroup.fn) (E := laws_eqGroup.E) (enc := laws_eqGroup.enc) ⟨ttOk, (conCons laws_eqInt64SS.valid conNil)⟩ (Checked.mixed Tryd.checked) ⟨Tryd.func13, by kernel_rfl, by kernel_rfl, by kernel_rfl, by kernel_rfl, by decide, by kernel_rfl, by kernel_rfl⟩ (fun _ => rfl)
end Go.Proofs.YtacipknfhoadoaaDoor.P
set_option linter.unusedVariables false
namespace Go.Proofs.YtacipknfhoadoaaDoor.P
open Go Go.RowKit Go.Proofs.YtacipknfhoadoaaDoor.D
noncomputable def laws_eqModule.E : Env := { tt := TT, con := [(31, laws_eqInt64S.con)], frz := [], rows := [], live := [], n := 16, pin := 0, nils := [] }
noncomputable def laws_eqModule.fn : D.Fn := { body := Tryd.f14.body.getD .skip, res := Tryd.f14.results.toList, ins := [.agg [.v (.int .i64), .v (.sl 2 (.int .i64))], .agg [.v (.int .i64), .v (.sl 2 (.int .i64))]], outs := [.one (.v .bool)] }
def laws_eqModule.enc (y : lsd (flats laws_eqModule.fn.outs) × lsd (ios laws_eqModule.fn.ins)) : Bool := y.1.1
noncomputable def laws_eqModule.f (a0_0 : Int) (l0_1 : List Int) (a1_0 : Int) (l1_1 : List Int) : Option Bool := denF laws_eqModule.E laws_eqModule.fn laws_eqModule.enc (a0_0, l0_1, a1_0, l1_1, ())
set_option maxRecDepth 100000 in
theorem laws_eqModule.f_eq (a0_0 : Int) (l0_1 : List Int) (a1_0 : Int) (l1_1 : List Int) : laws_eqModule.f a0_0 l0_1 a1_0 l1_1 = if a0_0 = a1_0 then ((laws_eqInt64S.f l0_1 l1_1).bind fun t14 => if t14 = true then (some true) else (some false)) else (some false) := by kernel_rfl
noncomputable def laws_eqModule.con : Con := ⟨laws_eqModule.fn.ins, laws_eqModule.fn.outs, Bool, fun x => laws_eqModule.f x.1 x.2.1 x.2.2.1 x.2.2.2.1, fun r => ((r, ()), (()))⟩
theorem laws_eqModule.valid : Valid Tryd.prog 14 laws_eqModule.con := fn_valid (f := laws_eqModule.fn) (E := laws_eqModule.E) (enc := laws_eqModule.enc) ⟨ttOk, (conCons laws_eqInt64S.valid conNil)⟩ (Checked.mixed Tryd.checked) ⟨Tryd.func14, by kernel_rfl, by kernel_rfl, by kernel_rfl, by kernel_rfl, by decide, by kernel_rfl, by kernel_rfl⟩ (fun _ => rfl)
end Go.Proofs.YtacipknfhoadoaaDoor.P
set_option linter.unusedVariables false
namespace Go.Proofs.YtacipknfhoadoaaDoor.P
open Go Go.RowKit Go.Proofs.YtacipknfhoadoaaDoor.D
noncomputable def laws_eqCochain.E : Env := { tt := TT, con := [(31, laws_eqInt64S.con)], frz := [], rows := [], live := [], n := 16, pin := 0, nils := [] }
noncomputable def laws_eqCochain.fn : D.Fn := { body := Tryd.f15.body.getD .skip, res := Tryd.f15.results.toList, ins := [.agg [.v (.int .i64), .v (.sl 2 (.int .i64))], .agg [.v (.int .i64), .v (.sl 2 (.int .i64))]], outs := [.one (.v .bool)] }
def laws_eqCochain.enc (y : lsd (flats laws_eqCochain.fn.outs) × lsd (ios laws_eqCochain.fn.ins)) : Bool := y.1.1
noncomputable def laws_eqCochain.f (a0_0 : Int) (l0_1 : List Int) (a1_0 : Int) (l1_1 : List Int) : Option Bool := denF laws_eqCochain.E laws_eqCochain.fn laws_eqCochain.enc (a0_0, l0_1, a1_0, l1_1, ())
set_option maxRecDepth 100000 in
theorem laws_eqCochain.f_eq (a0_0 : Int) (l0_1 : List Int) (a1_0 : Int) (l1_1 : List Int) : laws_eqCochain.f a0_0 l0_1 a1_0 l1_1 = if a0_0 = a1_0 then ((laws_eqInt64S.f l0_1 l1_1).bind fun t14 => if t14 = true then (some true) else (some false)) else (some false) := by kernel_rfl
noncomputable def laws_eqCochain.con : Con := ⟨laws_eqCochain.fn.ins, laws_eqCochain.fn.outs, Bool, fun x => laws_eqCochain.f x.1 x.2.1 x.2.2.1 x.2.2.2.1, fun r => ((r, ()), (()))⟩
theorem laws_eqCochain.valid : Valid Tryd.prog 15 laws_eqCochain.con := fn_valid (f := laws_eqCochain.fn) (E := laws_eqCochain.E) (enc := laws_eqCochain.enc) ⟨ttOk, (conCons laws_eqInt64S.valid conNil)⟩ (Checked.mixed Tryd.checked) ⟨Tryd.func15, by kernel_rfl, by kernel_rfl, by kernel_rfl, by kernel_rfl, by decide, by kernel_rfl, by kernel_rfl⟩ (fun _ => rfl)
end Go.Proofs.YtacipknfhoadoaaDoor.P
set_option linter.unusedVariables false
namespace Go.Proofs.YtacipknfhoadoaaDoor.P
open Go Go.RowKit Go.Proofs.YtacipknfhoadoaaDoor.D
noncomputable def spec_l01In.E : Env := { tt := TT, con := [], frz := [], rows := [], live := [], n := 15, pin := 0, nils := [] }
noncomputable def spec_l01In.fn : D.Fn := { body := Tryd.f54.body.getD .skip, res := Tryd.f54.results.toList, ins := [.one (.v (.int .i64)), .one (.v (.int .i64)), .one (.v (.int .i64))], outs := [.one (.v .bool)] }
def spec_l01In.enc (y : lsd (flats spec_l01In.fn.outs) × lsd (ios spec_l01In.fn.ins)) : Bool := y.1.1
noncomputable def spec_l01In.f (a0 : Int) (a1 : Int) (a2 : Int) : Option Bool := denF spec_l01In.E spec_l01In.fn spec_l01In.enc (a0, a1, a2, ())
set_option maxRecDepth 100000 in
theorem spec_l01In.f_eq (a0 : Int) (a1 : Int) (a2 : Int) : spec_l01In.f a0 a1 a2 = if a0 ≥ a1 then (some (decide (a0 ≤ a2))) else (some false) := by kernel_rfl
noncomputable def spec_l01In.con : Con := ⟨spec_l01In.fn.ins, spec_l01In.fn.outs, Bool, fun x => spec_l01In.f x.1 x.2.1 x.2.2.1, fun r => ((r, ()), (()))⟩
theorem spec_l01In.valid : Valid Tryd.prog 54 spec_l01In.con := fn_valid (f := spec_l01In.fn) (E := spec_l01In.E) (enc := spec_l01In.enc) ⟨ttOk, conNil⟩ (Checked.mixed Tryd.checked) ⟨Tryd.func54, by kernel_rfl, by kernel_rfl, by kernel_rfl, by kernel_rfl, by decide, by kernel_rfl, by kernel_rfl⟩ (fun _ => rfl)
end Go.Proofs.YtacipknfhoadoaaDoor.P
set_option linter.unusedVariables false
namespace Go.Proofs.YtacipknfhoadoaaDoor.P
open Go Go.RowKit Go.Proofs.YtacipknfhoadoaaDoor.D
noncomputable def spec_l01Is.E : Env := { tt := TT, con := [(54, spec_l01In.con)], frz := [], rows := [], live := [(5, [1, 3, 4]), (10, [1, 3, 4, 5]), (15, [1, 3, 6]), (21, [1, 3, 6, 7, 8]), (25, [1, 3, 6, 7, 8, 9])], n := 137, pin := 0, nils := [7] }
noncomputable def spec_l01Is.fn : D.Fn := { body := Tryd.f39.body.getD .skip, res := Tryd.f39.results.toList, ins := [.agg [.v (.sl 25 (.sl 2 (.int .i64)))]], outs := [.one (.v .bool)] }
def spec_l01Is.enc (y : lsd (flats spec_l01Is.fn.outs) × lsd (ios spec_l01Is.fn.ins)) : Bool := y.1.1
noncomputable def spec_l01Is.f (l0_0 : List (List Int)) : Option Bool := denF spec_l01Is.E spec_l01Is.fn spec_l01Is.enc (l0_0, ())
noncomputable def spec_l01Is.l0 (x3 : Int) (x4 : Int) (b0_0 : List (List Int)) : Option Bool := denAt spec_l01Is.E spec_l01Is.fn spec_l01Is.enc [1, 1, 1, 0, 1, 0] { fr := [(1, .lf (.box 0 0)), (3, .lf (.int .i64 x3)), (4, .lf (.int .i64 x4))], ob := [(0, .box 35 false [.sl (.sl 2 (.int .i64)) b0_0])], nx := 1 }
noncomputable def spec_l01Is.l1 (x3 : Int) (x4 : Int) (x5 : Int) (b0_0 : List (List Int)) : Option Bool := denAt spec_l01Is.E spec_l01Is.fn spec_l01Is.enc [1, 1, 1, 0, 1, 0, 0, 1, 0, 0, 1, 1, 0] { fr := [(1, .lf (.box 0 0)), (3, .lf (.int .i64 x3)), (4, .lf (.int .i64 x4)), (5, .lf (.int .i64 x5))], ob := [(0, .box 35 false [.sl (.sl 2 (.int .i64)) b0_0])], nx := 1 }
noncomputable def spec_l01Is.l2 (x3 : Int) (x6 : Int) (b0_0 : List (List Int)) : Option Bool := denAt spec_l01Is.E spec_l01Is.fn spec_l01Is.enc [1, 1, 1, 1, 0, 1, 0] { fr := [(1, .lf (.box 0 0)), (3, .lf (.int .i64 x3)), (6, .lf (.int .i64 x6))], ob := [(0, .box 35 false [.sl (.sl 2 (.int .i64)) b0_0])], nx := 1 }
noncomputable def spec_l01Is.l3 (x3 : Int) (x6 : Int) (x7 : Bool) (x8 : Int) (b0_0 : List (List Int)) : Option Bool := denAt spec_l01Is.E spec_l01Is.fn spec_l01Is.enc [1, 1, 1, 1, 0, 1, 0, 0, 1, 0, 0, 1, 1, 0, 1, 0] { fr := [(1, .lf (.box 0 0)), (3, .lf (.int .i64 x3)), (6, .lf (.int .i64 x6)), (7, .lf (boolLf x7)), (8, .lf (.int .i64 x8))], ob := [(0, .box 35 false [.sl (.sl 2 (.int .i64)) b0_0])], nx := 1 }
noncomputable def spec_l01Is.l4 (x3 : Int) (x6 : Int) (x7 : Bool) (x8 : Int) (x9 : Int) (b0_0 : List (List Int)) : Option Bool := denAt spec_l01Is.E spec_l01Is.fn spec_l01Is.enc [1, 1, 1, 1, 0, 1, 0, 0, 1, 0, 0, 1, 1, 0, 1, 0, 0, 1, 0, 0, 1, 1, 0] { fr := [(1, .lf (.box 0 0)), (3, .lf (.int .i64 x3)), (6, .lf (.int .i64 x6)), (7, .lf (boolLf x7)), (8, .lf (.int .i64 x8)), (9, .lf (.int .i64 x9))], ob := [(0, .box 35 false [.sl (.sl 2 (.int .i64)) b0_0])], nx := 1 }
set_option maxRecDepth 100000 in
theorem spec_l01Is.f_eq (l0_0 : List (List Int)) : spec_l01Is.f l0_0 = (spec_l01In.f (l0_0.length : Int) 1 8).bind fun t14 => if t14 = true then (spec_l01Is.l0 (l0_0.length : Int) 0 l0_0) else (some false) := by kernel_rfl
set_option maxRecDepth 100000 in
theorem spec_l01Is.l0_eq (x3 : Int) (x4 : Int) (b0_0 : List (List Int)) : spec_l01Is.l0 x3 x4 b0_0 = if x4 < x3 then (if 0 ≤ x4 then (if x4 < (b0_0.length : Int) then (if ((row b0_0 x4).length : Int) = x3 then (spec_l01Is.l1 x3 x4 0 b0_0) else (some false)) else none) else none) else (spec_l01Is.l2 x3 0 b0_0) := (loop_unfold _ _ _ _).trans (by kernel_rfl)
set_option maxRecDepth 100000 in
theorem spec_l01Is.l1_eq (x3 : Int) (x4 : Int) (x5 : Int) (b0_0 : List (List Int)) : spec_l01Is.l1 x3 x4 x5 b0_0 = if x5 < x3 then (if 0 ≤ x4 then (if x4 < (b0_0.length : Int) then (if 0 ≤ x5 then (if x5 < ((row b0_0 x4).length : Int) then ((spec_l01In.f (T b0_0 x4 x5) 0 (wrapI (x3 - 1))).bind fun t44 => if t44 = true then (spec_l01Is.l1 x3 x4 (wrapI (x5 + 1)) b0_0) else (some false)) else none) else none) else none) else none) else (spec_l01Is.l0 x3 (wrapI (x4 + 1)) b0_0) := (loop_unfold _ _ _ _).trans (by kernel_rfl)
set_option maxRecDepth 100000 in
theorem spec_l01Is.l2_eq (x3 : Int) (x6 : Int) (b0_0 : List (List Int)) : spec_l01Is.l2 x3 x6 b0_0 = if x6 < x3 then (if 0 < (b0_0.length : Int) then (if 0 ≤ x6 then (if x6 < ((row b0_0 0).length : Int) then (if (T b0_0 0 x6) = x6 then (if 0 ≤ x6 then (if x6 < (b0_0.length : Int) then (if 0 < ((row b0_0 x6).length : Int) then (if (T b0_0 x6 0) = x6 then (spec_l01Is.l3 x3 x6 false 0 b0_0) else (some false)) else none) else none) else none) else (some false)) else none) else none) else none) else (some true) := (loop_unfold _ _ _ _).trans (by kernel_rfl)
set_option maxRecDepth 100000 in
theorem spec_l01Is.l3_eq (x3 : Int) (x6 : Int) (x7 : Bool) (x8 : Int) (b0_0 : List (List Int)) : spec_l01Is.l3 x3 x6 x7 x8 b0_0 = if x8 < x3 then (if x7 = true then (spec_l01Is.l4 x3 x6 true x8 0 b0_0) else (if 0 ≤ x6 then (if x6 < (b0_0.length : Int) then (if 0 ≤ x8 then (if x8 < ((row b0_0 x6).length : Int) then (if (T b0_0 x6 x8) = 0 then (if 0 ≤ x8 then (if x8 < (b0_0.length : Int) then (if 0 ≤ x6 then (if x6 < ((row b0_0 x8).length : Int) then (spec_l01Is.l4 x3 x6 (decide ((T b0_0 x8 x6) = 0)) x8 0 b0_0) else none) else none) else none) else none) else (spec_l01Is.l4 x3 x6 false x8 0 b0_0)) else none) else none) else none) else none)) else (if x7 = true then (spec_l01Is.l2 x3 (wrapI (x6 + 1)) b0_0) else (some false)) := (loop_unfold _ _ _ _).trans (by kernel_rfl)
set_option maxRecDepth 100000 in
theorem spec_l01Is.l4_eq (x3 : Int) (x6 : Int) (x7 : Bool) (x8 : Int) (x9 : Int) (b0_0 : List (List Int)) : spec_l01Is.l4 x3 x6 x7 x8 x9 b0_0 = if x9 < x3 then (if 0 ≤ x6 then (if x6 < (b0_0.length : Int) then (if 0 ≤ x8 then (if x8 < ((row b0_0 x6).length : Int) then (if 0 ≤ T b0_0 x6 x8 then (if T b0_0 x6 x8 < (b0_0.length : Int) then (if 0 ≤ x9 then (if x9 < ((row b0_0 (T b0_0 x6 x8)).length : Int) then (if 0 ≤ x6 then (if x6 < (b0_0.length : Int) then (if 0 ≤ x8 then (if x8 < (b0_0.length : Int) then (if 0 ≤ x9 then (if x9 < ((row b0_0 x8).length : Int) then (if 0 ≤ T b0_0 x8 x9 then (if T b0_0 x8 x9 < ((row b0_0 x6).length : Int) then (if (T b0_0 (T b0_0 x6 x8) x9) = (T b0_0 x6 (T b0_0 x8 x9)) then (spec_l01Is.l4 x3 x6 x7 x8 (wrapI (x9 + 1)) b0_0) else (some false)) else none) else none) else none) else none) else none) else none) else none) else none) else none) else none) else none) else none) else none) else none) else none) else none) else (spec_l01Is.l3 x3 x6 x7 (wrapI (x8 + 1)) b0_0) := (loop_unfold _ _ _ _).trans (by kernel_rfl)
noncomputable def spec_l01Is.con : Con := ⟨spec_l01Is.fn.ins, spec_l01Is.fn.outs, Bool, fun x => spec_l01Is.f x.1, fun r => ((r, ()), (()))⟩
theorem spec_l01Is.valid : Valid Tryd.prog 39 spec_l01Is.con := fn_valid (f := spec_l01Is.fn) (E := spec_l01Is.E) (enc := spec_l01Is.enc) ⟨ttOk, (conCons spec_l01In.valid conNil)⟩ (Checked.mixed Tryd.checked) ⟨Tryd.func39, by kernel_rfl, by kernel_rfl, by kernel_rfl, by kernel_rfl, by decide, by kernel_rfl, by kernel_rfl⟩ (fun _ => rfl)
end Go.Proofs.YtacipknfhoadoaaDoor.P
set_option linter.unusedVariables false
namespace Go.Proofs.YtacipknfhoadoaaDoor.P
open Go Go.RowKit Go.Proofs.YtacipknfhoadoaaDoor.D
noncomputable def spec_l01Gcd.E : Env := { tt := TT, con := [], frz := [], rows := [], live := [(1, [0, 1])], n := 17, pin := 0, nils := [] }
noncomputable def spec_l01Gcd.fn : D.Fn := { body := Tryd.f55.body.getD .skip, res := Tryd.f55.results.toList, ins := [.one (.v (.int .i64)), .one (.v (.int .i64))], outs := [.one (.v (.int .i64))] }
def spec_l01Gcd.enc (y : lsd (flats spec_l01Gcd.fn.outs) × lsd (ios spec_l01Gcd.fn.ins)) : Int := y.1.1
noncomputable def spec_l01Gcd.f (a0 : Int) (a1 : Int) : Option Int := denF spec_l01Gcd.E spec_l01Gcd.fn spec_l01Gcd.enc (a0, a1, ())
noncomputable def spec_l01Gcd.l0 (x0 : Int) (x1 : Int) : Option Int := denAt spec_l01Gcd.E spec_l01Gcd.fn spec_l01Gcd.enc [1, 0, 0] { fr := [(0, .lf (.int .i64 x0)), (1, .lf (.int .i64 x1))], ob := [], nx := 0 }
set_option maxRecDepth 100000 in
theorem spec_l01Gcd.f_eq (a0 : Int) (a1 : Int) : spec_l01Gcd.f a0 a1 = spec_l01Gcd.l0 a0 a1 := by kernel_rfl
set_option maxRecDepth 100000 in
theorem spec_l01Gcd.l0_eq (x0 : Int) (x1 : Int) : spec_l01Gcd.l0 x0 x1 = if x1 = 0 then (some (if (wrapI (0 - x0)) > x0 then (wrapI (0 - x0)) else x0)) else (if x1 = 0 then none else (spec_l01Gcd.l0 x1 ((x0 : Int).tmod x1))) := (loop_unfold _ _ _ _).trans (by kernel_rfl)
noncomputable def spec_l01Gcd.con : Con := ⟨spec_l01Gcd.fn.ins, spec_l01Gcd.fn.outs, Int, fun x => spec_l01Gcd.f x.1 x.2.1, fun r => ((r, ()), (()))⟩
theorem spec_l01Gcd.valid : Valid Tryd.prog 55 spec_l01Gcd.con := fn_valid (f := spec_l01Gcd.fn) (E := spec_l01Gcd.E) (enc := spec_l01Gcd.enc) ⟨ttOk, conNil⟩ (Checked.mixed Tryd.checked) ⟨Tryd.func55, by kernel_rfl, by kernel_rfl, by kernel_rfl, by kernel_rfl, by decide, by kernel_rfl, by kernel_rfl⟩ (fun _ => rfl)
end Go.Proofs.YtacipknfhoadoaaDoor.P
set_option linter.unusedVariables false
namespace Go.Proofs.YtacipknfhoadoaaDoor.P
open Go Go.RowKit Go.Proofs.YtacipknfhoadoaaDoor.D
noncomputable def spec_l02Is.E : Env := { tt := TT, con := [(54, spec_l01In.con), (55, spec_l01Gcd.con)], frz := [], rows := [], live := [(4, [2, 3, 5]), (9, [2, 3, 6]), (12, [2, 3, 6, 7])], n := 90, pin := 0, nils := [] }
noncomputable def spec_l02Is.fn : D.Fn := { body := Tryd.f40.body.getD .skip, res := Tryd.f40.results.toList, ins := [.agg [.v (.sl 25 (.sl 2 (.int .i64)))], .agg [.v (.int .i64), .v (.sl 2 (.int .i64))]], outs := [.one (.v .bool)] }
def spec_l02Is.enc (y : lsd (flats spec_l02Is.fn.outs) × lsd (ios spec_l02Is.fn.ins)) : Bool := y.1.1
noncomputable def spec_l02Is.f (l0_0 : List (List Int)) (a1_0 : Int) (l1_1 : List Int) : Option Bool := denF spec_l02Is.E spec_l02Is.fn spec_l02Is.enc (l0_0, a1_0, l1_1, ())
noncomputable def spec_l02Is.l0 (x5 : Int) (b0_0 : List (List Int)) (b1_0 : Int) (b1_1 : List Int) : Option Bool := denAt spec_l02Is.E spec_l02Is.fn spec_l02Is.enc [1, 1, 0, 1, 0] { fr := [(2, .lf (.box 0 0)), (3, .lf (.box 1 0)), (5, .lf (.int .i64 x5))], ob := [(0, .box 35 false [.sl (.sl 2 (.int .i64)) b0_0]), (1, .box 37 false [.int .i64 b1_0, .sl (.int .i64) b1_1])], nx := 2 }
noncomputable def spec_l02Is.l1 (x6 : Int) (b0_0 : List (List Int)) (b1_0 : Int) (b1_1 : List Int) : Option Bool := denAt spec_l02Is.E spec_l02Is.fn spec_l02Is.enc [1, 1, 1, 0, 1, 0] { fr := [(2, .lf (.box 0 0)), (3, .lf (.box 1 0)), (6, .lf (.int .i64 x6))], ob := [(0, .box 35 false [.sl (.sl 2 (.int .i64)) b0_0]), (1, .box 37 false [.int .i64 b1_0, .sl (.int .i64) b1_1])], nx := 2 }
noncomputable def spec_l02Is.l2 (x6 : Int) (x7 : Int) (b0_0 : List (List Int)) (b1_0 : Int) (b1_1 : List Int) : Option Bool := denAt spec_l02Is.E spec_l02Is.fn spec_l02Is.enc [1, 1, 1, 0, 1, 0, 0, 1, 0, 0, 1, 0] { fr := [(2, .lf (.box 0 0)), (3, .lf (.box 1 0)), (6, .lf (.int .i64 x6)), (7, .lf (.int .i64 x7))], ob := [(0, .box 35 false [.sl (.sl 2 (.int .i64)) b0_0]), (1, .box 37 false [.int .i64 b1_0, .sl (.int .i64) b1_1])], nx := 2 }
set_option maxRecDepth 100000 in
theorem spec_l02Is.f_eq (l0_0 : List (List Int)) (a1_0 : Int) (l1_1 : List Int) : spec_l02Is.f l0_0 a1_0 l1_1 = (spec_l01In.f a1_0 2 12).bind fun t10 => if t10 = true then (if (l1_1.length : Int) = (l0_0.length : Int) then (spec_l02Is.l0 0 l0_0 a1_0 l1_1) else (some false)) else (some false) := by kernel_rfl
set_option maxRecDepth 100000 in
theorem spec_l02Is.l0_eq (x5 : Int) (b0_0 : List (List Int)) (b1_0 : Int) (b1_1 : List Int) : spec_l02Is.l0 x5 b0_0 b1_0 b1_1 = if x5 < (b1_1.length : Int) then (if 0 ≤ x5 then (if x5 < (b1_1.length : Int) then ((spec_l01In.f (rd b1_1 x5) 1 (wrapI (b1_0 - 1))).bind fun t36 => if t36 = true then (if 0 ≤ x5 then (if x5 < (b1_1.length : Int) then ((spec_l01Gcd.f (rd b1_1 x5) b1_0).bind fun t46 => if t46 = 1 then (spec_l02Is.l0 (wrapI (x5 + 1)) b0_0 b1_0 b1_1) else (some false)) else none) else none) else (some false)) else none) else none) else (spec_l02Is.l1 0 b0_0 b1_0 b1_1) := (loop_unfold _ _ _ _).trans (by kernel_rfl)
set_option maxRecDepth 100000 in
theorem spec_l02Is.l1_eq (x6 : Int) (b0_0 : List (List Int)) (b1_0 : Int) (b1_1 : List Int) : spec_l02Is.l1 x6 b0_0 b1_0 b1_1 = if x6 < (b1_1.length : Int) then (spec_l02Is.l2 x6 0 b0_0 b1_0 b1_1) else (some true) := (loop_unfold _ _ _ _).trans (by kernel_rfl)
set_option maxRecDepth 100000 in
theorem spec_l02Is.l2_eq (x6 : Int) (x7 : Int) (b0_0 : List (List Int)) (b1_0 : Int) (b1_1 : List Int) : spec_l02Is.l2 x6 x7 b0_0 b1_0 b1_1 = if x7 < (b1_1.length : Int) then (if 0 ≤ x6 then (if x6 < (b0_0.length : Int) then (if 0 ≤ x7 then (if x7 < ((row b0_0 x6).length : Int) then (if 0 ≤ T b0_0 x6 x7 then (if T b0_0 x6 x7 < (b1_1.length : Int) then (if 0 ≤ x6 then (if x6 < (b1_1.length : Int) then (if 0 ≤ x7 then (if x7 < (b1_1.length : Int) then (if b1_0 = 0 then none else (if (rd b1_1 (T b0_0 x6 x7)) = ((wrapI ((rd b1_1 x6) * (rd b1_1 x7)) : Int).tmod b1_0) then (spec_l02Is.l2 x6 (wrapI (x7 + 1)) b0_0 b1_0 b1_1) else (some false))) else none) else none) else none) else none) else none) else none) else none) else none) else none) else none) else (spec_l02Is.l1 (wrapI (x6 + 1)) b0_0 b1_0 b1_1) := (loop_unfold _ _ _ _).trans (by kernel_rfl)
noncomputable def spec_l02Is.con : Con := ⟨spec_l02Is.fn.ins, spec_l02Is.fn.outs, Bool, fun x => spec_l02Is.f x.1 x.2.1 x.2.2.1, fun r => ((r, ()), (()))⟩
theorem spec_l02Is.valid : Valid Tryd.prog 40 spec_l02Is.con := fn_valid (f := spec_l02Is.fn) (E := spec_l02Is.E) (enc := spec_l02Is.enc) ⟨ttOk, (conCons spec_l01In.valid (conCons spec_l01Gcd.valid conNil))⟩ (Checked.mixed Tryd.checked) ⟨Tryd.func40, by kernel_rfl, by kernel_rfl, by kernel_rfl, by kernel_rfl, by decide, by kernel_rfl, by kernel_rfl⟩ (fun _ => rfl)
end Go.Proofs.YtacipknfhoadoaaDoor.P
set_option linter.unusedVariables false
namespace Go.Proofs.YtacipknfhoadoaaDoor.P
open Go Go.RowKit Go.Proofs.YtacipknfhoadoaaDoor.D
noncomputable def spec_l01N.E : Env := { tt := TT, con := [], frz := [], rows := [], live := [], n := 6, pin := 0, nils := [] }
noncomputable def spec_l01N.fn : D.Fn := { body := Tryd.f65.body.getD .skip, res := Tryd.f65.results.toList, ins := [.agg [.v (.sl 25 (.sl 2 (.int .i64)))]], outs := [.one (.v (.int .i64))] }
def spec_l01N.enc (y : lsd (flats spec_l01N.fn.outs) × lsd (ios spec_l01N.fn.ins)) : Int := y.1.1
noncomputable def spec_l01N.f (l0_0 : List (List Int)) : Option Int := denF spec_l01N.E spec_l01N.fn spec_l01N.enc (l0_0, ())
set_option maxRecDepth 100000 in
theorem spec_l01N.f_eq (l0_0 : List (List Int)) : spec_l01N.f l0_0 = some (l0_0.length : Int) := by kernel_rfl
noncomputable def spec_l01N.con : Con := ⟨spec_l01N.fn.ins, spec_l01N.fn.outs, Int, fun x => spec_l01N.f x.1, fun r => ((r, ()), (()))⟩
theorem spec_l01N.valid : Valid Tryd.prog 65 spec_l01N.con := fn_valid (f := spec_l01N.fn) (E := spec_l01N.E) (enc := spec_l01N.enc) ⟨ttOk, conNil⟩ (Checked.mixed Tryd.checked) ⟨Tryd.func65, by kernel_rfl, by kernel_rfl, by kernel_rfl, by kernel_rfl, by decide, by kernel_rfl, by kernel_rfl⟩ (fun _ => rfl)
end Go.Proofs.YtacipknfhoadoaaDoor.P
set_option linter.unusedVariables false
namespace Go.Proofs.YtacipknfhoadoaaDoor.P
open Go Go.RowKit Go.Proofs.YtacipknfhoadoaaDoor.D
noncomputable def spec_l03Cells.E : Env := { tt := TT, con := [(65, spec_l01N.con)], frz := [], rows := [], live := [(2, [1, 2, 5])], n := 16, pin := 0, nils := [] }
noncomputable def spec_l03Cells.fn : D.Fn := { body := Tryd.f56.body.getD .skip, res := Tryd.f56.results.toList, ins := [.agg [.v (.sl 25 (.sl 2 (.int .i64)))], .one (.v (.int .i64))], outs := [.one (.v (.int .i64))] }
def spec_l03Cells.enc (y : lsd (flats spec_l03Cells.fn.outs) × lsd (ios spec_l03Cells.fn.ins)) : Int := y.1.1
noncomputable def spec_l03Cells.f (l0_0 : List (List Int)) (a1 : Int) : Option Int := denF spec_l03Cells.E spec_l03Cells.fn spec_l03Cells.enc (l0_0, a1, ())
noncomputable def spec_l03Cells.l0 (x1 : Int) (x5 : Int) (b0_0 : List (List Int)) : Option Int := denAt spec_l03Cells.E spec_l03Cells.fn spec_l03Cells.enc [1, 1, 0, 0] { fr := [(1, .lf (.int .i64 x1)), (2, .lf (.box 0 0)), (5, .lf (.int .i64 x5))], ob := [(0, .box 35 false [.sl (.sl 2 (.int .i64)) b0_0])], nx := 1 }
set_option maxRecDepth 100000 in
theorem spec_l03Cells.f_eq (l0_0 : List (List Int)) (a1 : Int) : spec_l03Cells.f l0_0 a1 = spec_l03Cells.l0 a1 1 l0_0 := by kernel_rfl
set_option maxRecDepth 100000 in
theorem spec_l03Cells.l0_eq (x1 : Int) (x5 : Int) (b0_0 : List (List Int)) : spec_l03Cells.l0 x1 x5 b0_0 = if x1 > 0 then ((spec_l01N.f b0_0).bind fun t12 => spec_l03Cells.l0 (wrapI (x1 - 1)) (wrapI (x5 * (wrapI (t12 - 1)))) b0_0) else (some x5) := (loop_unfold _ _ _ _).trans (by kernel_rfl)
noncomputable def spec_l03Cells.con : Con := ⟨spec_l03Cells.fn.ins, spec_l03Cells.fn.outs, Int, fun x => spec_l03Cells.f x.1 x.2.1, fun r => ((r, ()), (()))⟩
theorem spec_l03Cells.valid : Valid Tryd.prog 56 spec_l03Cells.con := fn_valid (f := spec_l03Cells.fn) (E := spec_l03Cells.E) (enc := spec_l03Cells.enc) ⟨ttOk, (conCons spec_l01N.valid conNil)⟩ (Checked.mixed Tryd.checked) ⟨Tryd.func56, by kernel_rfl, by kernel_rfl, by kernel_rfl, by kernel_rfl, by decide, by kernel_rfl, by kernel_rfl⟩ (fun _ => rfl)
end Go.Proofs.YtacipknfhoadoaaDoor.P
set_option linter.unusedVariables false
namespace Go.Proofs.YtacipknfhoadoaaDoor.P
open Go Go.RowKit Go.Proofs.YtacipknfhoadoaaDoor.D
noncomputable def spec_l03Is.E : Env := { tt := TT, con := [(54, spec_l01In.con), (56, spec_l03Cells.con)], frz := [], rows := [], live := [(4, [4, 5, 7])], n := 39, pin := 0, nils := [] }
noncomputable def spec_l03Is.fn : D.Fn := { body := Tryd.f41.body.getD .skip, res := Tryd.f41.results.toList, ins := [.agg [.v (.sl 25 (.sl 2 (.int .i64)))], .agg [.v (.int .i64), .v (.sl 2 (.int .i64))], .agg [.v (.int .i64), .v (.sl 2 (.int .i64))]], outs := [.one (.v .bool)] }
def spec_l03Is.enc (y : lsd (flats spec_l03Is.fn.outs) × lsd (ios spec_l03Is.fn.ins)) : Bool := y.1.1
noncomputable def spec_l03Is.f (l0_0 : List (List Int)) (a1_0 : Int) (l1_1 : List Int) (a2_0 : Int) (l2_1 : List Int) : Option Bool := denF spec_l03Is.E spec_l03Is.fn spec_l03Is.enc (l0_0, a1_0, l1_1, a2_0, l2_1, ())
noncomputable def spec_l03Is.l0 (x7 : Int) (b0_0 : Int) (b0_1 : List Int) (b1_0 : Int) (b1_1 : List Int) : Option Bool := denAt spec_l03Is.E spec_l03Is.fn spec_l03Is.enc [1, 1, 0, 1, 0] { fr := [(4, .lf (.box 0 0)), (5, .lf (.box 1 0)), (7, .lf (.int .i64 x7))], ob := [(0, .box 37 false [.int .i64 b0_0, .sl (.int .i64) b0_1]), (1, .box 39 false [.int .i64 b1_0, .sl (.int .i64) b1_1])], nx := 2 }
set_option maxRecDepth 100000 in
theorem spec_l03Is.f_eq (l0_0 : List (List Int)) (a1_0 : Int) (l1_1 : List Int) (a2_0 : Int) (l2_1 : List Int) : spec_l03Is.f l0_0 a1_0 l1_1 a2_0 l2_1 = (spec_l01In.f a2_0 0 3).bind fun t10 => if t10 = true then ((spec_l03Cells.f l0_0 a2_0).bind fun t19 => if (l2_1.length : Int) = t19 then (spec_l03Is.l0 0 a1_0 l1_1 a2_0 l2_1) else (some false)) else (some false) := by kernel_rfl
set_option maxRecDepth 100000 in
theorem spec_l03Is.l0_eq (x7 : Int) (b0_0 : Int) (b0_1 : List Int) (b1_0 : Int) (b1_1 : List Int) : spec_l03Is.l0 x7 b0_0 b0_1 b1_0 b1_1 = if x7 < (b1_1.length : Int) then (if 0 ≤ x7 then (if x7 < (b1_1.length : Int) then ((spec_l01In.f (rd b1_1 x7) 0 (wrapI (b0_0 - 1))).bind fun t37 => if t37 = true then (spec_l03Is.l0 (wrapI (x7 + 1)) b0_0 b0_1 b1_0 b1_1) else (some false)) else none) else none) else (some true) := (loop_unfold _ _ _ _).trans (by kernel_rfl)
noncomputable def spec_l03Is.con : Con := ⟨spec_l03Is.fn.ins, spec_l03Is.fn.outs, Bool, fun x => spec_l03Is.f x.1 x.2.1 x.2.2.1 x.2.2.2.1 x.2.2.2.2.1, fun r => ((r, ()), (()))⟩
theorem spec_l03Is.valid : Valid Tryd.prog 41 spec_l03Is.con := fn_valid (f := spec_l03Is.fn) (E := spec_l03Is.E) (enc := spec_l03Is.enc) ⟨ttOk, (conCons spec_l01In.valid (conCons spec_l03Cells.valid conNil))⟩ (Checked.mixed Tryd.checked) ⟨Tryd.func41, by kernel_rfl, by kernel_rfl, by kernel_rfl, by kernel_rfl, by decide, by kernel_rfl, by kernel_rfl⟩ (fun _ => rfl)
end Go.Proofs.YtacipknfhoadoaaDoor.P
set_option linter.unusedVariables false
namespace Go.Proofs.YtacipknfhoadoaaDoor.P
open Go Go.RowKit Go.Proofs.YtacipknfhoadoaaDoor.D
noncomputable def spec_l03Code.E : Env := { tt := TT, con := [(39, spec_l01Is.con), (40, spec_l02Is.con), (41, spec_l03Is.con)], frz := [], rows := [], live := [(4, [2, 3, 4, 7])], n := 31, pin := 0, nils := [] }
noncomputable def spec_l03Code.fn : D.Fn := { body := Tryd.f24.body.getD .skip, res := Tryd.f24.results.toList, ins := [.agg [.v (.sl 25 (.sl 2 (.int .i64)))], .agg [.v (.int .i64), .v (.sl 2 (.int .i64))], .one (.v (.sl 39 (.pr (.int .i64) (.sl 2 (.int .i64)))))], outs := [.one (.v (.int .i64))] }
def spec_l03Code.enc (y : lsd (flats spec_l03Code.fn.outs) × lsd (ios spec_l03Code.fn.ins)) : Int := y.1.1
noncomputable def spec_l03Code.f (l0_0 : List (List Int)) (a1_0 : Int) (l1_1 : List Int) (l2 : List (Int × (List Int))) : Option Int := denF spec_l03Code.E spec_l03Code.fn spec_l03Code.enc (l0_0, a1_0, l1_1, l2, ())
noncomputable def spec_l03Code.l0 (x2 : List (Int × (List Int))) (x7 : Int) (b0_0 : List (List Int)) (b1_0 : Int) (b1_1 : List Int) : Option Int := denAt spec_l03Code.E spec_l03Code.fn spec_l03Code.enc [1, 1, 0, 1, 0] { fr := [(2, .lf (.sl (.pr (.int .i64) (.sl 2 (.int .i64))) x2)), (3, .lf (.box 0 0)), (4, .lf (.box 1 0)), (7, .lf (.int .i64 x7))], ob := [(0, .box 35 false [.sl (.sl 2 (.int .i64)) b0_0]), (1, .box 37 false [.int .i64 b1_0, .sl (.int .i64) b1_1])], nx := 2 }
set_option maxRecDepth 100000 in
theorem spec_l03Code.f_eq (l0_0 : List (List Int)) (a1_0 : Int) (l1_1 : List Int) (l2 : List (Int × (List Int))) : spec_l03Code.f l0_0 a1_0 l1_1 l2 = (spec_l01Is.f l0_0).bind fun t9 => if t9 = true then ((spec_l02Is.f l0_0 a1_0 l1_1).bind fun t14 => if t14 = true then (spec_l03Code.l0 l2 0 l0_0 a1_0 l1_1) else (some 1)) else (some 1) := by kernel_rfl
set_option maxRecDepth 100000 in
theorem spec_l03Code.l0_eq (x2 : List (Int × (List Int))) (x7 : Int) (b0_0 : List (List Int)) (b1_0 : Int) (b1_1 : List Int) : spec_l03Code.l0 x2 x7 b0_0 b1_0 b1_1 = if x7 < (x2.length : Int) then (if 0 ≤ x7 then (if x7 < (x2.length : Int) then ((spec_l03Is.f b0_0 b1_0 b1_1 ((Ty.rd (.pr (.int .i64) (.sl 2 (.int .i64))) x2 x7).1) ((Ty.rd (.pr (.int .i64) (.sl 2 (.int .i64))) x2 x7).2)).bind fun t29 => if t29 = true then (spec_l03Code.l0 x2 (wrapI (x7 + 1)) b0_0 b1_0 b1_1) else (some 1)) else none) else none) else (some 0) := (loop_unfold _ _ _ _).trans (by kernel_rfl)
noncomputable def spec_l03Code.con : Con := ⟨spec_l03Code.fn.ins, spec_l03Code.fn.outs, Int, fun x => spec_l03Code.f x.1 x.2.1 x.2.2.1 x.2.2.2.1, fun r => ((r, ()), (()))⟩
theorem spec_l03Code.valid : Valid Tryd.prog 24 spec_l03Code.con := fn_valid (f := spec_l03Code.fn) (E := spec_l03Code.E) (enc := spec_l03Code.enc) ⟨ttOk, (conCons spec_l01Is.valid (conCons spec_l02Is.valid (conCons spec_l03Is.valid conNil)))⟩ (Checked.mixed Tryd.checked) ⟨Tryd.func24, by kernel_rfl, by kernel_rfl, by kernel_rfl, by kernel_rfl, by decide, by kernel_rfl, by kernel_rfl⟩ (fun _ => rfl)
end Go.Proofs.YtacipknfhoadoaaDoor.P
set_option linter.unusedVariables false
namespace Go.Proofs.YtacipknfhoadoaaDoor.P
open Go Go.RowKit Go.Proofs.YtacipknfhoadoaaDoor.D
noncomputable def spec_l01Split.E : Env := { tt := TT, con := [], frz := [], rows := [], live := [(4, [0, 1, 5, 6, 7])], n := 35, pin := 0, nils := [] }
noncomputable def spec_l01Split.fn : D.Fn := { body := Tryd.f46.body.getD .skip, res := Tryd.f46.results.toList, ins := [.one (.v .str), .one (.v (.int .u8))], outs := [.one (.own 9 true .str)] }
def spec_l01Split.enc (y : lsd (flats spec_l01Split.fn.outs) × lsd (ios spec_l01Split.fn.ins)) : (List ByteArray) := y.1.1
noncomputable def spec_l01Split.f (a0 : ByteArray) (a1 : Int) : Option (List ByteArray) := denF spec_l01Split.E spec_l01Split.fn spec_l01Split.enc (a0, a1, ())
noncomputable def spec_l01Split.l0 (x0 : ByteArray) (x1 : Int) (x6 : Int) (x7 : Int) (r0 : List ByteArray) : Option (List ByteArray) := denAt spec_l01Split.E spec_l01Split.fn spec_l01Split.enc [1, 1, 1, 0, 1, 0] { fr := [(0, .lf (.str x0)), (1, .lf (.int .u8 x1)), (5, .lf (.own 0)), (6, .lf (.int .i64 x6)), (7, .lf (.int .i64 x7))], ob := [(0, .row 9 true .str r0)], nx := 1 }
set_option maxRecDepth 100000 in
theorem spec_l01Split.f_eq (a0 : ByteArray) (a1 : Int) : spec_l01Split.f a0 a1 = spec_l01Split.l0 a0 a1 0 0 ([] : List ByteArray) := by kernel_rfl
set_option maxRecDepth 100000 in
theorem spec_l01Split.l0_eq (x0 : ByteArray) (x1 : Int) (x6 : Int) (x7 : Int) (r0 : List ByteArray) : spec_l01Split.l0 x0 x1 x6 x7 r0 = if x7 < (x0.size : Int) then (if 0 ≤ x7 then (if x7 < (x0.size : Int) then (if (byteAt x0 x7) = x1 then (if 0 ≤ x6 then (if x6 ≤ x7 then (if x7 ≤ (x0.size : Int) then (if r0.length + ([x0.extract (x6 : Int).toNat (x7 : Int).toNat] : List ByteArray).length ≤ 8796093022208 then (spec_l01Split.l0 x0 x1 (wrapI (x7 + 1)) (wrapI (x7 + 1)) (r0 ++ ([x0.extract (x6 : Int).toNat (x7 : Int).toNat] : List ByteArray))) else none) else none) else none) else none) else (spec_l01Split.l0 x0 x1 x6 (wrapI (x7 + 1)) r0)) else none) else none) else (if 0 ≤ x6 then (if x6 ≤ (x0.size : Int) then (if r0.length + ([x0.extract (x6 : Int).toNat x0.size] : List ByteArray).length ≤ 8796093022208 then (some (r0 ++ ([x0.extract (x6 : Int).toNat x0.size] : List ByteArray))) else none) else none) else none) := (loop_unfold _ _ _ _).trans (by kernel_rfl)
noncomputable def spec_l01Split.con : Con := ⟨spec_l01Split.fn.ins, spec_l01Split.fn.outs, (List ByteArray), fun x => spec_l01Split.f x.1 x.2.1, fun r => ((r, ()), (()))⟩
theorem spec_l01Split.valid : Valid Tryd.prog 46 spec_l01Split.con := fn_valid (f := spec_l01Split.fn) (E := spec_l01Split.E) (enc := spec_l01Split.enc) ⟨ttOk, conNil⟩ (Checked.mixed Tryd.checked) ⟨Tryd.func46, by kernel_rfl, by kernel_rfl, by kernel_rfl, by kernel_rfl, by decide, by kernel_rfl, by kernel_rfl⟩ (fun _ => rfl)
end Go.Proofs.YtacipknfhoadoaaDoor.P
set_option linter.unusedVariables false
namespace Go.Proofs.YtacipknfhoadoaaDoor.P
open Go Go.RowKit Go.Proofs.YtacipknfhoadoaaDoor.D
noncomputable def spec_l01Number.E : Env := { tt := TT, con := [], frz := [], rows := [], live := [(5, [0, 3, 4])], n := 48, pin := 0, nils := [] }
noncomputable def spec_l01Number.fn : D.Fn := { body := Tryd.f47.body.getD .skip, res := Tryd.f47.results.toList, ins := [.one (.v .str)], outs := [.one (.v (.int .i64))] }
def spec_l01Number.enc (y : lsd (flats spec_l01Number.fn.outs) × lsd (ios spec_l01Number.fn.ins)) : Int := y.1.1
noncomputable def spec_l01Number.f (a0 : ByteArray) : Option Int := denF spec_l01Number.E spec_l01Number.fn spec_l01Number.enc (a0, ())
noncomputable def spec_l01Number.l0 (x0 : ByteArray) (x3 : Int) (x4 : Int) : Option Int := denAt spec_l01Number.E spec_l01Number.fn spec_l01Number.enc [1, 1, 1, 0, 1, 0] { fr := [(0, .lf (.str x0)), (3, .lf (.int .i64 x3)), (4, .lf (.int .i64 x4))], ob := [], nx := 0 }
set_option maxRecDepth 100000 in
theorem spec_l01Number.f_eq (a0 : ByteArray) : spec_l01Number.f a0 = if (a0.size : Int) = 0 then (some (-1)) else (if (a0.size : Int) > 9 then (some (-1)) else (if (a0.size : Int) > 1 then (if 0 < (a0.size : Int) then (if (byteAt a0 0) = 48 then (some (-1)) else (spec_l01Number.l0 a0 0 0)) else none) else (spec_l01Number.l0 a0 0 0))) := by kernel_rfl
set_option maxRecDepth 100000 in
theorem spec_l01Number.l0_eq (x0 : ByteArray) (x3 : Int) (x4 : Int) : spec_l01Number.l0 x0 x3 x4 = if x4 < (x0.size : Int) then (if 0 ≤ x4 then (if x4 < (x0.size : Int) then (if (byteAt x0 x4) < 48 then (some (-1)) else (if 0 ≤ x4 then (if x4 < (x0.size : Int) then (if (byteAt x0 x4) > 57 then (some (-1)) else (if 0 ≤ x4 then (if x4 < (x0.size : Int) then (spec_l01Number.l0 x0 (wrapI ((wrapI (x3 * 10)) + (wrapI (wr .u8 ((byteAt x0 x4) - 48))))) (wrapI (x4 + 1))) else none) else none)) else none) else none)) else none) else none) else (some x3) := (loop_unfold _ _ _ _).trans (by kernel_rfl)
noncomputable def spec_l01Number.con : Con := ⟨spec_l01Number.fn.ins, spec_l01Number.fn.outs, Int, fun x => spec_l01Number.f x.1, fun r => ((r, ()), (()))⟩
theorem spec_l01Number.valid : Valid Tryd.prog 47 spec_l01Number.con := fn_valid (f := spec_l01Number.fn) (E := spec_l01Number.E) (enc := spec_l01Number.enc) ⟨ttOk, conNil⟩ (Checked.mixed Tryd.checked) ⟨Tryd.func47, by kernel_rfl, by kernel_rfl, by kernel_rfl, by kernel_rfl, by decide, by kernel_rfl, by kernel_rfl⟩ (fun _ => rfl)
end Go.Proofs.YtacipknfhoadoaaDoor.P
set_option linter.unusedVariables false
namespace Go.Proofs.YtacipknfhoadoaaDoor.P
open Go Go.RowKit Go.Proofs.YtacipknfhoadoaaDoor.D
noncomputable def spec_l03Read.E : Env := { tt := TT, con := [(46, spec_l01Split.con), (47, spec_l01Number.con), (41, spec_l03Is.con)], frz := [], rows := [], live := [(8, [3, 4, 6, 9, 10, 11]), (11, [3, 4, 6, 9])], n := 55, pin := 0, nils := [] }
noncomputable def spec_l03Read.fn : D.Fn := { body := Tryd.f32.body.getD .skip, res := Tryd.f32.results.toList, ins := [.agg [.v (.sl 25 (.sl 2 (.int .i64)))], .agg [.v (.int .i64), .v (.sl 2 (.int .i64))], .one (.v .str)], outs := [.agg [.v (.int .i64), .own 2 true (.int .i64)], .one (.v .bool)] }
def spec_l03Read.enc (y : lsd (flats spec_l03Read.fn.outs) × lsd (ios spec_l03Read.fn.ins)) : Int × (List Int) × Bool := (y.1.1, y.1.2.1, y.1.2.2.1)
noncomputable def spec_l03Read.f (l0_0 : List (List Int)) (a1_0 : Int) (l1_1 : List Int) (a2 : ByteArray) : Option (Int × (List Int) × Bool) := denF spec_l03Read.E spec_l03Read.fn spec_l03Read.enc (l0_0, a1_0, l1_1, a2, ())
noncomputable def spec_l03Read.j0 (b0_0 : List (List Int)) (b1_0 : Int) (b1_1 : List Int) (b2_0 : Int) (b3_0 : Int) (r4 : List Int) : Option (Int × (List Int) × Bool) := denAt spec_l03Read.E spec_l03Read.fn spec_l03Read.enc [1, 1, 1, 1, 1] { fr := [(3, .lf (.box 0 0)), (4, .lf (.box 1 0)), (6, .lf (.box 2 0)), (9, .lf (.box 3 0))], ob := [(0, .box 35 false [.sl (.sl 2 (.int .i64)) b0_0]), (1, .box 37 false [.int .i64 b1_0, .sl (.int .i64) b1_1]), (2, .box 39 false [.int .i64 b2_0, .nil]), (3, .box 39 false [.int .i64 b3_0, .own 4]), (4, .row 2 true (.int .i64) r4)], nx := 5 }
noncomputable def spec_l03Read.l1 (x11 : Int) (b0_0 : List (List Int)) (b1_0 : Int) (b1_1 : List Int) (b2_0 : Int) (b3_0 : Int) (r4 : List ByteArray) (r5 : List Int) : Option (Int × (List Int) × Bool) := denAt spec_l03Read.E spec_l03Read.fn spec_l03Read.enc [1, 1, 1, 1, 0, 1, 0, 1, 1, 0] { fr := [(3, .lf (.box 0 0)), (4, .lf (.box 1 0)), (6, .lf (.box 2 0)), (9, .lf (.box 3 0)), (10, .lf (.own 4)), (11, .lf (.int .i64 x11))], ob := [(0, .box 35 false [.sl (.sl 2 (.int .i64)) b0_0]), (1, .box 37 false [.int .i64 b1_0, .sl (.int .i64) b1_1]), (2, .box 39 false [.int .i64 b2_0, .nil]), (3, .box 39 false [.int .i64 b3_0, .own 5]), (4, .row 9 true .str r4), (5, .row 2 true (.int .i64) r5)], nx := 6 }
set_option maxRecDepth 100000 in
theorem spec_l03Read.f_eq (l0_0 : List (List Int)) (a1_0 : Int) (l1_1 : List Int) (a2 : ByteArray) : spec_l03Read.f l0_0 a1_0 l1_1 a2 = (spec_l01Split.f a2 58).bind fun t13 => if (t13.length : Int) = 2 then (if 0 < (t13.length : Int) then (if 0 < (t13.length : Int) then ((spec_l01Number.f (Ty.rd .str t13 0)).bind fun t21 => if 1 < (t13.length : Int) then (if 1 < (t13.length : Int) then (if (Ty.rd .str t13 1) = (⟨#[]⟩ : ByteArray) then (spec_l03Read.j0 l0_0 a1_0 l1_1 0 t21 ([] : List Int)) else (if 1 < (t13.length : Int) then (if 1 < (t13.length : Int) then ((spec_l01Split.f (Ty.rd .str t13 1) 44).bind fun t31 => spec_l03Read.l1 0 l0_0 a1_0 l1_1 0 t21 t31 ([] : List Int)) else none) else none)) else none) else none) else none) else none) else (some (0, ([] : List Int), false)) := by kernel_rfl
set_option maxRecDepth 100000 in
theorem spec_l03Read.j0_eq (b0_0 : List (List Int)) (b1_0 : Int) (b1_1 : List Int) (b2_0 : Int) (b3_0 : Int) (r4 : List Int) : spec_l03Read.j0 b0_0 b1_0 b1_1 b2_0 b3_0 r4 = (spec_l03Is.f b0_0 b1_0 b1_1 b3_0 r4).bind fun t51 => if t51 = true then (some (b3_0, r4, true)) else (some (0, ([] : List Int), false)) := by kernel_rfl
set_option maxRecDepth 100000 in
theorem spec_l03Read.l1_eq (x11 : Int) (b0_0 : List (List Int)) (b1_0 : Int) (b1_1 : List Int) (b2_0 : Int) (b3_0 : Int) (r4 : List ByteArray) (r5 : List Int) : spec_l03Read.l1 x11 b0_0 b1_0 b1_1 b2_0 b3_0 r4 r5 = if x11 < (r4.length : Int) then (if 0 ≤ x11 then (if x11 < (r4.length : Int) then (if 0 ≤ x11 then (if x11 < (r4.length : Int) then ((spec_l01Number.f (Ty.rd .str r4 x11)).bind fun t44 => if r5.length + ([t44] : List Int).length ≤ 17592186044416 then (spec_l03Read.l1 (wrapI (x11 + 1)) b0_0 b1_0 b1_1 b2_0 b3_0 r4 (r5 ++ ([t44] : List Int))) else none) else none) else none) else none) else none) else (spec_l03Read.j0 b0_0 b1_0 b1_1 b2_0 b3_0 r5) := (loop_unfold _ _ _ _).trans (by kernel_rfl)
noncomputable def spec_l03Read.con : Con := ⟨spec_l03Read.fn.ins, spec_l03Read.fn.outs, Int × (List Int) × Bool, fun x => spec_l03Read.f x.1 x.2.1 x.2.2.1 x.2.2.2.1, fun r => ((r.1, r.2.1, r.2.2, ()), (()))⟩
theorem spec_l03Read.valid : Valid Tryd.prog 32 spec_l03Read.con := fn_valid (f := spec_l03Read.fn) (E := spec_l03Read.E) (enc := spec_l03Read.enc) ⟨ttOk, (conCons spec_l01Split.valid (conCons spec_l01Number.valid (conCons spec_l03Is.valid conNil)))⟩ (Checked.mixed Tryd.checked) ⟨Tryd.func32, by kernel_rfl, by kernel_rfl, by kernel_rfl, by kernel_rfl, by decide, by kernel_rfl, by kernel_rfl⟩ (fun _ => rfl)
end Go.Proofs.YtacipknfhoadoaaDoor.P
set_option linter.unusedVariables false
namespace Go.Proofs.YtacipknfhoadoaaDoor.P
open Go Go.RowKit Go.Proofs.YtacipknfhoadoaaDoor.D
noncomputable def spec_ParseCochain.E : Env := { tt := TT, con := [(24, spec_l03Code.con), (32, spec_l03Read.con)], frz := [], rows := [], live := [], n := 29, pin := 0, nils := [] }
noncomputable def spec_ParseCochain.fn : D.Fn := { body := Tryd.f16.body.getD .skip, res := Tryd.f16.results.toList, ins := [.agg [.v (.sl 25 (.sl 2 (.int .i64)))], .agg [.v (.int .i64), .v (.sl 2 (.int .i64))], .one (.v .str)], outs := [.agg [.v (.int .i64), .own 2 true (.int .i64)], .one (.v (.int .i64))] }
def spec_ParseCochain.enc (y : lsd (flats spec_ParseCochain.fn.outs) × lsd (ios spec_ParseCochain.fn.ins)) : Int × (List Int) × Int := (y.1.1, y.1.2.1, y.1.2.2.1)
noncomputable def spec_ParseCochain.f (l0_0 : List (List Int)) (a1_0 : Int) (l1_1 : List Int) (a2 : ByteArray) : Option (Int × (List Int) × Int) := denF spec_ParseCochain.E spec_ParseCochain.fn spec_ParseCochain.enc (l0_0, a1_0, l1_1, a2, ())
set_option maxRecDepth 100000 in
theorem spec_ParseCochain.f_eq (l0_0 : List (List Int)) (a1_0 : Int) (l1_1 : List Int) (a2 : ByteArray) : spec_ParseCochain.f l0_0 a1_0 l1_1 a2 = (spec_l03Code.f l0_0 a1_0 l1_1 ([] : List (Int × (List Int)))).bind fun t13 => if t13 = 0 then ((spec_l03Read.f l0_0 a1_0 l1_1 a2).bind fun t22 => if t22.2.2 = true then (some (t22.1, t22.2.1, 0)) else (some (0, ([] : List Int), 6))) else (some (0, ([] : List Int), t13)) := by kernel_rfl
noncomputable def spec_ParseCochain.con : Con := ⟨spec_ParseCochain.fn.ins, spec_ParseCochain.fn.outs, Int × (List Int) × Int, fun x => spec_ParseCochain.f x.1 x.2.1 x.2.2.1 x.2.2.2.1, fun r => ((r.1, r.2.1, r.2.2, ()), (()))⟩
theorem spec_ParseCochain.valid : Valid Tryd.prog 16 spec_ParseCochain.con := fn_valid (f := spec_ParseCochain.fn) (E := spec_ParseCochain.E) (enc := spec_ParseCochain.enc) ⟨ttOk, (conCons spec_l03Code.valid (conCons spec_l03Read.valid conNil))⟩ (Checked.mixed Tryd.checked) ⟨Tryd.func16, by kernel_rfl, by kernel_rfl, by kernel_rfl, by kernel_rfl, by decide, by kernel_rfl, by kernel_rfl⟩ (fun _ => rfl)
end Go.Proofs.YtacipknfhoadoaaDoor.P
set_option linter.unusedVariables false
namespace Go.Proofs.YtacipknfhoadoaaDoor.P
open Go Go.RowKit Go.Proofs.YtacipknfhoadoaaDoor.D
noncomputable def impl_areIn.E : Env := { tt := TT, con := [], frz := [], rows := [], live := [(2, [0, 7, 8, 9])], n := 21, pin := 0, nils := [] }
noncomputable def impl_areIn.fn : D.Fn := { body := Tryd.f53.body.getD .skip, res := Tryd.f53.results.toList, ins := [.one (.v (.int .i64)), .one (.v (.sl 2 (.int .i64)))], outs := [.one (.v .bool)] }
def impl_areIn.enc (y : lsd (flats impl_areIn.fn.outs) × lsd (ios impl_areIn.fn.ins)) : Bool := y.1.1
noncomputable def impl_areIn.f (a0 : Int) (l1 : List Int) : Option Bool := denF impl_areIn.E impl_areIn.fn impl_areIn.enc (a0, l1, ())
noncomputable def impl_areIn.l0 (x0 : Int) (x7 : List Int) (x8 : Int) (x9 : Int) : Option Bool := denAt impl_areIn.E impl_areIn.fn impl_areIn.enc [1, 0, 1, 0] { fr := [(0, .lf (.int .i64 x0)), (7, .lf (.sl (.int .i64) x7)), (8, .lf (.int .i64 x8)), (9, .lf (.int .i64 x9))], ob := [], nx := 0 }
set_option maxRecDepth 100000 in
theorem impl_areIn.f_eq (a0 : Int) (l1 : List Int) : impl_areIn.f a0 l1 = impl_areIn.l0 a0 l1 (l1.length : Int) 0 := by kernel_rfl
set_option maxRecDepth 100000 in
theorem impl_areIn.l0_eq (x0 : Int) (x7 : List Int) (x8 : Int) (x9 : Int) : impl_areIn.l0 x0 x7 x8 x9 = if x9 < x8 then (if 0 ≤ x9 then (if x9 < (x7.length : Int) then (if (rd x7 x9) < 0 then (some false) else (if (rd x7 x9) ≥ x0 then (some false) else (impl_areIn.l0 x0 x7 x8 (wrapI (x9 + 1))))) else none) else none) else (some true) := (loop_unfold _ _ _ _).trans (by kernel_rfl)
noncomputable def impl_areIn.con : Con := ⟨impl_areIn.fn.ins, impl_areIn.fn.outs, Bool, fun x => impl_areIn.f x.1 x.2.1, fun r => ((r, ()), (()))⟩
theorem impl_areIn.valid : Valid Tryd.prog 53 impl_areIn.con := fn_valid (f := impl_areIn.fn) (E := impl_areIn.E) (enc := impl_areIn.enc) ⟨ttOk, conNil⟩ (Checked.mixed Tryd.checked) ⟨Tryd.func53, by kernel_rfl, by kernel_rfl, by kernel_rfl, by kernel_rfl, by decide, by kernel_rfl, by kernel_rfl⟩ (fun _ => rfl)
end Go.Proofs.YtacipknfhoadoaaDoor.P
set_option linter.unusedVariables false
namespace Go.Proofs.YtacipknfhoadoaaDoor.P
open Go Go.RowKit Go.Proofs.YtacipknfhoadoaaDoor.D
noncomputable def impl_order.E : Env := { tt := TT, con := [], frz := [], rows := [], live := [], n := 6, pin := 0, nils := [] }
noncomputable def impl_order.fn : D.Fn := { body := Tryd.f64.body.getD .skip, res := Tryd.f64.results.toList, ins := [.agg [.v (.sl 25 (.sl 2 (.int .i64)))]], outs := [.one (.v (.int .i64))] }
def impl_order.enc (y : lsd (flats impl_order.fn.outs) × lsd (ios impl_order.fn.ins)) : Int := y.1.1
noncomputable def impl_order.f (l0_0 : List (List Int)) : Option Int := denF impl_order.E impl_order.fn impl_order.enc (l0_0, ())
set_option maxRecDepth 100000 in
theorem impl_order.f_eq (l0_0 : List (List Int)) : impl_order.f l0_0 = some (l0_0.length : Int) := by kernel_rfl
noncomputable def impl_order.con : Con := ⟨impl_order.fn.ins, impl_order.fn.outs, Int, fun x => impl_order.f x.1, fun r => ((r, ()), (()))⟩
theorem impl_order.valid : Valid Tryd.prog 64 impl_order.con := fn_valid (f := impl_order.fn) (E := impl_order.E) (enc := impl_order.enc) ⟨ttOk, conNil⟩ (Checked.mixed Tryd.checked) ⟨Tryd.func64, by kernel_rfl, by kernel_rfl, by kernel_rfl, by kernel_rfl, by decide, by kernel_rfl, by kernel_rfl⟩ (fun _ => rfl)
end Go.Proofs.YtacipknfhoadoaaDoor.P
set_option linter.unusedVariables false
namespace Go.Proofs.YtacipknfhoadoaaDoor.P
open Go Go.RowKit Go.Proofs.YtacipknfhoadoaaDoor.D
noncomputable def slices_Index_int64.E : Env := { tt := TT, con := [], frz := [], rows := [], live := [(2, [0, 1, 7, 8])], n := 19, pin := 0, nils := [] }
noncomputable def slices_Index_int64.fn : D.Fn := { body := Tryd.f78.body.getD .skip, res := Tryd.f78.results.toList, ins := [.one (.v (.sl 2 (.int .i64))), .one (.v (.int .i64))], outs := [.one (.v (.int .i64))] }
def slices_Index_int64.enc (y : lsd (flats slices_Index_int64.fn.outs) × lsd (ios slices_Index_int64.fn.ins)) : Int := y.1.1
noncomputable def slices_Index_int64.f (l0 : List Int) (a1 : Int) : Option Int := denF slices_Index_int64.E slices_Index_int64.fn slices_Index_int64.enc (l0, a1, ())
noncomputable def slices_Index_int64.l0 (x0 : List Int) (x1 : Int) (x7 : Int) (x8 : Int) : Option Int := denAt slices_Index_int64.E slices_Index_int64.fn slices_Index_int64.enc [1, 0, 1, 0] { fr := [(0, .lf (.sl (.int .i64) x0)), (1, .lf (.int .i64 x1)), (7, .lf (.int .i64 x7)), (8, .lf (.int .i64 x8))], ob := [], nx := 0 }
set_option maxRecDepth 100000 in
theorem slices_Index_int64.f_eq (l0 : List Int) (a1 : Int) : slices_Index_int64.f l0 a1 = slices_Index_int64.l0 l0 a1 (l0.length : Int) 0 := by kernel_rfl
set_option maxRecDepth 100000 in
theorem slices_Index_int64.l0_eq (x0 : List Int) (x1 : Int) (x7 : Int) (x8 : Int) : slices_Index_int64.l0 x0 x1 x7 x8 = if x8 < x7 then (if 0 ≤ x8 then (if x8 < (x0.length : Int) then (if x1 = (rd x0 x8) then (some x8) else (slices_Index_int64.l0 x0 x1 x7 (wrapI (x8 + 1)))) else none) else none) else (some (-1)) := (loop_unfold _ _ _ _).trans (by kernel_rfl)
noncomputable def slices_Index_int64.con : Con := ⟨slices_Index_int64.fn.ins, slices_Index_int64.fn.outs, Int, fun x => slices_Index_int64.f x.1 x.2.1, fun r => ((r, ()), (()))⟩
theorem slices_Index_int64.valid : Valid Tryd.prog 78 slices_Index_int64.con := fn_valid (f := slices_Index_int64.fn) (E := slices_Index_int64.E) (enc := slices_Index_int64.enc) ⟨ttOk, conNil⟩ (Checked.mixed Tryd.checked) ⟨Tryd.func78, by kernel_rfl, by kernel_rfl, by kernel_rfl, by kernel_rfl, by decide, by kernel_rfl, by kernel_rfl⟩ (fun _ => rfl)
end Go.Proofs.YtacipknfhoadoaaDoor.P
set_option linter.unusedVariables false
namespace Go.Proofs.YtacipknfhoadoaaDoor.P
open Go Go.RowKit Go.Proofs.YtacipknfhoadoaaDoor.D
noncomputable def slices_Contains_int64.E : Env := { tt := TT, con := [(78, slices_Index_int64.con)], frz := [], rows := [], live := [], n := 9, pin := 0, nils := [] }
noncomputable def slices_Contains_int64.fn : D.Fn := { body := Tryd.f66.body.getD .skip, res := Tryd.f66.results.toList, ins := [.one (.v (.sl 2 (.int .i64))), .one (.v (.int .i64))], outs := [.one (.v .bool)] }
def slices_Contains_int64.enc (y : lsd (flats slices_Contains_int64.fn.outs) × lsd (ios slices_Contains_int64.fn.ins)) : Bool := y.1.1
noncomputable def slices_Contains_int64.f (l0 : List Int) (a1 : Int) : Option Bool := denF slices_Contains_int64.E slices_Contains_int64.fn slices_Contains_int64.enc (l0, a1, ())
set_option maxRecDepth 100000 in
theorem slices_Contains_int64.f_eq (l0 : List Int) (a1 : Int) : slices_Contains_int64.f l0 a1 = (slices_Index_int64.f l0 a1).bind fun t7 => some (decide (t7 ≥ 0)) := by kernel_rfl
noncomputable def slices_Contains_int64.con : Con := ⟨slices_Contains_int64.fn.ins, slices_Contains_int64.fn.outs, Bool, fun x => slices_Contains_int64.f x.1 x.2.1, fun r => ((r, ()), (()))⟩
theorem slices_Contains_int64.valid : Valid Tryd.prog 66 slices_Contains_int64.con := fn_valid (f := slices_Contains_int64.fn) (E := slices_Contains_int64.E) (enc := slices_Contains_int64.enc) ⟨ttOk, (conCons slices_Index_int64.valid conNil)⟩ (Checked.mixed Tryd.checked) ⟨Tryd.func66, by kernel_rfl, by kernel_rfl, by kernel_rfl, by kernel_rfl, by decide, by kernel_rfl, by kernel_rfl⟩ (fun _ => rfl)
end Go.Proofs.YtacipknfhoadoaaDoor.P
set_option linter.unusedVariables false
namespace Go.Proofs.YtacipknfhoadoaaDoor.P
open Go Go.RowKit Go.Proofs.YtacipknfhoadoaaDoor.D
noncomputable def impl_IsGroup.E : Env := { tt := TT, con := [(64, impl_order.con), (53, impl_areIn.con), (66, slices_Contains_int64.con)], frz := [], rows := [], live := [(5, [1, 3, 18, 19, 20]), (11, [1, 3, 35, 36]), (16, [1, 3, 6, 35, 36, 68, 69]), (19, [1, 3, 6, 7, 35, 36, 68, 69, 72, 73])], n := 110, pin := 0, nils := [] }
noncomputable def impl_IsGroup.fn : D.Fn := { body := Tryd.f57.body.getD .skip, res := Tryd.f57.results.toList, ins := [.agg [.v (.sl 25 (.sl 2 (.int .i64)))]], outs := [.one (.v .bool)] }
def impl_IsGroup.enc (y : lsd (flats impl_IsGroup.fn.outs) × lsd (ios impl_IsGroup.fn.ins)) : Bool := y.1.1
noncomputable def impl_IsGroup.f (l0_0 : List (List Int)) : Option Bool := denF impl_IsGroup.E impl_IsGroup.fn impl_IsGroup.enc (l0_0, ())
noncomputable def impl_IsGroup.l0 (x3 : Int) (x18 : List (List Int)) (x19 : Int) (x20 : Int) (b0_0 : List (List Int)) : Option Bool := denAt impl_IsGroup.E impl_IsGroup.fn impl_IsGroup.enc [1, 1, 1, 0, 1, 0] { fr := [(1, .lf (.box 0 0)), (3, .lf (.int .i64 x3)), (18, .lf (.sl (.sl 2 (.int .i64)) x18)), (19, .lf (.int .i64 x19)), (20, .lf (.int .i64 x20))], ob := [(0, .box 35 false [.sl (.sl 2 (.int .i64)) b0_0])], nx := 1 }
noncomputable def impl_IsGroup.l1 (x3 : Int) (x35 : Int) (x36 : Int) (b0_0 : List (List Int)) : Option Bool := denAt impl_IsGroup.E impl_IsGroup.fn impl_IsGroup.enc [1, 1, 1, 1, 0, 1, 0] { fr := [(1, .lf (.box 0 0)), (3, .lf (.int .i64 x3)), (35, .lf (.int .i64 x35)), (36, .lf (.int .i64 x36))], ob := [(0, .box 35 false [.sl (.sl 2 (.int .i64)) b0_0])], nx := 1 }
noncomputable def impl_IsGroup.l2 (x3 : Int) (x6 : Int) (x35 : Int) (x36 : Int) (x68 : Int) (x69 : Int) (b0_0 : List (List Int)) : Option Bool := denAt impl_IsGroup.E impl_IsGroup.fn impl_IsGroup.enc [1, 1, 1, 1, 0, 1, 0, 0, 1, 1, 0, 0, 1, 1, 1, 0] { fr := [(1, .lf (.box 0 0)), (3, .lf (.int .i64 x3)), (6, .lf (.int .i64 x6)), (35, .lf (.int .i64 x35)), (36, .lf (.int .i64 x36)), (68, .lf (.int .i64 x68)), (69, .lf (.int .i64 x69))], ob := [(0, .box 35 false [.sl (.sl 2 (.int .i64)) b0_0])], nx := 1 }
noncomputable def impl_IsGroup.l3 (x3 : Int) (x6 : Int) (x7 : Int) (x35 : Int) (x36 : Int) (x68 : Int) (x69 : Int) (x72 : Int) (x73 : Int) (b0_0 : List (List Int)) : Option Bool := denAt impl_IsGroup.E impl_IsGroup.fn impl_IsGroup.enc [1, 1, 1, 1, 0, 1, 0, 0, 1, 1, 0, 0, 1, 1, 1, 0, 0, 1, 1, 0, 0, 1, 1, 0] { fr := [(1, .lf (.box 0 0)), (3, .lf (.int .i64 x3)), (6, .lf (.int .i64 x6)), (7, .lf (.int .i64 x7)), (35, .lf (.int .i64 x35)), (36, .lf (.int .i64 x36)), (68, .lf (.int .i64 x68)), (69, .lf (.int .i64 x69)), (72, .lf (.int .i64 x72)), (73, .lf (.int .i64 x73))], ob := [(0, .box 35 false [.sl (.sl 2 (.int .i64)) b0_0])], nx := 1 }
set_option maxRecDepth 100000 in
theorem impl_IsGroup.f_eq (l0_0 : List (List Int)) : impl_IsGroup.f l0_0 = (impl_order.f l0_0).bind fun t10 => if t10 < 1 then (some false) else (if t10 > 8 then (some false) else (impl_IsGroup.l0 t10 l0_0 (l0_0.length : Int) 0 l0_0)) := by kernel_rfl
set_option maxRecDepth 100000 in
theorem impl_IsGroup.l0_eq (x3 : Int) (x18 : List (List Int)) (x19 : Int) (x20 : Int) (b0_0 : List (List Int)) : impl_IsGroup.l0 x3 x18 x19 x20 b0_0 = if x20 < x19 then (if 0 ≤ x20 then (if x20 < (x18.length : Int) then (if ((row x18 x20).length : Int) = x3 then ((impl_areIn.f x3 (row x18 x20)).bind fun t31 => if t31 = true then (impl_IsGroup.l0 x3 x18 x19 (wrapI (x20 + 1)) b0_0) else (some false)) else (some false)) else none) else none) else (impl_IsGroup.l1 x3 x3 0 b0_0) := (loop_unfold _ _ _ _).trans (by kernel_rfl)
set_option maxRecDepth 100000 in
theorem impl_IsGroup.l1_eq (x3 : Int) (x35 : Int) (x36 : Int) (b0_0 : List (List Int)) : impl_IsGroup.l1 x3 x35 x36 b0_0 = if x36 < x35 then (if 0 < (b0_0.length : Int) then (if 0 ≤ x36 then (if x36 < ((row b0_0 0).length : Int) then (if (T b0_0 0 x36) = x36 then (if 0 ≤ x36 then (if x36 < (b0_0.length : Int) then (if 0 < ((row b0_0 x36).length : Int) then (if (T b0_0 x36 0) = x36 then (if 0 ≤ x36 then (if x36 < (b0_0.length : Int) then ((slices_Contains_int64.f (row b0_0 x36) 0).bind fun t65 => if t65 = true then (impl_IsGroup.l2 x3 x36 x35 x36 x3 0 b0_0) else (some false)) else none) else none) else (some false)) else none) else none) else none) else (some false)) else none) else none) else none) else (some true) := (loop_unfold _ _ _ _).trans (by kernel_rfl)
set_option maxRecDepth 100000 in
theorem impl_IsGroup.l2_eq (x3 : Int) (x6 : Int) (x35 : Int) (x36 : Int) (x68 : Int) (x69 : Int) (b0_0 : List (List Int)) : impl_IsGroup.l2 x3 x6 x35 x36 x68 x69 b0_0 = if x69 < x68 then (impl_IsGroup.l3 x3 x6 x69 x35 x36 x68 x69 x3 0 b0_0) else (impl_IsGroup.l1 x3 x35 (wrapI (x36 + 1)) b0_0) := (loop_unfold _ _ _ _).trans (by kernel_rfl)
set_option maxRecDepth 100000 in
theorem impl_IsGroup.l3_eq (x3 : Int) (x6 : Int) (x7 : Int) (x35 : Int) (x36 : Int) (x68 : Int) (x69 : Int) (x72 : Int) (x73 : Int) (b0_0 : List (List Int)) : impl_IsGroup.l3 x3 x6 x7 x35 x36 x68 x69 x72 x73 b0_0 = if x73 < x72 then (if 0 ≤ x6 then (if x6 < (b0_0.length : Int) then (if 0 ≤ x7 then (if x7 < ((row b0_0 x6).length : Int) then (if 0 ≤ T b0_0 x6 x7 then (if T b0_0 x6 x7 < (b0_0.length : Int) then (if 0 ≤ x73 then (if x73 < ((row b0_0 (T b0_0 x6 x7)).length : Int) then (if 0 ≤ x6 then (if x6 < (b0_0.length : Int) then (if 0 ≤ x7 then (if x7 < (b0_0.length : Int) then (if 0 ≤ x73 then (if x73 < ((row b0_0 x7).length : Int) then (if 0 ≤ T b0_0 x7 x73 then (if T b0_0 x7 x73 < ((row b0_0 x6).length : Int) then (if (T b0_0 (T b0_0 x6 x7) x73) = (T b0_0 x6 (T b0_0 x7 x73)) then (impl_IsGroup.l3 x3 x6 x7 x35 x36 x68 x69 x72 (wrapI (x73 + 1)) b0_0) else (some false)) else none) else none) else none) else none) else none) else none) else none) else none) else none) else none) else none) else none) else none) else none) else none) else none) else (impl_IsGroup.l2 x3 x6 x35 x36 x68 (wrapI (x69 + 1)) b0_0) := (loop_unfold _ _ _ _).trans (by kernel_rfl)
noncomputable def impl_IsGroup.con : Con := ⟨impl_IsGroup.fn.ins, impl_IsGroup.fn.outs, Bool, fun x => impl_IsGroup.f x.1, fun r => ((r, ()), (()))⟩
theorem impl_IsGroup.valid : Valid Tryd.prog 57 impl_IsGroup.con := fn_valid (f := impl_IsGroup.fn) (E := impl_IsGroup.E) (enc := impl_IsGroup.enc) ⟨ttOk, (conCons impl_order.valid (conCons impl_areIn.valid (conCons slices_Contains_int64.valid conNil)))⟩ (Checked.mixed Tryd.checked) ⟨Tryd.func57, by kernel_rfl, by kernel_rfl, by kernel_rfl, by kernel_rfl, by decide, by kernel_rfl, by kernel_rfl⟩ (fun _ => rfl)
end Go.Proofs.YtacipknfhoadoaaDoor.P
set_option linter.unusedVariables false
namespace Go.Proofs.YtacipknfhoadoaaDoor.P
open Go Go.RowKit Go.Proofs.YtacipknfhoadoaaDoor.D
noncomputable def impl_isModulus.E : Env := { tt := TT, con := [], frz := [], rows := [], live := [], n := 9, pin := 0, nils := [] }
noncomputable def impl_isModulus.fn : D.Fn := { body := Tryd.f67.body.getD .skip, res := Tryd.f67.results.toList, ins := [.one (.v (.int .i64))], outs := [.one (.v .bool)] }
def impl_isModulus.enc (y : lsd (flats impl_isModulus.fn.outs) × lsd (ios impl_isModulus.fn.ins)) : Bool := y.1.1
noncomputable def impl_isModulus.f (a0 : Int) : Option Bool := denF impl_isModulus.E impl_isModulus.fn impl_isModulus.enc (a0, ())
set_option maxRecDepth 100000 in
theorem impl_isModulus.f_eq (a0 : Int) : impl_isModulus.f a0 = if a0 ≥ 2 then (some (decide (a0 ≤ 12))) else (some false) := by kernel_rfl
noncomputable def impl_isModulus.con : Con := ⟨impl_isModulus.fn.ins, impl_isModulus.fn.outs, Bool, fun x => impl_isModulus.f x.1, fun r => ((r, ()), (()))⟩
theorem impl_isModulus.valid : Valid Tryd.prog 67 impl_isModulus.con := fn_valid (f := impl_isModulus.fn) (E := impl_isModulus.E) (enc := impl_isModulus.enc) ⟨ttOk, conNil⟩ (Checked.mixed Tryd.checked) ⟨Tryd.func67, by kernel_rfl, by kernel_rfl, by kernel_rfl, by kernel_rfl, by decide, by kernel_rfl, by kernel_rfl⟩ (fun _ => rfl)
end Go.Proofs.YtacipknfhoadoaaDoor.P
set_option linter.unusedVariables false
namespace Go.Proofs.YtacipknfhoadoaaDoor.P
open Go Go.RowKit Go.Proofs.YtacipknfhoadoaaDoor.D
noncomputable def impl_gcd.E : Env := { tt := TT, con := [], frz := [], rows := [], live := [(1, [0, 1])], n := 12, pin := 0, nils := [] }
noncomputable def impl_gcd.fn : D.Fn := { body := Tryd.f79.body.getD .skip, res := Tryd.f79.results.toList, ins := [.one (.v (.int .i64)), .one (.v (.int .i64))], outs := [.one (.v (.int .i64))] }
def impl_gcd.enc (y : lsd (flats impl_gcd.fn.outs) × lsd (ios impl_gcd.fn.ins)) : Int := y.1.1
noncomputable def impl_gcd.f (a0 : Int) (a1 : Int) : Option Int := denF impl_gcd.E impl_gcd.fn impl_gcd.enc (a0, a1, ())
noncomputable def impl_gcd.l0 (x0 : Int) (x1 : Int) : Option Int := denAt impl_gcd.E impl_gcd.fn impl_gcd.enc [1, 0, 0] { fr := [(0, .lf (.int .i64 x0)), (1, .lf (.int .i64 x1))], ob := [], nx := 0 }
set_option maxRecDepth 100000 in
theorem impl_gcd.f_eq (a0 : Int) (a1 : Int) : impl_gcd.f a0 a1 = impl_gcd.l0 a0 a1 := by kernel_rfl
set_option maxRecDepth 100000 in
theorem impl_gcd.l0_eq (x0 : Int) (x1 : Int) : impl_gcd.l0 x0 x1 = if x1 = 0 then (some x0) else (if x1 = 0 then none else (impl_gcd.l0 x1 ((x0 : Int).tmod x1))) := (loop_unfold _ _ _ _).trans (by kernel_rfl)
noncomputable def impl_gcd.con : Con := ⟨impl_gcd.fn.ins, impl_gcd.fn.outs, Int, fun x => impl_gcd.f x.1 x.2.1, fun r => ((r, ()), (()))⟩
theorem impl_gcd.valid : Valid Tryd.prog 79 impl_gcd.con := fn_valid (f := impl_gcd.fn) (E := impl_gcd.E) (enc := impl_gcd.enc) ⟨ttOk, conNil⟩ (Checked.mixed Tryd.checked) ⟨Tryd.func79, by kernel_rfl, by kernel_rfl, by kernel_rfl, by kernel_rfl, by decide, by kernel_rfl, by kernel_rfl⟩ (fun _ => rfl)
end Go.Proofs.YtacipknfhoadoaaDoor.P
set_option linter.unusedVariables false
namespace Go.Proofs.YtacipknfhoadoaaDoor.P
open Go Go.RowKit Go.Proofs.YtacipknfhoadoaaDoor.D
noncomputable def impl_isUnit.E : Env := { tt := TT, con := [(79, impl_gcd.con)], frz := [], rows := [], live := [], n := 18, pin := 0, nils := [] }
noncomputable def impl_isUnit.fn : D.Fn := { body := Tryd.f68.body.getD .skip, res := Tryd.f68.results.toList, ins := [.one (.v (.int .i64)), .one (.v (.int .i64))], outs := [.one (.v .bool)] }
def impl_isUnit.enc (y : lsd (flats impl_isUnit.fn.outs) × lsd (ios impl_isUnit.fn.ins)) : Bool := y.1.1
noncomputable def impl_isUnit.f (a0 : Int) (a1 : Int) : Option Bool := denF impl_isUnit.E impl_isUnit.fn impl_isUnit.enc (a0, a1, ())
set_option maxRecDepth 100000 in
theorem impl_isUnit.f_eq (a0 : Int) (a1 : Int) : impl_isUnit.f a0 a1 = if a1 ≥ 1 then (if a1 < a0 then ((impl_gcd.f a0 a1).bind fun t15 => some (decide (t15 = 1))) else (some false)) else (some false) := by kernel_rfl
noncomputable def impl_isUnit.con : Con := ⟨impl_isUnit.fn.ins, impl_isUnit.fn.outs, Bool, fun x => impl_isUnit.f x.1 x.2.1, fun r => ((r, ()), (()))⟩
theorem impl_isUnit.valid : Valid Tryd.prog 68 impl_isUnit.con := fn_valid (f := impl_isUnit.fn) (E := impl_isUnit.E) (enc := impl_isUnit.enc) ⟨ttOk, (conCons impl_gcd.valid conNil)⟩ (Checked.mixed Tryd.checked) ⟨Tryd.func68, by kernel_rfl, by kernel_rfl, by kernel_rfl, by kernel_rfl, by decide, by kernel_rfl, by kernel_rfl⟩ (fun _ => rfl)
end Go.Proofs.YtacipknfhoadoaaDoor.P
set_option linter.unusedVariables false
namespace Go.Proofs.YtacipknfhoadoaaDoor.P
open Go Go.RowKit Go.Proofs.YtacipknfhoadoaaDoor.D
noncomputable def impl_Group_times.E : Env := { tt := TT, con := [], frz := [], rows := [], live := [(3, [2, 5, 8, 9, 10])], n := 24, pin := 0, nils := [] }
noncomputable def impl_Group_times.fn : D.Fn := { body := Tryd.f69.body.getD .skip, res := Tryd.f69.results.toList, ins := [.agg [.v (.sl 25 (.sl 2 (.int .i64)))], .one (.v (.sl 2 (.int .i64)))], outs := [.one (.v (.int .i64))] }
def impl_Group_times.enc (y : lsd (flats impl_Group_times.fn.outs) × lsd (ios impl_Group_times.fn.ins)) : Int := y.1.1
noncomputable def impl_Group_times.f (l0_0 : List (List Int)) (l1 : List Int) : Option Int := denF impl_Group_times.E impl_Group_times.fn impl_Group_times.enc (l0_0, l1, ())
noncomputable def impl_Group_times.l0 (x5 : Int) (x8 : List Int) (x9 : Int) (x10 : Int) (b0_0 : List (List Int)) : Option Int := denAt impl_Group_times.E impl_Group_times.fn impl_Group_times.enc [1, 1, 0, 1, 0] { fr := [(2, .lf (.box 0 0)), (5, .lf (.int .i64 x5)), (8, .lf (.sl (.int .i64) x8)), (9, .lf (.int .i64 x9)), (10, .lf (.int .i64 x10))], ob := [(0, .box 35 false [.sl (.sl 2 (.int .i64)) b0_0])], nx := 1 }
set_option maxRecDepth 100000 in
theorem impl_Group_times.f_eq (l0_0 : List (List Int)) (l1 : List Int) : impl_Group_times.f l0_0 l1 = impl_Group_times.l0 0 l1 (l1.length : Int) 0 l0_0 := by kernel_rfl
set_option maxRecDepth 100000 in
theorem impl_Group_times.l0_eq (x5 : Int) (x8 : List Int) (x9 : Int) (x10 : Int) (b0_0 : List (List Int)) : impl_Group_times.l0 x5 x8 x9 x10 b0_0 = if x10 < x9 then (if 0 ≤ x10 then (if x10 < (x8.length : Int) then (if 0 ≤ x5 then (if x5 < (b0_0.length : Int) then (if 0 ≤ rd x8 x10 then (if rd x8 x10 < ((row b0_0 x5).length : Int) then (impl_Group_times.l0 (T b0_0 x5 (rd x8 x10)) x8 x9 (wrapI (x10 + 1)) b0_0) else none) else none) else none) else none) else none) else none) else (some x5) := (loop_unfold _ _ _ _).trans (by kernel_rfl)
noncomputable def impl_Group_times.con : Con := ⟨impl_Group_times.fn.ins, impl_Group_times.fn.outs, Int, fun x => impl_Group_times.f x.1 x.2.1, fun r => ((r, ()), (()))⟩
theorem impl_Group_times.valid : Valid Tryd.prog 69 impl_Group_times.con := fn_valid (f := impl_Group_times.fn) (E := impl_Group_times.E) (enc := impl_Group_times.enc) ⟨ttOk, conNil⟩ (Checked.mixed Tryd.checked) ⟨Tryd.func69, by kernel_rfl, by kernel_rfl, by kernel_rfl, by kernel_rfl, by decide, by kernel_rfl, by kernel_rfl⟩ (fun _ => rfl)
end Go.Proofs.YtacipknfhoadoaaDoor.P
set_option linter.unusedVariables false
namespace Go.Proofs.YtacipknfhoadoaaDoor.P
open Go Go.RowKit Go.Proofs.YtacipknfhoadoaaDoor.D
noncomputable def impl_isModule.E : Env := { tt := TT, con := [(67, impl_isModulus.con), (64, impl_order.con), (68, impl_isUnit.con), (69, impl_Group_times.con)], frz := [], rows := [], live := [(4, [2, 3, 29, 30, 31]), (10, [2, 3, 42, 43]), (13, [2, 3, 7, 42, 43, 47, 48])], n := 77, pin := 0, nils := [] }
noncomputable def impl_isModule.fn : D.Fn := { body := Tryd.f58.body.getD .skip, res := Tryd.f58.results.toList, ins := [.agg [.v (.sl 25 (.sl 2 (.int .i64)))], .agg [.v (.int .i64), .v (.sl 2 (.int .i64))]], outs := [.one (.v .bool)] }
def impl_isModule.enc (y : lsd (flats impl_isModule.fn.outs) × lsd (ios impl_isModule.fn.ins)) : Bool := y.1.1
noncomputable def impl_isModule.f (l0_0 : List (List Int)) (a1_0 : Int) (l1_1 : List Int) : Option Bool := denF impl_isModule.E impl_isModule.fn impl_isModule.enc (l0_0, a1_0, l1_1, ())
noncomputable def impl_isModule.l0 (x29 : List Int) (x30 : Int) (x31 : Int) (b0_0 : List (List Int)) (b1_0 : Int) (b1_1 : List Int) : Option Bool := denAt impl_isModule.E impl_isModule.fn impl_isModule.enc [1, 1, 0, 1, 0] { fr := [(2, .lf (.box 0 0)), (3, .lf (.box 1 0)), (29, .lf (.sl (.int .i64) x29)), (30, .lf (.int .i64 x30)), (31, .lf (.int .i64 x31))], ob := [(0, .box 35 false [.sl (.sl 2 (.int .i64)) b0_0]), (1, .box 37 false [.int .i64 b1_0, .sl (.int .i64) b1_1])], nx := 2 }
noncomputable def impl_isModule.l1 (x42 : Int) (x43 : Int) (b0_0 : List (List Int)) (b1_0 : Int) (b1_1 : List Int) : Option Bool := denAt impl_isModule.E impl_isModule.fn impl_isModule.enc [1, 1, 1, 0, 1, 0] { fr := [(2, .lf (.box 0 0)), (3, .lf (.box 1 0)), (42, .lf (.int .i64 x42)), (43, .lf (.int .i64 x43))], ob := [(0, .box 35 false [.sl (.sl 2 (.int .i64)) b0_0]), (1, .box 37 false [.int .i64 b1_0, .sl (.int .i64) b1_1])], nx := 2 }
noncomputable def impl_isModule.l2 (x7 : Int) (x42 : Int) (x43 : Int) (x47 : Int) (x48 : Int) (b0_0 : List (List Int)) (b1_0 : Int) (b1_1 : List Int) : Option Bool := denAt impl_isModule.E impl_isModule.fn impl_isModule.enc [1, 1, 1, 0, 1, 0, 0, 1, 1, 0, 0, 1, 1, 0] { fr := [(2, .lf (.box 0 0)), (3, .lf (.box 1 0)), (7, .lf (.int .i64 x7)), (42, .lf (.int .i64 x42)), (43, .lf (.int .i64 x43)), (47, .lf (.int .i64 x47)), (48, .lf (.int .i64 x48))], ob := [(0, .box 35 false [.sl (.sl 2 (.int .i64)) b0_0]), (1, .box 37 false [.int .i64 b1_0, .sl (.int .i64) b1_1])], nx := 2 }
set_option maxRecDepth 100000 in
theorem impl_isModule.f_eq (l0_0 : List (List Int)) (a1_0 : Int) (l1_1 : List Int) : impl_isModule.f l0_0 a1_0 l1_1 = (impl_isModulus.f a1_0).bind fun t11 => if t11 = true then ((impl_order.f l0_0).bind fun t18 => if (l1_1.length : Int) = t18 then (if 0 < (l1_1.length : Int) then (if (rd l1_1 0) = 1 then (impl_isModule.l0 l1_1 (l1_1.length : Int) 0 l0_0 a1_0 l1_1) else (some false)) else none) else (some false)) else (some false) := by kernel_rfl
set_option maxRecDepth 100000 in
theorem impl_isModule.l0_eq (x29 : List Int) (x30 : Int) (x31 : Int) (b0_0 : List (List Int)) (b1_0 : Int) (b1_1 : List Int) : impl_isModule.l0 x29 x30 x31 b0_0 b1_0 b1_1 = if x31 < x30 then (if 0 ≤ x31 then (if x31 < (x29.length : Int) then ((impl_isUnit.f b1_0 (rd x29 x31)).bind fun t38 => if t38 = true then (impl_isModule.l0 x29 x30 (wrapI (x31 + 1)) b0_0 b1_0 b1_1) else (some false)) else none) else none) else ((impl_order.f b0_0).bind fun t42 => impl_isModule.l1 t42 0 b0_0 b1_0 b1_1) := (loop_unfold _ _ _ _).trans (by kernel_rfl)
set_option maxRecDepth 100000 in
theorem impl_isModule.l1_eq (x42 : Int) (x43 : Int) (b0_0 : List (List Int)) (b1_0 : Int) (b1_1 : List Int) : impl_isModule.l1 x42 x43 b0_0 b1_0 b1_1 = if x43 < x42 then ((impl_order.f b0_0).bind fun t47 => impl_isModule.l2 x43 x42 x43 t47 0 b0_0 b1_0 b1_1) else (some true) := (loop_unfold _ _ _ _).trans (by kernel_rfl)
set_option maxRecDepth 100000 in
theorem impl_isModule.l2_eq (x7 : Int) (x42 : Int) (x43 : Int) (x47 : Int) (x48 : Int) (b0_0 : List (List Int)) (b1_0 : Int) (b1_1 : List Int) : impl_isModule.l2 x7 x42 x43 x47 x48 b0_0 b1_0 b1_1 = if x48 < x47 then ((impl_Group_times.f b0_0 ([x7, x48] : List Int)).bind fun t57 => if 0 ≤ t57 then (if t57 < (b1_1.length : Int) then (if 0 ≤ x7 then (if x7 < (b1_1.length : Int) then (if 0 ≤ x48 then (if x48 < (b1_1.length : Int) then (if b1_0 = 0 then none else (if (rd b1_1 t57) = ((wrapI ((rd b1_1 x7) * (rd b1_1 x48)) : Int).tmod b1_0) then (impl_isModule.l2 x7 x42 x43 x47 (wrapI (x48 + 1)) b0_0 b1_0 b1_1) else (some false))) else none) else none) else none) else none) else none) else none) else (impl_isModule.l1 x42 (wrapI (x43 + 1)) b0_0 b1_0 b1_1) := (loop_unfold _ _ _ _).trans (by kernel_rfl)
noncomputable def impl_isModule.con : Con := ⟨impl_isModule.fn.ins, impl_isModule.fn.outs, Bool, fun x => impl_isModule.f x.1 x.2.1 x.2.2.1, fun r => ((r, ()), (()))⟩
theorem impl_isModule.valid : Valid Tryd.prog 58 impl_isModule.con := fn_valid (f := impl_isModule.fn) (E := impl_isModule.E) (enc := impl_isModule.enc) ⟨ttOk, (conCons impl_isModulus.valid (conCons impl_order.valid (conCons impl_isUnit.valid (conCons impl_Group_times.valid conNil))))⟩ (Checked.mixed Tryd.checked) ⟨Tryd.func58, by kernel_rfl, by kernel_rfl, by kernel_rfl, by kernel_rfl, by decide, by kernel_rfl, by kernel_rfl⟩ (fun _ => rfl)
end Go.Proofs.YtacipknfhoadoaaDoor.P
set_option linter.unusedVariables false
namespace Go.Proofs.YtacipknfhoadoaaDoor.P
open Go Go.RowKit Go.Proofs.YtacipknfhoadoaaDoor.D
noncomputable def impl_areModules.E : Env := { tt := TT, con := [(57, impl_IsGroup.con), (58, impl_isModule.con)], frz := [], rows := [], live := [(2, [2, 7, 8, 9])], n := 23, pin := 0, nils := [] }
noncomputable def impl_areModules.fn : D.Fn := { body := Tryd.f43.body.getD .skip, res := Tryd.f43.results.toList, ins := [.agg [.v (.sl 25 (.sl 2 (.int .i64)))], .one (.v (.sl 37 (.pr (.int .i64) (.sl 2 (.int .i64)))))], outs := [.one (.v .bool)] }
def impl_areModules.enc (y : lsd (flats impl_areModules.fn.outs) × lsd (ios impl_areModules.fn.ins)) : Bool := y.1.1
noncomputable def impl_areModules.f (l0_0 : List (List Int)) (l1 : List (Int × (List Int))) : Option Bool := denF impl_areModules.E impl_areModules.fn impl_areModules.enc (l0_0, l1, ())
noncomputable def impl_areModules.l0 (x7 : List (Int × (List Int))) (x8 : Int) (x9 : Int) (b0_0 : List (List Int)) : Option Bool := denAt impl_areModules.E impl_areModules.fn impl_areModules.enc [1, 0, 1, 0] { fr := [(2, .lf (.box 0 0)), (7, .lf (.sl (.pr (.int .i64) (.sl 2 (.int .i64))) x7)), (8, .lf (.int .i64 x8)), (9, .lf (.int .i64 x9))], ob := [(0, .box 35 false [.sl (.sl 2 (.int .i64)) b0_0])], nx := 1 }
set_option maxRecDepth 100000 in
theorem impl_areModules.f_eq (l0_0 : List (List Int)) (l1 : List (Int × (List Int))) : impl_areModules.f l0_0 l1 = impl_areModules.l0 l1 (l1.length : Int) 0 l0_0 := by kernel_rfl
set_option maxRecDepth 100000 in
theorem impl_areModules.l0_eq (x7 : List (Int × (List Int))) (x8 : Int) (x9 : Int) (b0_0 : List (List Int)) : impl_areModules.l0 x7 x8 x9 b0_0 = if x9 < x8 then (if 0 ≤ x9 then (if x9 < (x7.length : Int) then ((impl_IsGroup.f b0_0).bind fun t14 => if t14 = true then ((impl_isModule.f b0_0 ((Ty.rd (.pr (.int .i64) (.sl 2 (.int .i64))) x7 x9).1) ((Ty.rd (.pr (.int .i64) (.sl 2 (.int .i64))) x7 x9).2)).bind fun t19 => if t19 = true then (impl_areModules.l0 x7 x8 (wrapI (x9 + 1)) b0_0) else (some false)) else (some false)) else none) else none) else (some true) := (loop_unfold _ _ _ _).trans (by kernel_rfl)
noncomputable def impl_areModules.con : Con := ⟨impl_areModules.fn.ins, impl_areModules.fn.outs, Bool, fun x => impl_areModules.f x.1 x.2.1, fun r => ((r, ()), (()))⟩
theorem impl_areModules.valid : Valid Tryd.prog 43 impl_areModules.con := fn_valid (f := impl_areModules.fn) (E := impl_areModules.E) (enc := impl_areModules.enc) ⟨ttOk, (conCons impl_IsGroup.valid (conCons impl_isModule.valid conNil))⟩ (Checked.mixed Tryd.checked) ⟨Tryd.func43, by kernel_rfl, by kernel_rfl, by kernel_rfl, by kernel_rfl, by decide, by kernel_rfl, by kernel_rfl⟩ (fun _ => rfl)
end Go.Proofs.YtacipknfhoadoaaDoor.P
set_option linter.unusedVariables false
namespace Go.Proofs.YtacipknfhoadoaaDoor.P
open Go Go.RowKit Go.Proofs.YtacipknfhoadoaaDoor.D
noncomputable def impl_moduleCode.E : Env := { tt := TT, con := [(43, impl_areModules.con)], frz := [], rows := [], live := [], n := 9, pin := 0, nils := [] }
noncomputable def impl_moduleCode.fn : D.Fn := { body := Tryd.f33.body.getD .skip, res := Tryd.f33.results.toList, ins := [.agg [.v (.sl 25 (.sl 2 (.int .i64)))], .one (.v (.sl 37 (.pr (.int .i64) (.sl 2 (.int .i64)))))], outs := [.one (.v (.int .i64))] }
def impl_moduleCode.enc (y : lsd (flats impl_moduleCode.fn.outs) × lsd (ios impl_moduleCode.fn.ins)) : Int := y.1.1
noncomputable def impl_moduleCode.f (l0_0 : List (List Int)) (l1 : List (Int × (List Int))) : Option Int := denF impl_moduleCode.E impl_moduleCode.fn impl_moduleCode.enc (l0_0, l1, ())
set_option maxRecDepth 100000 in
theorem impl_moduleCode.f_eq (l0_0 : List (List Int)) (l1 : List (Int × (List Int))) : impl_moduleCode.f l0_0 l1 = (impl_areModules.f l0_0 l1).bind fun t7 => if t7 = true then (some 0) else (some 1) := by kernel_rfl
noncomputable def impl_moduleCode.con : Con := ⟨impl_moduleCode.fn.ins, impl_moduleCode.fn.outs, Int, fun x => impl_moduleCode.f x.1 x.2.1, fun r => ((r, ()), (()))⟩
theorem impl_moduleCode.valid : Valid Tryd.prog 33 impl_moduleCode.con := fn_valid (f := impl_moduleCode.fn) (E := impl_moduleCode.E) (enc := impl_moduleCode.enc) ⟨ttOk, (conCons impl_areModules.valid conNil)⟩ (Checked.mixed Tryd.checked) ⟨Tryd.func33, by kernel_rfl, by kernel_rfl, by kernel_rfl, by kernel_rfl, by decide, by kernel_rfl, by kernel_rfl⟩ (fun _ => rfl)
end Go.Proofs.YtacipknfhoadoaaDoor.P
