/- What the proof of the law CrossedMaps stands on, part 4: words, each Go function's Lean function, and that the Go code comes to its answers; no condition. (Packed by wip/myprint/pack.py out of what the kit's printer wrote, its words among it, partly by our patches of it, and out of texts of this session.) -/
import Derived.ChangeSlices
import Derived.ChangeSame
import Derived.Deep.Matrix
import Derived.Lib.SmallJoins
import Derived.Test.YtjknpaplgclflaaKCrossedMaps3
set_option linter.unusedVariables false
namespace Go.Proofs.Ytjknpaplgclflaa.P
open Go Go.RowKit Go.Proofs.Ytjknpaplgclflaa.D
noncomputable def laws_szGroup.E : Env := { tt := TT, con := [(23, laws_szInt64SS.con)], frz := [], rows := [], live := [], n := 12, pin := 0, nils := [] }
noncomputable def laws_szGroup.fn : D.Fn := { body := Try.f6.body.getD .skip, res := Try.f6.results.toList, ins := [.agg [.v (.sl 25 (.sl 2 (.int .i64)))], .one (.v (.int .i64))], outs := [.one (.v (.int .i64))] }
def laws_szGroup.enc (y : lsd (flats laws_szGroup.fn.outs) × lsd (ios laws_szGroup.fn.ins)) : Int := y.1.1
noncomputable def laws_szGroup.f (l0_0 : List (List Int)) (a1 : Int) : Option Int := denF laws_szGroup.E laws_szGroup.fn laws_szGroup.enc (l0_0, a1, ())
set_option maxRecDepth 100000 in
theorem laws_szGroup.f_eq (l0_0 : List (List Int)) (a1 : Int) : laws_szGroup.f l0_0 a1 = (laws_szInt64SS.f l0_0 a1).bind fun t8 => if t8 < 0 then (some (-1)) else (some t8) := by kernel_rfl
noncomputable def laws_szGroup.con : Con := ⟨laws_szGroup.fn.ins, laws_szGroup.fn.outs, Int, fun x => laws_szGroup.f x.1 x.2.1, fun r => ((r, ()), (()))⟩
theorem laws_szGroup.valid : Valid Try.prog 6 laws_szGroup.con := fn_valid (f := laws_szGroup.fn) (E := laws_szGroup.E) (enc := laws_szGroup.enc) ⟨ttOk, (conCons laws_szInt64SS.valid conNil)⟩ (Checked.mixed Try.checked) ⟨Try.func6, by kernel_rfl, by kernel_rfl, by kernel_rfl, by kernel_rfl, by decide, by kernel_rfl, by kernel_rfl⟩ (fun _ => rfl)
end Go.Proofs.Ytjknpaplgclflaa.P
set_option linter.unusedVariables false
namespace Go.Proofs.Ytjknpaplgclflaa.P
open Go Go.RowKit Go.Proofs.Ytjknpaplgclflaa.D
noncomputable def laws_szModule.E : Env := { tt := TT, con := [(24, laws_szInt64S.con)], frz := [], rows := [], live := [], n := 12, pin := 0, nils := [] }
noncomputable def laws_szModule.fn : D.Fn := { body := Try.f7.body.getD .skip, res := Try.f7.results.toList, ins := [.agg [.v (.int .i64), .v (.sl 2 (.int .i64))], .one (.v (.int .i64))], outs := [.one (.v (.int .i64))] }
def laws_szModule.enc (y : lsd (flats laws_szModule.fn.outs) × lsd (ios laws_szModule.fn.ins)) : Int := y.1.1
noncomputable def laws_szModule.f (a0_0 : Int) (l0_1 : List Int) (a1 : Int) : Option Int := denF laws_szModule.E laws_szModule.fn laws_szModule.enc (a0_0, l0_1, a1, ())
set_option maxRecDepth 100000 in
theorem laws_szModule.f_eq (a0_0 : Int) (l0_1 : List Int) (a1 : Int) : laws_szModule.f a0_0 l0_1 a1 = (laws_szInt64S.f l0_1 a1).bind fun t8 => if t8 < 0 then (some (-1)) else (some t8) := by kernel_rfl
noncomputable def laws_szModule.con : Con := ⟨laws_szModule.fn.ins, laws_szModule.fn.outs, Int, fun x => laws_szModule.f x.1 x.2.1 x.2.2.1, fun r => ((r, ()), (()))⟩
theorem laws_szModule.valid : Valid Try.prog 7 laws_szModule.con := fn_valid (f := laws_szModule.fn) (E := laws_szModule.E) (enc := laws_szModule.enc) ⟨ttOk, (conCons laws_szInt64S.valid conNil)⟩ (Checked.mixed Try.checked) ⟨Try.func7, by kernel_rfl, by kernel_rfl, by kernel_rfl, by kernel_rfl, by decide, by kernel_rfl, by kernel_rfl⟩ (fun _ => rfl)
end Go.Proofs.Ytjknpaplgclflaa.P
set_option linter.unusedVariables false
namespace Go.Proofs.Ytjknpaplgclflaa.P
open Go Go.RowKit Go.Proofs.Ytjknpaplgclflaa.D
noncomputable def laws_toInt64S.E : Env := { tt := TT, con := [], frz := [], rows := [], live := [(3, [0, 3, 4])], n := 22, pin := 0, nils := [] }
noncomputable def laws_toInt64S.fn : D.Fn := { body := Try.f29.body.getD .skip, res := Try.f29.results.toList, ins := [.one (.v (.sl 2 (.int .i64)))], outs := [.one (.own 2 true (.int .i64))] }
def laws_toInt64S.enc (y : lsd (flats laws_toInt64S.fn.outs) × lsd (ios laws_toInt64S.fn.ins)) : (List Int) := y.1.1
noncomputable def laws_toInt64S.f (l0 : List Int) : Option (List Int) := denF laws_toInt64S.E laws_toInt64S.fn laws_toInt64S.enc (l0, ())
noncomputable def laws_toInt64S.l0 (x0 : List Int) (x4 : Int) (r0 : List Int) : Option (List Int) := denAt laws_toInt64S.E laws_toInt64S.fn laws_toInt64S.enc [1, 1, 0, 1, 0] { fr := [(0, .lf (.sl (.int .i64) x0)), (3, .lf (.own 0)), (4, .lf (.int .i64 x4))], ob := [(0, .row 2 true (.int .i64) r0)], nx := 1 }
set_option maxRecDepth 100000 in
theorem laws_toInt64S.f_eq (l0 : List Int) : laws_toInt64S.f l0 = if (l0.length : Int) = (l0.length : Int) then (if 0 ≤ (l0.length : Int) then (if ((l0.length : Int) : Int).toNat ≤ 17592186044416 then (laws_toInt64S.l0 l0 0 (List.replicate ((l0.length : Int) : Int).toNat (0 : Int))) else none) else none) else none := by kernel_rfl
set_option maxRecDepth 100000 in
theorem laws_toInt64S.l0_eq (x0 : List Int) (x4 : Int) (r0 : List Int) : laws_toInt64S.l0 x0 x4 r0 = if x4 < (x0.length : Int) then (if 0 ≤ x4 then (if x4 < (x0.length : Int) then (if 0 ≤ x4 then (if x4 < (r0.length : Int) then (if 0 ≤ x4 then (if x4 < (r0.length : Int) then (laws_toInt64S.l0 x0 (wrapI (x4 + 1)) (r0.set (x4 : Int).toNat (rd x0 x4))) else none) else none) else none) else none) else none) else none) else (some r0) := (loop_unfold _ _ _ _).trans (by kernel_rfl)
noncomputable def laws_toInt64S.con : Con := ⟨laws_toInt64S.fn.ins, laws_toInt64S.fn.outs, (List Int), fun x => laws_toInt64S.f x.1, fun r => ((r, ()), (()))⟩
theorem laws_toInt64S.valid : Valid Try.prog 29 laws_toInt64S.con := fn_valid (f := laws_toInt64S.fn) (E := laws_toInt64S.E) (enc := laws_toInt64S.enc) ⟨ttOk, conNil⟩ (Checked.mixed Try.checked) ⟨Try.func29, by kernel_rfl, by kernel_rfl, by kernel_rfl, by kernel_rfl, by decide, by kernel_rfl, by kernel_rfl⟩ (fun _ => rfl)
end Go.Proofs.Ytjknpaplgclflaa.P
set_option linter.unusedVariables false
namespace Go.Proofs.Ytjknpaplgclflaa.P
open Go Go.RowKit Go.Proofs.Ytjknpaplgclflaa.D
noncomputable def laws_toInt64SS.E : Env := { tt := TT, con := [(29, laws_toInt64S.con)], frz := [], rows := [], live := [(3, [0, 3, 4])], n := 23, pin := 0, nils := [] }
noncomputable def laws_toInt64SS.fn : D.Fn := { body := Try.f28.body.getD .skip, res := Try.f28.results.toList, ins := [.one (.v (.sl 25 (.sl 2 (.int .i64))))], outs := [.one (.own 25 true (.sl 2 (.int .i64)))] }
def laws_toInt64SS.enc (y : lsd (flats laws_toInt64SS.fn.outs) × lsd (ios laws_toInt64SS.fn.ins)) : (List (List Int)) := y.1.1
noncomputable def laws_toInt64SS.f (l0 : List (List Int)) : Option (List (List Int)) := denF laws_toInt64SS.E laws_toInt64SS.fn laws_toInt64SS.enc (l0, ())
noncomputable def laws_toInt64SS.l0 (x0 : List (List Int)) (x4 : Int) (r0 : List (List Int)) : Option (List (List Int)) := denAt laws_toInt64SS.E laws_toInt64SS.fn laws_toInt64SS.enc [1, 1, 0, 1, 0] { fr := [(0, .lf (.sl (.sl 2 (.int .i64)) x0)), (3, .lf (.own 0)), (4, .lf (.int .i64 x4))], ob := [(0, .row 25 true (.sl 2 (.int .i64)) r0)], nx := 1 }
set_option maxRecDepth 100000 in
theorem laws_toInt64SS.f_eq (l0 : List (List Int)) : laws_toInt64SS.f l0 = if (l0.length : Int) = (l0.length : Int) then (if 0 ≤ (l0.length : Int) then (if ((l0.length : Int) : Int).toNat ≤ 5864062014805 then (laws_toInt64SS.l0 l0 0 (List.replicate ((l0.length : Int) : Int).toNat ([] : List Int))) else none) else none) else none := by kernel_rfl
set_option maxRecDepth 100000 in
theorem laws_toInt64SS.l0_eq (x0 : List (List Int)) (x4 : Int) (r0 : List (List Int)) : laws_toInt64SS.l0 x0 x4 r0 = if x4 < (x0.length : Int) then (if 0 ≤ x4 then (if x4 < (x0.length : Int) then ((laws_toInt64S.f (row x0 x4)).bind fun t20 => if 0 ≤ x4 then (if x4 < (r0.length : Int) then (if 0 ≤ x4 then (if x4 < (r0.length : Int) then (laws_toInt64SS.l0 x0 (wrapI (x4 + 1)) (r0.set (x4 : Int).toNat t20)) else none) else none) else none) else none) else none) else none) else (some r0) := (loop_unfold _ _ _ _).trans (by kernel_rfl)
noncomputable def laws_toInt64SS.con : Con := ⟨laws_toInt64SS.fn.ins, laws_toInt64SS.fn.outs, (List (List Int)), fun x => laws_toInt64SS.f x.1, fun r => ((r, ()), (()))⟩
theorem laws_toInt64SS.valid : Valid Try.prog 28 laws_toInt64SS.con := fn_valid (f := laws_toInt64SS.fn) (E := laws_toInt64SS.E) (enc := laws_toInt64SS.enc) ⟨ttOk, (conCons laws_toInt64S.valid conNil)⟩ (Checked.mixed Try.checked) ⟨Try.func28, by kernel_rfl, by kernel_rfl, by kernel_rfl, by kernel_rfl, by decide, by kernel_rfl, by kernel_rfl⟩ (fun _ => rfl)
end Go.Proofs.Ytjknpaplgclflaa.P
set_option linter.unusedVariables false
namespace Go.Proofs.Ytjknpaplgclflaa.P
open Go Go.RowKit Go.Proofs.Ytjknpaplgclflaa.D
noncomputable def laws_toGroup.E : Env := { tt := TT, con := [(28, laws_toInt64SS.con)], frz := [], rows := [], live := [], n := 9, pin := 0, nils := [] }
noncomputable def laws_toGroup.fn : D.Fn := { body := Try.f9.body.getD .skip, res := Try.f9.results.toList, ins := [.agg [.v (.sl 25 (.sl 2 (.int .i64)))]], outs := [.agg [.own 25 true (.sl 2 (.int .i64))]] }
def laws_toGroup.enc (y : lsd (flats laws_toGroup.fn.outs) × lsd (ios laws_toGroup.fn.ins)) : (List (List Int)) := y.1.1
noncomputable def laws_toGroup.f (l0_0 : List (List Int)) : Option (List (List Int)) := denF laws_toGroup.E laws_toGroup.fn laws_toGroup.enc (l0_0, ())
set_option maxRecDepth 100000 in
theorem laws_toGroup.f_eq (l0_0 : List (List Int)) : laws_toGroup.f l0_0 = (laws_toInt64SS.f l0_0).bind fun t6 => some t6 := by kernel_rfl
noncomputable def laws_toGroup.con : Con := ⟨laws_toGroup.fn.ins, laws_toGroup.fn.outs, (List (List Int)), fun x => laws_toGroup.f x.1, fun r => ((r, ()), (()))⟩
theorem laws_toGroup.valid : Valid Try.prog 9 laws_toGroup.con := fn_valid (f := laws_toGroup.fn) (E := laws_toGroup.E) (enc := laws_toGroup.enc) ⟨ttOk, (conCons laws_toInt64SS.valid conNil)⟩ (Checked.mixed Try.checked) ⟨Try.func9, by kernel_rfl, by kernel_rfl, by kernel_rfl, by kernel_rfl, by decide, by kernel_rfl, by kernel_rfl⟩ (fun _ => rfl)
end Go.Proofs.Ytjknpaplgclflaa.P
set_option linter.unusedVariables false
namespace Go.Proofs.Ytjknpaplgclflaa.P
open Go Go.RowKit Go.Proofs.Ytjknpaplgclflaa.D
noncomputable def laws_toModule.E : Env := { tt := TT, con := [(29, laws_toInt64S.con)], frz := [], rows := [], live := [], n := 12, pin := 0, nils := [] }
noncomputable def laws_toModule.fn : D.Fn := { body := Try.f10.body.getD .skip, res := Try.f10.results.toList, ins := [.agg [.v (.int .i64), .v (.sl 2 (.int .i64))]], outs := [.agg [.v (.int .i64), .own 2 true (.int .i64)]] }
def laws_toModule.enc (y : lsd (flats laws_toModule.fn.outs) × lsd (ios laws_toModule.fn.ins)) : Int × (List Int) := (y.1.1, y.1.2.1)
noncomputable def laws_toModule.f (a0_0 : Int) (l0_1 : List Int) : Option (Int × (List Int)) := denF laws_toModule.E laws_toModule.fn laws_toModule.enc (a0_0, l0_1, ())
set_option maxRecDepth 100000 in
theorem laws_toModule.f_eq (a0_0 : Int) (l0_1 : List Int) : laws_toModule.f a0_0 l0_1 = (laws_toInt64S.f l0_1).bind fun t9 => some (a0_0, t9) := by kernel_rfl
noncomputable def laws_toModule.con : Con := ⟨laws_toModule.fn.ins, laws_toModule.fn.outs, Int × (List Int), fun x => laws_toModule.f x.1 x.2.1, fun r => ((r.1, r.2, ()), (()))⟩
theorem laws_toModule.valid : Valid Try.prog 10 laws_toModule.con := fn_valid (f := laws_toModule.fn) (E := laws_toModule.E) (enc := laws_toModule.enc) ⟨ttOk, (conCons laws_toInt64S.valid conNil)⟩ (Checked.mixed Try.checked) ⟨Try.func10, by kernel_rfl, by kernel_rfl, by kernel_rfl, by kernel_rfl, by decide, by kernel_rfl, by kernel_rfl⟩ (fun _ => rfl)
end Go.Proofs.Ytjknpaplgclflaa.P
set_option linter.unusedVariables false
namespace Go.Proofs.Ytjknpaplgclflaa.P
open Go Go.RowKit Go.Proofs.Ytjknpaplgclflaa.D
noncomputable def laws_eqInt64S.E : Env := { tt := TT, con := [], frz := [], rows := [], live := [(4, [0, 1, 5])], n := 26, pin := 0, nils := [] }
noncomputable def laws_eqInt64S.fn : D.Fn := { body := Try.f32.body.getD .skip, res := Try.f32.results.toList, ins := [.one (.v (.sl 2 (.int .i64))), .one (.v (.sl 2 (.int .i64)))], outs := [.one (.v .bool)] }
def laws_eqInt64S.enc (y : lsd (flats laws_eqInt64S.fn.outs) × lsd (ios laws_eqInt64S.fn.ins)) : Bool := y.1.1
noncomputable def laws_eqInt64S.f (l0 : List Int) (l1 : List Int) : Option Bool := denF laws_eqInt64S.E laws_eqInt64S.fn laws_eqInt64S.enc (l0, l1, ())
noncomputable def laws_eqInt64S.l0 (x0 : List Int) (x1 : List Int) (x5 : Int) : Option Bool := denAt laws_eqInt64S.E laws_eqInt64S.fn laws_eqInt64S.enc [1, 1, 0, 1, 0] { fr := [(0, .lf (.sl (.int .i64) x0)), (1, .lf (.sl (.int .i64) x1)), (5, .lf (.int .i64 x5))], ob := [], nx := 0 }
set_option maxRecDepth 100000 in
theorem laws_eqInt64S.f_eq (l0 : List Int) (l1 : List Int) : laws_eqInt64S.f l0 l1 = if (l0.length : Int) = (l1.length : Int) then (laws_eqInt64S.l0 l0 l1 0) else (some false) := by kernel_rfl
set_option maxRecDepth 100000 in
theorem laws_eqInt64S.l0_eq (x0 : List Int) (x1 : List Int) (x5 : Int) : laws_eqInt64S.l0 x0 x1 x5 = if x5 < (x0.length : Int) then (if 0 ≤ x5 then (if x5 < (x0.length : Int) then (if 0 ≤ x5 then (if x5 < (x1.length : Int) then (if (rd x0 x5) = (rd x1 x5) then (laws_eqInt64S.l0 x0 x1 (wrapI (x5 + 1))) else (some false)) else none) else none) else none) else none) else (some true) := (loop_unfold _ _ _ _).trans (by kernel_rfl)
noncomputable def laws_eqInt64S.con : Con := ⟨laws_eqInt64S.fn.ins, laws_eqInt64S.fn.outs, Bool, fun x => laws_eqInt64S.f x.1 x.2.1, fun r => ((r, ()), (()))⟩
theorem laws_eqInt64S.valid : Valid Try.prog 32 laws_eqInt64S.con := fn_valid (f := laws_eqInt64S.fn) (E := laws_eqInt64S.E) (enc := laws_eqInt64S.enc) ⟨ttOk, conNil⟩ (Checked.mixed Try.checked) ⟨Try.func32, by kernel_rfl, by kernel_rfl, by kernel_rfl, by kernel_rfl, by decide, by kernel_rfl, by kernel_rfl⟩ (fun _ => rfl)
end Go.Proofs.Ytjknpaplgclflaa.P
set_option linter.unusedVariables false
namespace Go.Proofs.Ytjknpaplgclflaa.P
open Go Go.RowKit Go.Proofs.Ytjknpaplgclflaa.D
noncomputable def laws_eqInt64SS.E : Env := { tt := TT, con := [(32, laws_eqInt64S.con)], frz := [], rows := [], live := [(4, [0, 1, 5])], n := 27, pin := 0, nils := [] }
noncomputable def laws_eqInt64SS.fn : D.Fn := { body := Try.f12.body.getD .skip, res := Try.f12.results.toList, ins := [.one (.v (.sl 25 (.sl 2 (.int .i64)))), .one (.v (.sl 25 (.sl 2 (.int .i64))))], outs := [.one (.v .bool)] }
def laws_eqInt64SS.enc (y : lsd (flats laws_eqInt64SS.fn.outs) × lsd (ios laws_eqInt64SS.fn.ins)) : Bool := y.1.1
noncomputable def laws_eqInt64SS.f (l0 : List (List Int)) (l1 : List (List Int)) : Option Bool := denF laws_eqInt64SS.E laws_eqInt64SS.fn laws_eqInt64SS.enc (l0, l1, ())
noncomputable def laws_eqInt64SS.l0 (x0 : List (List Int)) (x1 : List (List Int)) (x5 : Int) : Option Bool := denAt laws_eqInt64SS.E laws_eqInt64SS.fn laws_eqInt64SS.enc [1, 1, 0, 1, 0] { fr := [(0, .lf (.sl (.sl 2 (.int .i64)) x0)), (1, .lf (.sl (.sl 2 (.int .i64)) x1)), (5, .lf (.int .i64 x5))], ob := [], nx := 0 }
set_option maxRecDepth 100000 in
theorem laws_eqInt64SS.f_eq (l0 : List (List Int)) (l1 : List (List Int)) : laws_eqInt64SS.f l0 l1 = if (l0.length : Int) = (l1.length : Int) then (laws_eqInt64SS.l0 l0 l1 0) else (some false) := by kernel_rfl
set_option maxRecDepth 100000 in
theorem laws_eqInt64SS.l0_eq (x0 : List (List Int)) (x1 : List (List Int)) (x5 : Int) : laws_eqInt64SS.l0 x0 x1 x5 = if x5 < (x0.length : Int) then (if 0 ≤ x5 then (if x5 < (x0.length : Int) then (if 0 ≤ x5 then (if x5 < (x1.length : Int) then ((laws_eqInt64S.f (row x0 x5) (row x1 x5)).bind fun t25 => if t25 = true then (laws_eqInt64SS.l0 x0 x1 (wrapI (x5 + 1))) else (some false)) else none) else none) else none) else none) else (some true) := (loop_unfold _ _ _ _).trans (by kernel_rfl)
noncomputable def laws_eqInt64SS.con : Con := ⟨laws_eqInt64SS.fn.ins, laws_eqInt64SS.fn.outs, Bool, fun x => laws_eqInt64SS.f x.1 x.2.1, fun r => ((r, ()), (()))⟩
theorem laws_eqInt64SS.valid : Valid Try.prog 12 laws_eqInt64SS.con := fn_valid (f := laws_eqInt64SS.fn) (E := laws_eqInt64SS.E) (enc := laws_eqInt64SS.enc) ⟨ttOk, (conCons laws_eqInt64S.valid conNil)⟩ (Checked.mixed Try.checked) ⟨Try.func12, by kernel_rfl, by kernel_rfl, by kernel_rfl, by kernel_rfl, by decide, by kernel_rfl, by kernel_rfl⟩ (fun _ => rfl)
end Go.Proofs.Ytjknpaplgclflaa.P
set_option linter.unusedVariables false
namespace Go.Proofs.Ytjknpaplgclflaa.P
open Go Go.RowKit Go.Proofs.Ytjknpaplgclflaa.D
noncomputable def laws_eqGroup.E : Env := { tt := TT, con := [(12, laws_eqInt64SS.con)], frz := [], rows := [], live := [], n := 11, pin := 0, nils := [] }
noncomputable def laws_eqGroup.fn : D.Fn := { body := Try.f13.body.getD .skip, res := Try.f13.results.toList, ins := [.agg [.v (.sl 25 (.sl 2 (.int .i64)))], .agg [.v (.sl 25 (.sl 2 (.int .i64)))]], outs := [.one (.v .bool)] }
def laws_eqGroup.enc (y : lsd (flats laws_eqGroup.fn.outs) × lsd (ios laws_eqGroup.fn.ins)) : Bool := y.1.1
noncomputable def laws_eqGroup.f (l0_0 : List (List Int)) (l1_0 : List (List Int)) : Option Bool := denF laws_eqGroup.E laws_eqGroup.fn laws_eqGroup.enc (l0_0, l1_0, ())
set_option maxRecDepth 100000 in
theorem laws_eqGroup.f_eq (l0_0 : List (List Int)) (l1_0 : List (List Int)) : laws_eqGroup.f l0_0 l1_0 = (laws_eqInt64SS.f l0_0 l1_0).bind fun t9 => if t9 = true then (some true) else (some false) := by kernel_rfl
noncomputable def laws_eqGroup.con : Con := ⟨laws_eqGroup.fn.ins, laws_eqGroup.fn.outs, Bool, fun x => laws_eqGroup.f x.1 x.2.1, fun r => ((r, ()), (()))⟩
theorem laws_eqGroup.valid : Valid Try.prog 13 laws_eqGroup.con := fn_valid (f := laws_eqGroup.fn) (E := laws_eqGroup.E) (enc := laws_eqGroup.enc) ⟨ttOk, (conCons laws_eqInt64SS.valid conNil)⟩ (Checked.mixed Try.checked) ⟨Try.func13, by kernel_rfl, by kernel_rfl, by kernel_rfl, by kernel_rfl, by decide, by kernel_rfl, by kernel_rfl⟩ (fun _ => rfl)
end Go.Proofs.Ytjknpaplgclflaa.P
set_option linter.unusedVariables false
namespace Go.Proofs.Ytjknpaplgclflaa.P
open Go Go.RowKit Go.Proofs.Ytjknpaplgclflaa.D
noncomputable def laws_eqModule.E : Env := { tt := TT, con := [(32, laws_eqInt64S.con)], frz := [], rows := [], live := [], n := 16, pin := 0, nils := [] }
noncomputable def laws_eqModule.fn : D.Fn := { body := Try.f14.body.getD .skip, res := Try.f14.results.toList, ins := [.agg [.v (.int .i64), .v (.sl 2 (.int .i64))], .agg [.v (.int .i64), .v (.sl 2 (.int .i64))]], outs := [.one (.v .bool)] }
def laws_eqModule.enc (y : lsd (flats laws_eqModule.fn.outs) × lsd (ios laws_eqModule.fn.ins)) : Bool := y.1.1
noncomputable def laws_eqModule.f (a0_0 : Int) (l0_1 : List Int) (a1_0 : Int) (l1_1 : List Int) : Option Bool := denF laws_eqModule.E laws_eqModule.fn laws_eqModule.enc (a0_0, l0_1, a1_0, l1_1, ())
set_option maxRecDepth 100000 in
theorem laws_eqModule.f_eq (a0_0 : Int) (l0_1 : List Int) (a1_0 : Int) (l1_1 : List Int) : laws_eqModule.f a0_0 l0_1 a1_0 l1_1 = if a0_0 = a1_0 then ((laws_eqInt64S.f l0_1 l1_1).bind fun t14 => if t14 = true then (some true) else (some false)) else (some false) := by kernel_rfl
noncomputable def laws_eqModule.con : Con := ⟨laws_eqModule.fn.ins, laws_eqModule.fn.outs, Bool, fun x => laws_eqModule.f x.1 x.2.1 x.2.2.1 x.2.2.2.1, fun r => ((r, ()), (()))⟩
theorem laws_eqModule.valid : Valid Try.prog 14 laws_eqModule.con := fn_valid (f := laws_eqModule.fn) (E := laws_eqModule.E) (enc := laws_eqModule.enc) ⟨ttOk, (conCons laws_eqInt64S.valid conNil)⟩ (Checked.mixed Try.checked) ⟨Try.func14, by kernel_rfl, by kernel_rfl, by kernel_rfl, by kernel_rfl, by decide, by kernel_rfl, by kernel_rfl⟩ (fun _ => rfl)
end Go.Proofs.Ytjknpaplgclflaa.P
set_option linter.unusedVariables false
namespace Go.Proofs.Ytjknpaplgclflaa.P
open Go Go.RowKit Go.Proofs.Ytjknpaplgclflaa.D
noncomputable def laws_markInt64S.E : Env := { tt := TT, con := [], frz := [], rows := [], live := [(2, [0, 1, 5])], n := 19, pin := 1, nils := [] }
noncomputable def laws_markInt64S.fn : D.Fn := { body := Try.f33.body.getD .skip, res := Try.f33.results.toList, ins := [.one (.own 2 true (.int .i64)), .one (.v (.int .i64))], outs := [.one (.v (.int .i64))] }
def laws_markInt64S.enc (y : lsd (flats laws_markInt64S.fn.outs) × lsd (ios laws_markInt64S.fn.ins)) : Int × (List Int) := (y.1.1, y.2.1)
noncomputable def laws_markInt64S.f (l0 : List Int) (a1 : Int) : Option (Int × (List Int)) := denF laws_markInt64S.E laws_markInt64S.fn laws_markInt64S.enc (l0, a1, ())
noncomputable def laws_markInt64S.l0 (x1 : Int) (x5 : Int) (r0 : List Int) : Option (Int × (List Int)) := denAt laws_markInt64S.E laws_markInt64S.fn laws_markInt64S.enc [1, 0, 1, 0] { fr := [(0, .lf (.own 0)), (1, .lf (.int .i64 x1)), (5, .lf (.int .i64 x5))], ob := [(0, .row 2 true (.int .i64) r0)], nx := 1 }
set_option maxRecDepth 100000 in
theorem laws_markInt64S.f_eq (l0 : List Int) (a1 : Int) : laws_markInt64S.f l0 a1 = laws_markInt64S.l0 a1 0 l0 := by kernel_rfl
set_option maxRecDepth 100000 in
theorem laws_markInt64S.l0_eq (x1 : Int) (x5 : Int) (r0 : List Int) : laws_markInt64S.l0 x1 x5 r0 = if x5 < (r0.length : Int) then (if 0 ≤ x5 then (if x5 < (r0.length : Int) then (if 0 ≤ x5 then (if x5 < (r0.length : Int) then (laws_markInt64S.l0 (wrapI (x1 + 1)) (wrapI (x5 + 1)) (r0.set (x5 : Int).toNat x1)) else none) else none) else none) else none) else (some (x1, r0)) := (loop_unfold _ _ _ _).trans (by kernel_rfl)
noncomputable def laws_markInt64S.con : Con := ⟨laws_markInt64S.fn.ins, laws_markInt64S.fn.outs, Int × (List Int), fun x => laws_markInt64S.f x.1 x.2.1, fun r => ((r.1, ()), (r.2, ()))⟩
theorem laws_markInt64S.valid : Valid Try.prog 33 laws_markInt64S.con := fn_valid (f := laws_markInt64S.fn) (E := laws_markInt64S.E) (enc := laws_markInt64S.enc) ⟨ttOk, conNil⟩ (Checked.mixed Try.checked) ⟨Try.func33, by kernel_rfl, by kernel_rfl, by kernel_rfl, by kernel_rfl, by decide, by kernel_rfl, by kernel_rfl⟩ (fun _ => rfl)
end Go.Proofs.Ytjknpaplgclflaa.P
set_option linter.unusedVariables false
namespace Go.Proofs.Ytjknpaplgclflaa.P
open Go Go.RowKit Go.Proofs.Ytjknpaplgclflaa.D
noncomputable def laws_markInt64SS.E : Env := { tt := TT, con := [(33, laws_markInt64S.con)], frz := [], rows := [], live := [(2, [0, 1, 5])], n := 19, pin := 1, nils := [] }
noncomputable def laws_markInt64SS.fn : D.Fn := { body := Try.f17.body.getD .skip, res := Try.f17.results.toList, ins := [.one (.own 25 true (.sl 2 (.int .i64))), .one (.v (.int .i64))], outs := [.one (.v (.int .i64))] }
def laws_markInt64SS.enc (y : lsd (flats laws_markInt64SS.fn.outs) × lsd (ios laws_markInt64SS.fn.ins)) : Int × (List (List Int)) := (y.1.1, y.2.1)
noncomputable def laws_markInt64SS.f (l0 : List (List Int)) (a1 : Int) : Option (Int × (List (List Int))) := denF laws_markInt64SS.E laws_markInt64SS.fn laws_markInt64SS.enc (l0, a1, ())
noncomputable def laws_markInt64SS.l0 (x1 : Int) (x5 : Int) (r0 : List (List Int)) : Option (Int × (List (List Int))) := denAt laws_markInt64SS.E laws_markInt64SS.fn laws_markInt64SS.enc [1, 0, 1, 0] { fr := [(0, .lf (.own 0)), (1, .lf (.int .i64 x1)), (5, .lf (.int .i64 x5))], ob := [(0, .row 25 true (.sl 2 (.int .i64)) r0)], nx := 1 }
set_option maxRecDepth 100000 in
theorem laws_markInt64SS.f_eq (l0 : List (List Int)) (a1 : Int) : laws_markInt64SS.f l0 a1 = laws_markInt64SS.l0 a1 0 l0 := by kernel_rfl
set_option maxRecDepth 100000 in
theorem laws_markInt64SS.l0_eq (x1 : Int) (x5 : Int) (r0 : List (List Int)) : laws_markInt64SS.l0 x1 x5 r0 = if x5 < (r0.length : Int) then (if 0 ≤ x5 then (if x5 < (r0.length : Int) then (if 0 ≤ x5 then (if x5 < (r0.length : Int) then ((laws_markInt64S.f (row r0 x5) x1).bind fun t17 => laws_markInt64SS.l0 t17.1 (wrapI (x5 + 1)) (r0.set (x5 : Int).toNat t17.2)) else none) else none) else none) else none) else (some (x1, r0)) := (loop_unfold _ _ _ _).trans (by kernel_rfl)
noncomputable def laws_markInt64SS.con : Con := ⟨laws_markInt64SS.fn.ins, laws_markInt64SS.fn.outs, Int × (List (List Int)), fun x => laws_markInt64SS.f x.1 x.2.1, fun r => ((r.1, ()), (r.2, ()))⟩
theorem laws_markInt64SS.valid : Valid Try.prog 17 laws_markInt64SS.con := fn_valid (f := laws_markInt64SS.fn) (E := laws_markInt64SS.E) (enc := laws_markInt64SS.enc) ⟨ttOk, (conCons laws_markInt64S.valid conNil)⟩ (Checked.mixed Try.checked) ⟨Try.func17, by kernel_rfl, by kernel_rfl, by kernel_rfl, by kernel_rfl, by decide, by kernel_rfl, by kernel_rfl⟩ (fun _ => rfl)
end Go.Proofs.Ytjknpaplgclflaa.P
set_option linter.unusedVariables false
namespace Go.Proofs.Ytjknpaplgclflaa.P
open Go Go.RowKit Go.Proofs.Ytjknpaplgclflaa.D
noncomputable def laws_markGroup.E : Env := { tt := TT, con := [(17, laws_markInt64SS.con)], frz := [], rows := [], live := [], n := 10, pin := 1, nils := [] }
noncomputable def laws_markGroup.fn : D.Fn := { body := Try.f15.body.getD .skip, res := Try.f15.results.toList, ins := [.agg [.own 25 true (.sl 2 (.int .i64))], .one (.v (.int .i64))], outs := [.one (.v (.int .i64))] }
def laws_markGroup.enc (y : lsd (flats laws_markGroup.fn.outs) × lsd (ios laws_markGroup.fn.ins)) : Int × (List (List Int)) := (y.1.1, y.2.1)
noncomputable def laws_markGroup.f (l0_0 : List (List Int)) (a1 : Int) : Option (Int × (List (List Int))) := denF laws_markGroup.E laws_markGroup.fn laws_markGroup.enc (l0_0, a1, ())
set_option maxRecDepth 100000 in
theorem laws_markGroup.f_eq (l0_0 : List (List Int)) (a1 : Int) : laws_markGroup.f l0_0 a1 = (laws_markInt64SS.f l0_0 a1).bind fun t8 => some (t8.1, t8.2) := by kernel_rfl
noncomputable def laws_markGroup.con : Con := ⟨laws_markGroup.fn.ins, laws_markGroup.fn.outs, Int × (List (List Int)), fun x => laws_markGroup.f x.1 x.2.1, fun r => ((r.1, ()), (r.2, ()))⟩
theorem laws_markGroup.valid : Valid Try.prog 15 laws_markGroup.con := fn_valid (f := laws_markGroup.fn) (E := laws_markGroup.E) (enc := laws_markGroup.enc) ⟨ttOk, (conCons laws_markInt64SS.valid conNil)⟩ (Checked.mixed Try.checked) ⟨Try.func15, by kernel_rfl, by kernel_rfl, by kernel_rfl, by kernel_rfl, by decide, by kernel_rfl, by kernel_rfl⟩ (fun _ => rfl)
end Go.Proofs.Ytjknpaplgclflaa.P
set_option linter.unusedVariables false
namespace Go.Proofs.Ytjknpaplgclflaa.P
open Go Go.RowKit Go.Proofs.Ytjknpaplgclflaa.D
noncomputable def laws_markModule.E : Env := { tt := TT, con := [(33, laws_markInt64S.con)], frz := [], rows := [], live := [], n := 10, pin := 1, nils := [] }
noncomputable def laws_markModule.fn : D.Fn := { body := Try.f16.body.getD .skip, res := Try.f16.results.toList, ins := [.agg [.v (.int .i64), .own 2 true (.int .i64)], .one (.v (.int .i64))], outs := [.one (.v (.int .i64))] }
def laws_markModule.enc (y : lsd (flats laws_markModule.fn.outs) × lsd (ios laws_markModule.fn.ins)) : Int × (List Int) := (y.1.1, y.2.1)
noncomputable def laws_markModule.f (a0_0 : Int) (l0_1 : List Int) (a1 : Int) : Option (Int × (List Int)) := denF laws_markModule.E laws_markModule.fn laws_markModule.enc (a0_0, l0_1, a1, ())
set_option maxRecDepth 100000 in
theorem laws_markModule.f_eq (a0_0 : Int) (l0_1 : List Int) (a1 : Int) : laws_markModule.f a0_0 l0_1 a1 = (laws_markInt64S.f l0_1 a1).bind fun t8 => some (t8.1, t8.2) := by kernel_rfl
noncomputable def laws_markModule.con : Con := ⟨laws_markModule.fn.ins, laws_markModule.fn.outs, Int × (List Int), fun x => laws_markModule.f x.1 x.2.1 x.2.2.1, fun r => ((r.1, ()), (r.2, ()))⟩
theorem laws_markModule.valid : Valid Try.prog 16 laws_markModule.con := fn_valid (f := laws_markModule.fn) (E := laws_markModule.E) (enc := laws_markModule.enc) ⟨ttOk, (conCons laws_markInt64S.valid conNil)⟩ (Checked.mixed Try.checked) ⟨Try.func16, by kernel_rfl, by kernel_rfl, by kernel_rfl, by kernel_rfl, by decide, by kernel_rfl, by kernel_rfl⟩ (fun _ => rfl)
end Go.Proofs.Ytjknpaplgclflaa.P
set_option linter.unusedVariables false
namespace Go.Proofs.Ytjknpaplgclflaa.P
open Go Go.RowKit Go.Proofs.Ytjknpaplgclflaa.D
noncomputable def laws_heldInt64S.E : Env := { tt := TT, con := [], frz := [], rows := [], live := [(2, [0, 1, 5])], n := 21, pin := 0, nils := [] }
noncomputable def laws_heldInt64S.fn : D.Fn := { body := Try.f34.body.getD .skip, res := Try.f34.results.toList, ins := [.one (.v (.sl 2 (.int .i64))), .one (.v (.int .i64))], outs := [.one (.v (.int .i64))] }
def laws_heldInt64S.enc (y : lsd (flats laws_heldInt64S.fn.outs) × lsd (ios laws_heldInt64S.fn.ins)) : Int := y.1.1
noncomputable def laws_heldInt64S.f (l0 : List Int) (a1 : Int) : Option Int := denF laws_heldInt64S.E laws_heldInt64S.fn laws_heldInt64S.enc (l0, a1, ())
noncomputable def laws_heldInt64S.l0 (x0 : List Int) (x1 : Int) (x5 : Int) : Option Int := denAt laws_heldInt64S.E laws_heldInt64S.fn laws_heldInt64S.enc [1, 0, 1, 0] { fr := [(0, .lf (.sl (.int .i64) x0)), (1, .lf (.int .i64 x1)), (5, .lf (.int .i64 x5))], ob := [], nx := 0 }
set_option maxRecDepth 100000 in
theorem laws_heldInt64S.f_eq (l0 : List Int) (a1 : Int) : laws_heldInt64S.f l0 a1 = laws_heldInt64S.l0 l0 a1 0 := by kernel_rfl
set_option maxRecDepth 100000 in
theorem laws_heldInt64S.l0_eq (x0 : List Int) (x1 : Int) (x5 : Int) : laws_heldInt64S.l0 x0 x1 x5 = if x5 < (x0.length : Int) then (if 0 ≤ x5 then (if x5 < (x0.length : Int) then (if (rd x0 x5) = x1 then (laws_heldInt64S.l0 x0 (wrapI (x1 + 1)) (wrapI (x5 + 1))) else (some (-1))) else none) else none) else (some x1) := (loop_unfold _ _ _ _).trans (by kernel_rfl)
noncomputable def laws_heldInt64S.con : Con := ⟨laws_heldInt64S.fn.ins, laws_heldInt64S.fn.outs, Int, fun x => laws_heldInt64S.f x.1 x.2.1, fun r => ((r, ()), (()))⟩
theorem laws_heldInt64S.valid : Valid Try.prog 34 laws_heldInt64S.con := fn_valid (f := laws_heldInt64S.fn) (E := laws_heldInt64S.E) (enc := laws_heldInt64S.enc) ⟨ttOk, conNil⟩ (Checked.mixed Try.checked) ⟨Try.func34, by kernel_rfl, by kernel_rfl, by kernel_rfl, by kernel_rfl, by decide, by kernel_rfl, by kernel_rfl⟩ (fun _ => rfl)
end Go.Proofs.Ytjknpaplgclflaa.P
set_option linter.unusedVariables false
namespace Go.Proofs.Ytjknpaplgclflaa.P
open Go Go.RowKit Go.Proofs.Ytjknpaplgclflaa.D
noncomputable def laws_heldInt64SS.E : Env := { tt := TT, con := [(34, laws_heldInt64S.con)], frz := [], rows := [], live := [(2, [0, 1, 5])], n := 21, pin := 0, nils := [] }
noncomputable def laws_heldInt64SS.fn : D.Fn := { body := Try.f18.body.getD .skip, res := Try.f18.results.toList, ins := [.one (.v (.sl 25 (.sl 2 (.int .i64)))), .one (.v (.int .i64))], outs := [.one (.v (.int .i64))] }
def laws_heldInt64SS.enc (y : lsd (flats laws_heldInt64SS.fn.outs) × lsd (ios laws_heldInt64SS.fn.ins)) : Int := y.1.1
noncomputable def laws_heldInt64SS.f (l0 : List (List Int)) (a1 : Int) : Option Int := denF laws_heldInt64SS.E laws_heldInt64SS.fn laws_heldInt64SS.enc (l0, a1, ())
noncomputable def laws_heldInt64SS.l0 (x0 : List (List Int)) (x1 : Int) (x5 : Int) : Option Int := denAt laws_heldInt64SS.E laws_heldInt64SS.fn laws_heldInt64SS.enc [1, 0, 1, 0] { fr := [(0, .lf (.sl (.sl 2 (.int .i64)) x0)), (1, .lf (.int .i64 x1)), (5, .lf (.int .i64 x5))], ob := [], nx := 0 }
set_option maxRecDepth 100000 in
theorem laws_heldInt64SS.f_eq (l0 : List (List Int)) (a1 : Int) : laws_heldInt64SS.f l0 a1 = laws_heldInt64SS.l0 l0 a1 0 := by kernel_rfl
set_option maxRecDepth 100000 in
theorem laws_heldInt64SS.l0_eq (x0 : List (List Int)) (x1 : Int) (x5 : Int) : laws_heldInt64SS.l0 x0 x1 x5 = if x5 < (x0.length : Int) then (if 0 ≤ x5 then (if x5 < (x0.length : Int) then ((laws_heldInt64S.f (row x0 x5) x1).bind fun t17 => if t17 < 0 then (some (-1)) else (laws_heldInt64SS.l0 x0 t17 (wrapI (x5 + 1)))) else none) else none) else (some x1) := (loop_unfold _ _ _ _).trans (by kernel_rfl)
noncomputable def laws_heldInt64SS.con : Con := ⟨laws_heldInt64SS.fn.ins, laws_heldInt64SS.fn.outs, Int, fun x => laws_heldInt64SS.f x.1 x.2.1, fun r => ((r, ()), (()))⟩
theorem laws_heldInt64SS.valid : Valid Try.prog 18 laws_heldInt64SS.con := fn_valid (f := laws_heldInt64SS.fn) (E := laws_heldInt64SS.E) (enc := laws_heldInt64SS.enc) ⟨ttOk, (conCons laws_heldInt64S.valid conNil)⟩ (Checked.mixed Try.checked) ⟨Try.func18, by kernel_rfl, by kernel_rfl, by kernel_rfl, by kernel_rfl, by decide, by kernel_rfl, by kernel_rfl⟩ (fun _ => rfl)
end Go.Proofs.Ytjknpaplgclflaa.P
set_option linter.unusedVariables false
namespace Go.Proofs.Ytjknpaplgclflaa.P
open Go Go.RowKit Go.Proofs.Ytjknpaplgclflaa.D
noncomputable def spec_l01In.E : Env := { tt := TT, con := [], frz := [], rows := [], live := [], n := 15, pin := 0, nils := [] }
noncomputable def spec_l01In.fn : D.Fn := { body := Try.f43.body.getD .skip, res := Try.f43.results.toList, ins := [.one (.v (.int .i64)), .one (.v (.int .i64)), .one (.v (.int .i64))], outs := [.one (.v .bool)] }
def spec_l01In.enc (y : lsd (flats spec_l01In.fn.outs) × lsd (ios spec_l01In.fn.ins)) : Bool := y.1.1
noncomputable def spec_l01In.f (a0 : Int) (a1 : Int) (a2 : Int) : Option Bool := denF spec_l01In.E spec_l01In.fn spec_l01In.enc (a0, a1, a2, ())
set_option maxRecDepth 100000 in
theorem spec_l01In.f_eq (a0 : Int) (a1 : Int) (a2 : Int) : spec_l01In.f a0 a1 a2 = if a0 ≥ a1 then (some (decide (a0 ≤ a2))) else (some false) := by kernel_rfl
noncomputable def spec_l01In.con : Con := ⟨spec_l01In.fn.ins, spec_l01In.fn.outs, Bool, fun x => spec_l01In.f x.1 x.2.1 x.2.2.1, fun r => ((r, ()), (()))⟩
theorem spec_l01In.valid : Valid Try.prog 43 spec_l01In.con := fn_valid (f := spec_l01In.fn) (E := spec_l01In.E) (enc := spec_l01In.enc) ⟨ttOk, conNil⟩ (Checked.mixed Try.checked) ⟨Try.func43, by kernel_rfl, by kernel_rfl, by kernel_rfl, by kernel_rfl, by decide, by kernel_rfl, by kernel_rfl⟩ (fun _ => rfl)
end Go.Proofs.Ytjknpaplgclflaa.P
set_option linter.unusedVariables false
namespace Go.Proofs.Ytjknpaplgclflaa.P
open Go Go.RowKit Go.Proofs.Ytjknpaplgclflaa.D
noncomputable def spec_l01Is.E : Env := { tt := TT, con := [(43, spec_l01In.con)], frz := [], rows := [], live := [(5, [1, 3, 4]), (10, [1, 3, 4, 5]), (15, [1, 3, 6]), (21, [1, 3, 6, 7, 8]), (25, [1, 3, 6, 7, 8, 9])], n := 137, pin := 0, nils := [7] }
noncomputable def spec_l01Is.fn : D.Fn := { body := Try.f25.body.getD .skip, res := Try.f25.results.toList, ins := [.agg [.v (.sl 25 (.sl 2 (.int .i64)))]], outs := [.one (.v .bool)] }
def spec_l01Is.enc (y : lsd (flats spec_l01Is.fn.outs) × lsd (ios spec_l01Is.fn.ins)) : Bool := y.1.1
noncomputable def spec_l01Is.f (l0_0 : List (List Int)) : Option Bool := denF spec_l01Is.E spec_l01Is.fn spec_l01Is.enc (l0_0, ())
noncomputable def spec_l01Is.l0 (x3 : Int) (x4 : Int) (b0_0 : List (List Int)) : Option Bool := denAt spec_l01Is.E spec_l01Is.fn spec_l01Is.enc [1, 1, 1, 0, 1, 0] { fr := [(1, .lf (.box 0 0)), (3, .lf (.int .i64 x3)), (4, .lf (.int .i64 x4))], ob := [(0, .box 32 false [.sl (.sl 2 (.int .i64)) b0_0])], nx := 1 }
noncomputable def spec_l01Is.l1 (x3 : Int) (x4 : Int) (x5 : Int) (b0_0 : List (List Int)) : Option Bool := denAt spec_l01Is.E spec_l01Is.fn spec_l01Is.enc [1, 1, 1, 0, 1, 0, 0, 1, 0, 0, 1, 1, 0] { fr := [(1, .lf (.box 0 0)), (3, .lf (.int .i64 x3)), (4, .lf (.int .i64 x4)), (5, .lf (.int .i64 x5))], ob := [(0, .box 32 false [.sl (.sl 2 (.int .i64)) b0_0])], nx := 1 }
noncomputable def spec_l01Is.l2 (x3 : Int) (x6 : Int) (b0_0 : List (List Int)) : Option Bool := denAt spec_l01Is.E spec_l01Is.fn spec_l01Is.enc [1, 1, 1, 1, 0, 1, 0] { fr := [(1, .lf (.box 0 0)), (3, .lf (.int .i64 x3)), (6, .lf (.int .i64 x6))], ob := [(0, .box 32 false [.sl (.sl 2 (.int .i64)) b0_0])], nx := 1 }
noncomputable def spec_l01Is.l3 (x3 : Int) (x6 : Int) (x7 : Bool) (x8 : Int) (b0_0 : List (List Int)) : Option Bool := denAt spec_l01Is.E spec_l01Is.fn spec_l01Is.enc [1, 1, 1, 1, 0, 1, 0, 0, 1, 0, 0, 1, 1, 0, 1, 0] { fr := [(1, .lf (.box 0 0)), (3, .lf (.int .i64 x3)), (6, .lf (.int .i64 x6)), (7, .lf (boolLf x7)), (8, .lf (.int .i64 x8))], ob := [(0, .box 32 false [.sl (.sl 2 (.int .i64)) b0_0])], nx := 1 }
noncomputable def spec_l01Is.l4 (x3 : Int) (x6 : Int) (x7 : Bool) (x8 : Int) (x9 : Int) (b0_0 : List (List Int)) : Option Bool := denAt spec_l01Is.E spec_l01Is.fn spec_l01Is.enc [1, 1, 1, 1, 0, 1, 0, 0, 1, 0, 0, 1, 1, 0, 1, 0, 0, 1, 0, 0, 1, 1, 0] { fr := [(1, .lf (.box 0 0)), (3, .lf (.int .i64 x3)), (6, .lf (.int .i64 x6)), (7, .lf (boolLf x7)), (8, .lf (.int .i64 x8)), (9, .lf (.int .i64 x9))], ob := [(0, .box 32 false [.sl (.sl 2 (.int .i64)) b0_0])], nx := 1 }
set_option maxRecDepth 100000 in
theorem spec_l01Is.f_eq (l0_0 : List (List Int)) : spec_l01Is.f l0_0 = (spec_l01In.f (l0_0.length : Int) 1 8).bind fun t14 => if t14 = true then (spec_l01Is.l0 (l0_0.length : Int) 0 l0_0) else (some false) := by kernel_rfl
set_option maxRecDepth 100000 in
theorem spec_l01Is.l0_eq (x3 : Int) (x4 : Int) (b0_0 : List (List Int)) : spec_l01Is.l0 x3 x4 b0_0 = if x4 < x3 then (if 0 ≤ x4 then (if x4 < (b0_0.length : Int) then (if ((row b0_0 x4).length : Int) = x3 then (spec_l01Is.l1 x3 x4 0 b0_0) else (some false)) else none) else none) else (spec_l01Is.l2 x3 0 b0_0) := (loop_unfold _ _ _ _).trans (by kernel_rfl)
set_option maxRecDepth 100000 in
theorem spec_l01Is.l1_eq (x3 : Int) (x4 : Int) (x5 : Int) (b0_0 : List (List Int)) : spec_l01Is.l1 x3 x4 x5 b0_0 = if x5 < x3 then (if 0 ≤ x4 then (if x4 < (b0_0.length : Int) then (if 0 ≤ x5 then (if x5 < ((row b0_0 x4).length : Int) then ((spec_l01In.f (T b0_0 x4 x5) 0 (wrapI (x3 - 1))).bind fun t44 => if t44 = true then (spec_l01Is.l1 x3 x4 (wrapI (x5 + 1)) b0_0) else (some false)) else none) else none) else none) else none) else (spec_l01Is.l0 x3 (wrapI (x4 + 1)) b0_0) := (loop_unfold _ _ _ _).trans (by kernel_rfl)
set_option maxRecDepth 100000 in
theorem spec_l01Is.l2_eq (x3 : Int) (x6 : Int) (b0_0 : List (List Int)) : spec_l01Is.l2 x3 x6 b0_0 = if x6 < x3 then (if 0 < (b0_0.length : Int) then (if 0 ≤ x6 then (if x6 < ((row b0_0 0).length : Int) then (if (T b0_0 0 x6) = x6 then (if 0 ≤ x6 then (if x6 < (b0_0.length : Int) then (if 0 < ((row b0_0 x6).length : Int) then (if (T b0_0 x6 0) = x6 then (spec_l01Is.l3 x3 x6 false 0 b0_0) else (some false)) else none) else none) else none) else (some false)) else none) else none) else none) else (some true) := (loop_unfold _ _ _ _).trans (by kernel_rfl)
set_option maxRecDepth 100000 in
theorem spec_l01Is.l3_eq (x3 : Int) (x6 : Int) (x7 : Bool) (x8 : Int) (b0_0 : List (List Int)) : spec_l01Is.l3 x3 x6 x7 x8 b0_0 = if x8 < x3 then (if x7 = true then (spec_l01Is.l4 x3 x6 true x8 0 b0_0) else (if 0 ≤ x6 then (if x6 < (b0_0.length : Int) then (if 0 ≤ x8 then (if x8 < ((row b0_0 x6).length : Int) then (if (T b0_0 x6 x8) = 0 then (if 0 ≤ x8 then (if x8 < (b0_0.length : Int) then (if 0 ≤ x6 then (if x6 < ((row b0_0 x8).length : Int) then (spec_l01Is.l4 x3 x6 (decide ((T b0_0 x8 x6) = 0)) x8 0 b0_0) else none) else none) else none) else none) else (spec_l01Is.l4 x3 x6 false x8 0 b0_0)) else none) else none) else none) else none)) else (if x7 = true then (spec_l01Is.l2 x3 (wrapI (x6 + 1)) b0_0) else (some false)) := (loop_unfold _ _ _ _).trans (by kernel_rfl)
set_option maxRecDepth 100000 in
theorem spec_l01Is.l4_eq (x3 : Int) (x6 : Int) (x7 : Bool) (x8 : Int) (x9 : Int) (b0_0 : List (List Int)) : spec_l01Is.l4 x3 x6 x7 x8 x9 b0_0 = if x9 < x3 then (if 0 ≤ x6 then (if x6 < (b0_0.length : Int) then (if 0 ≤ x8 then (if x8 < ((row b0_0 x6).length : Int) then (if 0 ≤ T b0_0 x6 x8 then (if T b0_0 x6 x8 < (b0_0.length : Int) then (if 0 ≤ x9 then (if x9 < ((row b0_0 (T b0_0 x6 x8)).length : Int) then (if 0 ≤ x6 then (if x6 < (b0_0.length : Int) then (if 0 ≤ x8 then (if x8 < (b0_0.length : Int) then (if 0 ≤ x9 then (if x9 < ((row b0_0 x8).length : Int) then (if 0 ≤ T b0_0 x8 x9 then (if T b0_0 x8 x9 < ((row b0_0 x6).length : Int) then (if (T b0_0 (T b0_0 x6 x8) x9) = (T b0_0 x6 (T b0_0 x8 x9)) then (spec_l01Is.l4 x3 x6 x7 x8 (wrapI (x9 + 1)) b0_0) else (some false)) else none) else none) else none) else none) else none) else none) else none) else none) else none) else none) else none) else none) else none) else none) else none) else none) else (spec_l01Is.l3 x3 x6 x7 (wrapI (x8 + 1)) b0_0) := (loop_unfold _ _ _ _).trans (by kernel_rfl)
noncomputable def spec_l01Is.con : Con := ⟨spec_l01Is.fn.ins, spec_l01Is.fn.outs, Bool, fun x => spec_l01Is.f x.1, fun r => ((r, ()), (()))⟩
theorem spec_l01Is.valid : Valid Try.prog 25 spec_l01Is.con := fn_valid (f := spec_l01Is.fn) (E := spec_l01Is.E) (enc := spec_l01Is.enc) ⟨ttOk, (conCons spec_l01In.valid conNil)⟩ (Checked.mixed Try.checked) ⟨Try.func25, by kernel_rfl, by kernel_rfl, by kernel_rfl, by kernel_rfl, by decide, by kernel_rfl, by kernel_rfl⟩ (fun _ => rfl)
end Go.Proofs.Ytjknpaplgclflaa.P
set_option linter.unusedVariables false
namespace Go.Proofs.Ytjknpaplgclflaa.P
open Go Go.RowKit Go.Proofs.Ytjknpaplgclflaa.D
noncomputable def spec_l01Gcd.E : Env := { tt := TT, con := [], frz := [], rows := [], live := [(1, [0, 1])], n := 17, pin := 0, nils := [] }
noncomputable def spec_l01Gcd.fn : D.Fn := { body := Try.f44.body.getD .skip, res := Try.f44.results.toList, ins := [.one (.v (.int .i64)), .one (.v (.int .i64))], outs := [.one (.v (.int .i64))] }
def spec_l01Gcd.enc (y : lsd (flats spec_l01Gcd.fn.outs) × lsd (ios spec_l01Gcd.fn.ins)) : Int := y.1.1
noncomputable def spec_l01Gcd.f (a0 : Int) (a1 : Int) : Option Int := denF spec_l01Gcd.E spec_l01Gcd.fn spec_l01Gcd.enc (a0, a1, ())
noncomputable def spec_l01Gcd.l0 (x0 : Int) (x1 : Int) : Option Int := denAt spec_l01Gcd.E spec_l01Gcd.fn spec_l01Gcd.enc [1, 0, 0] { fr := [(0, .lf (.int .i64 x0)), (1, .lf (.int .i64 x1))], ob := [], nx := 0 }
set_option maxRecDepth 100000 in
theorem spec_l01Gcd.f_eq (a0 : Int) (a1 : Int) : spec_l01Gcd.f a0 a1 = spec_l01Gcd.l0 a0 a1 := by kernel_rfl
set_option maxRecDepth 100000 in
theorem spec_l01Gcd.l0_eq (x0 : Int) (x1 : Int) : spec_l01Gcd.l0 x0 x1 = if x1 = 0 then (some (if (wrapI (0 - x0)) > x0 then (wrapI (0 - x0)) else x0)) else (if x1 = 0 then none else (spec_l01Gcd.l0 x1 ((x0 : Int).tmod x1))) := (loop_unfold _ _ _ _).trans (by kernel_rfl)
noncomputable def spec_l01Gcd.con : Con := ⟨spec_l01Gcd.fn.ins, spec_l01Gcd.fn.outs, Int, fun x => spec_l01Gcd.f x.1 x.2.1, fun r => ((r, ()), (()))⟩
theorem spec_l01Gcd.valid : Valid Try.prog 44 spec_l01Gcd.con := fn_valid (f := spec_l01Gcd.fn) (E := spec_l01Gcd.E) (enc := spec_l01Gcd.enc) ⟨ttOk, conNil⟩ (Checked.mixed Try.checked) ⟨Try.func44, by kernel_rfl, by kernel_rfl, by kernel_rfl, by kernel_rfl, by decide, by kernel_rfl, by kernel_rfl⟩ (fun _ => rfl)
end Go.Proofs.Ytjknpaplgclflaa.P
set_option linter.unusedVariables false
namespace Go.Proofs.Ytjknpaplgclflaa.P
open Go Go.RowKit Go.Proofs.Ytjknpaplgclflaa.D
noncomputable def spec_l02Is.E : Env := { tt := TT, con := [(43, spec_l01In.con), (44, spec_l01Gcd.con)], frz := [], rows := [], live := [(4, [2, 3, 5]), (9, [2, 3, 6]), (12, [2, 3, 6, 7])], n := 90, pin := 0, nils := [] }
noncomputable def spec_l02Is.fn : D.Fn := { body := Try.f26.body.getD .skip, res := Try.f26.results.toList, ins := [.agg [.v (.sl 25 (.sl 2 (.int .i64)))], .agg [.v (.int .i64), .v (.sl 2 (.int .i64))]], outs := [.one (.v .bool)] }
def spec_l02Is.enc (y : lsd (flats spec_l02Is.fn.outs) × lsd (ios spec_l02Is.fn.ins)) : Bool := y.1.1
noncomputable def spec_l02Is.f (l0_0 : List (List Int)) (a1_0 : Int) (l1_1 : List Int) : Option Bool := denF spec_l02Is.E spec_l02Is.fn spec_l02Is.enc (l0_0, a1_0, l1_1, ())
noncomputable def spec_l02Is.l0 (x5 : Int) (b0_0 : List (List Int)) (b1_0 : Int) (b1_1 : List Int) : Option Bool := denAt spec_l02Is.E spec_l02Is.fn spec_l02Is.enc [1, 1, 0, 1, 0] { fr := [(2, .lf (.box 0 0)), (3, .lf (.box 1 0)), (5, .lf (.int .i64 x5))], ob := [(0, .box 32 false [.sl (.sl 2 (.int .i64)) b0_0]), (1, .box 34 false [.int .i64 b1_0, .sl (.int .i64) b1_1])], nx := 2 }
noncomputable def spec_l02Is.l1 (x6 : Int) (b0_0 : List (List Int)) (b1_0 : Int) (b1_1 : List Int) : Option Bool := denAt spec_l02Is.E spec_l02Is.fn spec_l02Is.enc [1, 1, 1, 0, 1, 0] { fr := [(2, .lf (.box 0 0)), (3, .lf (.box 1 0)), (6, .lf (.int .i64 x6))], ob := [(0, .box 32 false [.sl (.sl 2 (.int .i64)) b0_0]), (1, .box 34 false [.int .i64 b1_0, .sl (.int .i64) b1_1])], nx := 2 }
noncomputable def spec_l02Is.l2 (x6 : Int) (x7 : Int) (b0_0 : List (List Int)) (b1_0 : Int) (b1_1 : List Int) : Option Bool := denAt spec_l02Is.E spec_l02Is.fn spec_l02Is.enc [1, 1, 1, 0, 1, 0, 0, 1, 0, 0, 1, 0] { fr := [(2, .lf (.box 0 0)), (3, .lf (.box 1 0)), (6, .lf (.int .i64 x6)), (7, .lf (.int .i64 x7))], ob := [(0, .box 32 false [.sl (.sl 2 (.int .i64)) b0_0]), (1, .box 34 false [.int .i64 b1_0, .sl (.int .i64) b1_1])], nx := 2 }
set_option maxRecDepth 100000 in
theorem spec_l02Is.f_eq (l0_0 : List (List Int)) (a1_0 : Int) (l1_1 : List Int) : spec_l02Is.f l0_0 a1_0 l1_1 = (spec_l01In.f a1_0 2 12).bind fun t10 => if t10 = true then (if (l1_1.length : Int) = (l0_0.length : Int) then (spec_l02Is.l0 0 l0_0 a1_0 l1_1) else (some false)) else (some false) := by kernel_rfl
set_option maxRecDepth 100000 in
theorem spec_l02Is.l0_eq (x5 : Int) (b0_0 : List (List Int)) (b1_0 : Int) (b1_1 : List Int) : spec_l02Is.l0 x5 b0_0 b1_0 b1_1 = if x5 < (b1_1.length : Int) then (if 0 ≤ x5 then (if x5 < (b1_1.length : Int) then ((spec_l01In.f (rd b1_1 x5) 1 (wrapI (b1_0 - 1))).bind fun t36 => if t36 = true then (if 0 ≤ x5 then (if x5 < (b1_1.length : Int) then ((spec_l01Gcd.f (rd b1_1 x5) b1_0).bind fun t46 => if t46 = 1 then (spec_l02Is.l0 (wrapI (x5 + 1)) b0_0 b1_0 b1_1) else (some false)) else none) else none) else (some false)) else none) else none) else (spec_l02Is.l1 0 b0_0 b1_0 b1_1) := (loop_unfold _ _ _ _).trans (by kernel_rfl)
set_option maxRecDepth 100000 in
theorem spec_l02Is.l1_eq (x6 : Int) (b0_0 : List (List Int)) (b1_0 : Int) (b1_1 : List Int) : spec_l02Is.l1 x6 b0_0 b1_0 b1_1 = if x6 < (b1_1.length : Int) then (spec_l02Is.l2 x6 0 b0_0 b1_0 b1_1) else (some true) := (loop_unfold _ _ _ _).trans (by kernel_rfl)
set_option maxRecDepth 100000 in
theorem spec_l02Is.l2_eq (x6 : Int) (x7 : Int) (b0_0 : List (List Int)) (b1_0 : Int) (b1_1 : List Int) : spec_l02Is.l2 x6 x7 b0_0 b1_0 b1_1 = if x7 < (b1_1.length : Int) then (if 0 ≤ x6 then (if x6 < (b0_0.length : Int) then (if 0 ≤ x7 then (if x7 < ((row b0_0 x6).length : Int) then (if 0 ≤ T b0_0 x6 x7 then (if T b0_0 x6 x7 < (b1_1.length : Int) then (if 0 ≤ x6 then (if x6 < (b1_1.length : Int) then (if 0 ≤ x7 then (if x7 < (b1_1.length : Int) then (if b1_0 = 0 then none else (if (rd b1_1 (T b0_0 x6 x7)) = ((wrapI ((rd b1_1 x6) * (rd b1_1 x7)) : Int).tmod b1_0) then (spec_l02Is.l2 x6 (wrapI (x7 + 1)) b0_0 b1_0 b1_1) else (some false))) else none) else none) else none) else none) else none) else none) else none) else none) else none) else none) else (spec_l02Is.l1 (wrapI (x6 + 1)) b0_0 b1_0 b1_1) := (loop_unfold _ _ _ _).trans (by kernel_rfl)
noncomputable def spec_l02Is.con : Con := ⟨spec_l02Is.fn.ins, spec_l02Is.fn.outs, Bool, fun x => spec_l02Is.f x.1 x.2.1 x.2.2.1, fun r => ((r, ()), (()))⟩
theorem spec_l02Is.valid : Valid Try.prog 26 spec_l02Is.con := fn_valid (f := spec_l02Is.fn) (E := spec_l02Is.E) (enc := spec_l02Is.enc) ⟨ttOk, (conCons spec_l01In.valid (conCons spec_l01Gcd.valid conNil))⟩ (Checked.mixed Try.checked) ⟨Try.func26, by kernel_rfl, by kernel_rfl, by kernel_rfl, by kernel_rfl, by decide, by kernel_rfl, by kernel_rfl⟩ (fun _ => rfl)
end Go.Proofs.Ytjknpaplgclflaa.P
set_option linter.unusedVariables false
namespace Go.Proofs.Ytjknpaplgclflaa.P
open Go Go.RowKit Go.Proofs.Ytjknpaplgclflaa.D
noncomputable def spec_l01N.E : Env := { tt := TT, con := [], frz := [], rows := [], live := [], n := 6, pin := 0, nils := [] }
noncomputable def spec_l01N.fn : D.Fn := { body := Try.f52.body.getD .skip, res := Try.f52.results.toList, ins := [.agg [.v (.sl 25 (.sl 2 (.int .i64)))]], outs := [.one (.v (.int .i64))] }
def spec_l01N.enc (y : lsd (flats spec_l01N.fn.outs) × lsd (ios spec_l01N.fn.ins)) : Int := y.1.1
noncomputable def spec_l01N.f (l0_0 : List (List Int)) : Option Int := denF spec_l01N.E spec_l01N.fn spec_l01N.enc (l0_0, ())
set_option maxRecDepth 100000 in
theorem spec_l01N.f_eq (l0_0 : List (List Int)) : spec_l01N.f l0_0 = some (l0_0.length : Int) := by kernel_rfl
noncomputable def spec_l01N.con : Con := ⟨spec_l01N.fn.ins, spec_l01N.fn.outs, Int, fun x => spec_l01N.f x.1, fun r => ((r, ()), (()))⟩
theorem spec_l01N.valid : Valid Try.prog 52 spec_l01N.con := fn_valid (f := spec_l01N.fn) (E := spec_l01N.E) (enc := spec_l01N.enc) ⟨ttOk, conNil⟩ (Checked.mixed Try.checked) ⟨Try.func52, by kernel_rfl, by kernel_rfl, by kernel_rfl, by kernel_rfl, by decide, by kernel_rfl, by kernel_rfl⟩ (fun _ => rfl)
end Go.Proofs.Ytjknpaplgclflaa.P
set_option linter.unusedVariables false
namespace Go.Proofs.Ytjknpaplgclflaa.P
open Go Go.RowKit Go.Proofs.Ytjknpaplgclflaa.D
noncomputable def spec_l01Own.E : Env := { tt := TT, con := [], frz := [], rows := [], live := [], n := 6, pin := 0, nils := [] }
noncomputable def spec_l01Own.fn : D.Fn := { body := Try.f53.body.getD .skip, res := Try.f53.results.toList, ins := [.one (.v (.sl 2 (.int .i64)))], outs := [.one (.own 2 true (.int .i64))] }
def spec_l01Own.enc (y : lsd (flats spec_l01Own.fn.outs) × lsd (ios spec_l01Own.fn.ins)) : (List Int) := y.1.1
noncomputable def spec_l01Own.f (l0 : List Int) : Option (List Int) := denF spec_l01Own.E spec_l01Own.fn spec_l01Own.enc (l0, ())
set_option maxRecDepth 100000 in
theorem spec_l01Own.f_eq (l0 : List Int) : spec_l01Own.f l0 = if ([] : List Int).length + l0.length ≤ 17592186044416 then (some (([] : List Int) ++ l0)) else none := by kernel_rfl
noncomputable def spec_l01Own.con : Con := ⟨spec_l01Own.fn.ins, spec_l01Own.fn.outs, (List Int), fun x => spec_l01Own.f x.1, fun r => ((r, ()), (()))⟩
theorem spec_l01Own.valid : Valid Try.prog 53 spec_l01Own.con := fn_valid (f := spec_l01Own.fn) (E := spec_l01Own.E) (enc := spec_l01Own.enc) ⟨ttOk, conNil⟩ (Checked.mixed Try.checked) ⟨Try.func53, by kernel_rfl, by kernel_rfl, by kernel_rfl, by kernel_rfl, by decide, by kernel_rfl, by kernel_rfl⟩ (fun _ => rfl)
end Go.Proofs.Ytjknpaplgclflaa.P
set_option linter.unusedVariables false
namespace Go.Proofs.Ytjknpaplgclflaa.P
open Go Go.RowKit Go.Proofs.Ytjknpaplgclflaa.D
noncomputable def spec_l01Mod.E : Env := { tt := TT, con := [], frz := [], rows := [], live := [], n := 12, pin := 0, nils := [] }
noncomputable def spec_l01Mod.fn : D.Fn := { body := Try.f54.body.getD .skip, res := Try.f54.results.toList, ins := [.one (.v (.int .i64)), .one (.v (.int .i64))], outs := [.one (.v (.int .i64))] }
def spec_l01Mod.enc (y : lsd (flats spec_l01Mod.fn.outs) × lsd (ios spec_l01Mod.fn.ins)) : Int := y.1.1
noncomputable def spec_l01Mod.f (a0 : Int) (a1 : Int) : Option Int := denF spec_l01Mod.E spec_l01Mod.fn spec_l01Mod.enc (a0, a1, ())
set_option maxRecDepth 100000 in
theorem spec_l01Mod.f_eq (a0 : Int) (a1 : Int) : spec_l01Mod.f a0 a1 = if a1 = 0 then none else (if a1 = 0 then none else (some ((wrapI (((a0 : Int).tmod a1) + a1) : Int).tmod a1))) := by kernel_rfl
noncomputable def spec_l01Mod.con : Con := ⟨spec_l01Mod.fn.ins, spec_l01Mod.fn.outs, Int, fun x => spec_l01Mod.f x.1 x.2.1, fun r => ((r, ()), (()))⟩
theorem spec_l01Mod.valid : Valid Try.prog 54 spec_l01Mod.con := fn_valid (f := spec_l01Mod.fn) (E := spec_l01Mod.E) (enc := spec_l01Mod.enc) ⟨ttOk, conNil⟩ (Checked.mixed Try.checked) ⟨Try.func54, by kernel_rfl, by kernel_rfl, by kernel_rfl, by kernel_rfl, by decide, by kernel_rfl, by kernel_rfl⟩ (fun _ => rfl)
end Go.Proofs.Ytjknpaplgclflaa.P
set_option linter.unusedVariables false
namespace Go.Proofs.Ytjknpaplgclflaa.D
open Go Go.RowKit
theorem valid_view {P : Program} {g : FuncId} {c : Con} (hv : Valid P g c) {x : lsd (flats c.ins)} {r : c.R} (hx : c.f x = some r) {w : World} {vs : List Value} (ha : ASRs P (fun _ => False) (fun k => k < w.heap.size) w c.ins x vs (fun _ => False)) :
    Calls P g vs.toArray w fun e w' => ∃ u, e = .returned u ∧ Below w.heap.size w w' ∧ ∃ Z' Fo us, u = outV us ∧ ASRs P (fun _ => False) Z' w' c.outs (c.dec r).1 us Fo := by
  refine (hv.2 x r hx (fun k => k < w.heap.size) (fun _ => False) (fun _ => False) w vs ha (fun _ h => h.elim) (fun _ h => h) (fun _ h => h.elim)).mono ?_
  rintro e w' ⟨u, rfl, Z', Fi, Fo, hp⟩
  obtain ⟨us, hu, ho⟩ := hp.out
  exact ⟨u, rfl, ⟨hp.os, hp.tape, hp.output, hp.size, fun k hk => hp.old k hk fun h => h⟩, Z', Fo, us, hu, ho⟩
theorem cell_lt {w : World} {a : Addr} {v : Value} (h : w.cell? a = some v) : a.block < w.heap.size := by
  unfold World.cell? at h
  cases hb : w.heap[a.block]? with
  | none => rw [hb] at h; cases h
  | some o => exact (Array.getElem?_eq_some_iff.1 hb).1
theorem view_raw {α : Type} {w : World} {sz : Nat} {R : α → List Value → Prop} {A : Option Addr} {c : Nat} {xs : List α} (hz : 0 < sz) (hc : xs.length ≤ c) (hm : xs.length ≤ 9223372036854775807)
    (h : 0 < xs.length → ∃ ad, A = some ad ∧ ∀ (j : Nat) (p : α), xs[j]? = some p → ∃ cs, cs.length = sz ∧ R p cs ∧ ∀ (i : Nat) (u : Value), cs[i]? = some u → w.cell? (ad.add (j * sz + i)) = some u) : ViewRep (fun k => k < w.heap.size) w sz R A c xs := by
  refine ⟨hc, hm, fun hl => ?_⟩
  obtain ⟨ad, rfl, hcell⟩ := h hl
  refine ⟨ad, rfl, ?_, hcell⟩
  obtain ⟨cs, h1, h2, h3⟩ := hcell 0 xs[0] (List.getElem?_eq_getElem hl)
  have := cell_lt (h3 0 cs[0] (List.getElem?_eq_getElem (by omega)))
  rwa [add_block] at this
theorem law_true {P : Program} {g : FuncId} {c : Con} (hv : Valid P g c) {x : lsd (flats c.ins)} {r : c.R} (hx : c.f x = some r) {w : World} {vs : List Value} (ha : ASRs P (fun _ => False) (fun k => k < w.heap.size) w c.ins x vs (fun _ => False)) (ho : c.outs = [.one (.v .bool)]) (hr : ∀ y : lsd (flats [.one (.v .bool)]), HEq y (c.dec r).1 → y.1 = true) :
    Calls P g vs.toArray w fun e w' => e = .returned (.bool true) ∧ Below w.heap.size w w' := by
  refine (valid_view hv hx ha).mono ?_
  rintro e w' ⟨u, rfl, hb, Z', Fo, us, rfl, hh⟩
  refine ⟨?_, hb⟩
  obtain ⟨ins, outs, R, f, dec⟩ := c
  have ho : outs = [.one (.v .bool)] := ho
  subst ho
  obtain ⟨v, vs', F0, F1, rfl, h1, h2, _⟩ := hh
  cases h2
  have h1 : [v] = [.bool (dec r).1.1] := h1
  have hb1 : (dec r).1.1 = true := hr _ HEq.rfl
  cases h1
  rw [hb1]
  rfl
end Go.Proofs.Ytjknpaplgclflaa.D
set_option linter.unusedVariables false
namespace Go.Proofs.Ytjknpaplgclflaa.D
open Go Go.RowKit Go.ChangeShapes Go.WideShapes Go.Joins Go.Deep
section
variable {H : Type} {enc : TypeId × Value → H} {P : Program} {w : World} {base : Nat} {held : Bool}
abbrev Zw (w : World) : Nat → Prop := fun k => k < w.heap.size
abbrev No : Nat → Prop := fun _ => False
theorem rep_ints {q : TypeId} (hn : nf q = false) {k : IntKind} {a : Addr} {len cap : Nat} {zs : List Int} (hl : len ≤ cap) (hm : cap ≤ maxLen) (hz : zs.length = cap) (hc : ∀ i, i < zs.length → w.cell? (a.add i) = some (.int k (zs.getD i 0))) (hw : ∀ n ∈ zs, (Lit.int k n).wf = true) :
    ∃ l : List Int, len = l.length ∧ l.length ≤ maxLen ∧ (∀ x ∈ l, (Lit.int k x).wf = true) ∧ Rep (Zw w) w false (.sl q (.int k)) l [.slice (some a) len cap] No := by
  have hlen : (zs.take len).length = len := by rw [List.length_take]; omega
  refine ⟨zs.take len, hlen.symm, by omega, fun x hx => hw x (List.mem_of_mem_take hx), some a, cap, by rw [hlen], ?_, fun h => by rw [hn] at h; cases h⟩
  refine view_raw Nat.one_pos (by show (zs.take len).length ≤ _; omega) (by show (zs.take len).length ≤ _; simp only [maxLen] at hm; omega) fun _ => ⟨a, rfl, fun j p hj => ?_⟩
  have hj : (zs.take len)[j]? = some p := hj
  have hjl : j < len := by
    have := (List.getElem?_eq_some_iff.1 hj).1
    omega
  refine ⟨[.int k p], rfl, rfl, fun i u hu => ?_⟩
  cases i with
  | zero =>
    simp only [List.getElem?_cons_zero, Option.some.injEq] at hu
    subst hu
    have h := hc j (by omega)
    have hp : zs.getD j 0 = p := by
      rw [List.getElem?_take] at hj
      simp only [hjl, if_true] at hj
      simp [List.getD, hj]
    rw [hp] at h
    simpa [Ty.size] using h
  | succ i => simp at hu
theorem rep_none {q : TypeId} {t : Ty} : Rep (Zw w) w false (.sl q t) ([] : List t.den) [.slice none 0 0] No :=
  ⟨none, 0, rfl, ⟨Nat.le_refl _, Nat.zero_le _, fun h => absurd h (by simp)⟩, fun _ _ => rfl⟩
theorem come_ints {t e : TypeId} {k : IntKind} {fuel : Nat} {v : Value} {x : DataW H × List MemPlace} (ht : P.underlying t = some (.slice e)) (he : P.underlying e = some (.int k)) (hc : P.cellsOf e = 1)
    (h : DataW.trod enc P w base (fun _ => true) held fuel t [v] = some x) (hn : nf e = false := by rfl) :
    ∃ l : List Int, l.length ≤ maxLen ∧ (∀ x ∈ l, (Lit.int k x).wf = true) ∧ Rep (Zw w) w false (.sl e (.int k)) l [v] No := by
  rcases open_ints ht he hc h with ⟨hcs, _⟩ | ⟨a, len, cap, zs, hcs, _, hl, hm, hz, _, hcell, hw⟩
  · refine ⟨[], by simp, by simp, ?_⟩
    rw [hcs]
    exact rep_none
  · simp only [if_true] at hz
    obtain ⟨l, h1, h2, h3, h4⟩ := rep_ints (q := e) hn hl hm hz hcell hw
    exact ⟨l, h2, h3, by rw [hcs]; exact h4⟩
theorem come_rows {t e q : TypeId} {k : IntKind} {fuel : Nat} {v : Value} {x : DataW H × List MemPlace} (ht : P.underlying t = some (.slice e)) (he : P.underlying e = some (.slice q)) (hq : P.underlying q = some (.int k))
    (ce : P.cellsOf e = 1) (cq : P.cellsOf q = 1) (h : DataW.trod enc P w base (fun _ => true) held fuel t [v] = some x) (hne : nf e = false := by rfl) (hn : nf q = false := by rfl) :
    ∃ l : List (List Int), l.length ≤ maxLen ∧ (∀ r ∈ l, r.length ≤ maxLen ∧ ∀ x ∈ r, (Lit.int k x).wf = true) ∧ Rep (Zw w) w false (.sl e (.sl q (.int k))) l [v] No := by
  rcases open_int_rows ht he hq ce cq h with ⟨hcs, _⟩ | ⟨a, len, cap, A, L, C, Z, hcs, _, hl, hm, _, hr⟩
  · refine ⟨[], by simp, by simp, ?_⟩
    rw [hcs]
    exact rep_none
  · have each : ∀ r, r < cap → ∃ y : List Int, y.length ≤ maxLen ∧ (∀ x ∈ y, (Lit.int k x).wf = true) ∧ Rep (Zw w) w false (.sl q (.int k)) y [.slice (A r) (L r) (C r)] No := by
      intro r hrc
      obtain ⟨_, h1, h2, h3, h4, h5, h6⟩ := hr r hrc
      cases hA : A r with
      | none =>
        have hC := h5 hA
        refine ⟨[], by simp, by simp, ?_⟩
        have hL : L r = 0 := by omega
        rw [hL, hC]
        exact rep_none
      | some a' =>
        obtain ⟨l, _, h7, h8, h9⟩ := rep_ints (q := q) hn h1 h2 h3 (fun i hi => (h6 a' hA).2 i (by omega)) h4
        exact ⟨l, h7, h8, h9⟩
    obtain ⟨Y, hY⟩ := choose_lt each
    have hlen : ((List.range len).map Y).length = len := by simp
    refine ⟨(List.range len).map Y, by omega, fun r hr' => ?_, ?_⟩
    · obtain ⟨j, hj, rfl⟩ := List.mem_map.1 hr'
      obtain ⟨h1, h2, _⟩ := hY j (by have := List.mem_range.1 hj; omega)
      exact ⟨h1, h2⟩
    · rw [hcs]
      refine ⟨some a, cap, by rw [hlen], ?_, fun h => by rw [hne] at h; cases h⟩
      refine view_raw Nat.one_pos (by show ((List.range len).map Y).length ≤ _; omega) (by show ((List.range len).map Y).length ≤ _; simp only [maxLen] at hm; omega) fun _ => ⟨a, rfl, fun j p hj => ?_⟩
      have hj : ((List.range len).map Y)[j]? = some p := hj
      have hjl : j < len := by
        have := (List.getElem?_eq_some_iff.1 hj).1
        omega
      have hp : p = Y j := by simpa [hjl] using hj.symm
      subst hp
      obtain ⟨h1, h2, h3⟩ := hY j (by omega)
      refine ⟨[.slice (A j) (L j) (C j)], rfl, h3, fun i u hu => ?_⟩
      cases i with
      | zero =>
        simp only [List.getElem?_cons_zero, Option.some.injEq] at hu
        subst hu
        have := (hr j (by omega)).1
        simpa [Ty.size] using this
      | succ i => simp at hu
theorem come_int {t : TypeId} {k : IntKind} {fuel : Nat} {v : Value} {x : DataW H × List MemPlace} (ht : P.underlying t = some (.int k)) (h : DataW.trod enc P w base (fun _ => true) held fuel t [v] = some x) : ∃ n : Int, (Lit.int k n).wf = true ∧ Rep (Zw w) w false (.int k) n [v] No := by
  obtain ⟨n, h1, _, h2⟩ := DataW.trod_int ht h
  exact ⟨n, h2, h1⟩
theorem open_agg1 {r : Reach} {b0 : Nat} {t : TypeId} {f0 : Field} {v : Value} {d : DataW H} {p : List MemPlace} {spare : Nat → Bool} (hs : P.underlying t = some (.struct #[f0])) (hone : oneCellFields P #[f0] = true) (hC : P.cellsOf t = 1)
    (hv : Value.okWide P w r b0 t v) (h : DataW.Trod enc P w base spare held t v d p) :
    ∃ (v0 : Value) (y0 : DataW H × List MemPlace) (n : Nat), v = .agg #[v0] ∧ DataW.trod enc P w base spare held n f0.type [v0] = some y0 := by
  obtain ⟨cs, rfl, hsz⟩ := okWide_struct hs hv
  have hsz1 : cs.size = 1 := hsz.trans hC
  obtain ⟨c0, rfl⟩ : ∃ c0, cs = #[c0] := by
    obtain ⟨l⟩ := cs
    match l, hsz1 with
    | [c0], _ => exact ⟨c0, rfl⟩
  obtain ⟨fuel, hf⟩ := h
  obtain ⟨y0, n, hx, _, h0⟩ := trod_struct1 hs hf
  obtain ⟨o0, k0⟩ := hone_of hone 0 f0 rfl
  exact ⟨c0, y0, n, rfl, by simpa [Value.cells, o0, k0] using h0⟩
theorem args_nil : ASRs P No (Zw w) w [] () [] No := rfl
theorem args_agg1 {t : Ty} {x : t.den} {v : Value} {ins : List ASh} {y : lsd (flats ins)} {vs : List Value} (h : Rep (Zw w) w false t x [v] No) (hr : ASRs P No (Zw w) w ins y vs No) : ASRs P No (Zw w) w (.agg [.v t] :: ins) (x, y) (.agg #[v] :: vs) No :=
  ⟨.agg #[v], vs, No, No, rfl, ⟨[v], rfl, v, [], No, No, rfl, h, rfl, fun _ h => h, fun _ h => h, fun _ h => h.elim⟩, hr, fun _ h => h, fun _ h => h, fun _ h => h.elim⟩
theorem args_agg2 {t t' : Ty} {x : t.den} {x' : t'.den} {v v' : Value} {ins : List ASh} {y : lsd (flats ins)} {vs : List Value} (h : Rep (Zw w) w false t x [v] No) (h' : Rep (Zw w) w false t' x' [v'] No) (hr : ASRs P No (Zw w) w ins y vs No) : ASRs P No (Zw w) w (.agg [.v t, .v t'] :: ins) (x, x', y) (.agg #[v, v'] :: vs) No :=
  ⟨.agg #[v, v'], vs, No, No, rfl, ⟨[v, v'], rfl, v, [v'], No, No, rfl, h, ⟨v', [], No, No, rfl, h', rfl, fun _ h => h, fun _ h => h, fun _ h => h.elim⟩, fun _ h => h, fun _ h => h, fun _ h => h.elim⟩, hr, fun _ h => h, fun _ h => h, fun _ h => h.elim⟩
end
end Go.Proofs.Ytjknpaplgclflaa.D
set_option linter.unusedVariables false
namespace Go.Proofs.Ytjknpaplgclflaa.D
open Go Go.RowKit
theorem valid_int1 {P : Program} {g : FuncId} {k k' : IntKind} {F : Int → Option Int} (hc : Callable P g) (h : ∀ (x y : Int) (w : World), F x = some y → Calls P g #[.int k x] w fun e w' => e = .returned (.int k' y) ∧ w' = w) :
    Valid P g ⟨[.one (.v (.int k))], [.one (.v (.int k'))], Int, fun x => F x.1, fun r => ((r, ()), ())⟩ := by
  refine ⟨hc, fun x r hx Z B S w vs ha hS hZ hB => ?_⟩
  obtain ⟨v, vs', F0, F1, rfl, h1, h2, _⟩ := ha
  cases h2
  have h1 : [v] = [.int k x.1] := h1
  cases h1
  refine (h x.1 r w hx).mono ?_
  rintro e w' ⟨rfl, rfl⟩
  refine ⟨_, rfl, Z, fun _ => False, fun _ => False, ⟨⟨_, [], fun _ => False, fun _ => False, rfl, trivial, trivial, fun _ h => h, fun _ h => h, fun _ h => h.elim⟩, ⟨[.int k' r], rfl, _, [], fun _ => False, fun _ => False, rfl, rfl, rfl, fun _ h => h, fun _ h => h, fun _ h => h.elim⟩, fun _ h => h.elim, fun _ h => (h.elim id id : False).elim, fun _ h => h, fun k hk => ⟨.inl hk, hZ k hk⟩, rfl, rfl, rfl, Nat.le_refl _, fun _ _ _ => rfl⟩⟩
end Go.Proofs.Ytjknpaplgclflaa.D
set_option linter.unusedVariables false
set_option linter.unusedSimpArgs false
namespace Go.Proofs.Ytjknpaplgclflaa.D
open Go Go.RowKit
end Go.Proofs.Ytjknpaplgclflaa.D
namespace Go.Proofs.Ytjknpaplgclflaa.D
noncomputable def fuel : Nat := Classical.choose (⟨64, rfl⟩ : ∃ n, n = 64)
theorem fuel_eq : fuel = 64 := Classical.choose_spec (⟨64, rfl⟩ : ∃ n, n = 64)
theorem valid_none {P : Go.Program} {g : Go.FuncId} (hc : Callable P g) {ins outs : List ASh} {R : Type} {dec : R → lsd (flats outs) × lsd (ios ins)} : Valid P g ⟨ins, outs, R, fun _ => none, dec⟩ := ⟨hc, fun x r h => by cases h⟩
end Go.Proofs.Ytjknpaplgclflaa.D
set_option linter.unusedVariables false
namespace Go.Proofs.Ytjknpaplgclflaa.P
open Go Go.RowKit Go.Proofs.Ytjknpaplgclflaa.D
noncomputable def spec_l05Search.E (c : Con) : Env := { tt := TT, con := [(35, c), (52, spec_l01N.con), (53, spec_l01Own.con), (54, spec_l01Mod.con)], frz := [91], rows := [22, 23], live := [(6, [2, 3, 4, 7, 8, 9]), (10, [2, 3, 4, 7, 8, 9, 10, 11, 12]), (13, [2, 3, 4, 7, 8, 9, 10, 11, 12, 13])], n := 95, pin := 0, nils := [11] }
noncomputable def spec_l05Search.fn : D.Fn := { body := Try.f35.body.getD .skip, res := Try.f35.results.toList, ins := [.agg [.v (.sl 25 (.sl 2 (.int .i64)))], .agg [.v (.int .i64), .v (.sl 2 (.int .i64))], .one (.v (.sl 2 (.int .i64)))], outs := [.one (.own 25 false (.sl 2 (.int .i64)))] }
def spec_l05Search.enc (y : lsd (flats spec_l05Search.fn.outs) × lsd (ios spec_l05Search.fn.ins)) : (List (List Int)) := y.1.1
noncomputable def spec_l05Search.cof (F : lsd (flats spec_l05Search.fn.ins) → Option (List (List Int))) : Con := ⟨spec_l05Search.fn.ins, spec_l05Search.fn.outs, (List (List Int)), F, fun r => ((r, ()), (()))⟩
noncomputable def spec_l05Search.fx : Nat → lsd (flats spec_l05Search.fn.ins) → Option (List (List Int))
 | 0 => fun _ => none
 | n + 1 => fun x => denF (spec_l05Search.E (spec_l05Search.cof (spec_l05Search.fx n))) spec_l05Search.fn spec_l05Search.enc x
noncomputable def spec_l05Search.cn (n : Nat) : Con := spec_l05Search.cof (spec_l05Search.fx n)
noncomputable def spec_l05Search.f (n : Nat) (l0_0 : List (List Int)) (a1_0 : Int) (l1_1 : List Int) (l2 : List Int) : Option (List (List Int)) := spec_l05Search.fx n (l0_0, a1_0, l1_1, l2, ())
noncomputable def spec_l05Search.l0 (n : Nat) (x2 : List Int) (x7 : Int) (x9 : Int) (b0_0 : List (List Int)) (b1_0 : Int) (b1_1 : List Int) (r2 : List (List Int)) : Option (List (List Int)) := denAt (spec_l05Search.E (spec_l05Search.cn n)) spec_l05Search.fn spec_l05Search.enc [1, 1, 1, 1, 0, 1, 0] { fr := [(2, .lf (.sl (.int .i64) x2)), (3, .lf (.box 0 0)), (4, .lf (.box 1 0)), (7, .lf (.int .i64 x7)), (8, .lf (.own 2)), (9, .lf (.int .i64 x9))], ob := [(0, .box 32 false [.sl (.sl 2 (.int .i64)) b0_0]), (1, .box 34 false [.int .i64 b1_0, .sl (.int .i64) b1_1]), (2, .row 25 false (.sl 2 (.int .i64)) r2)], nx := 3 }
noncomputable def spec_l05Search.l1 (n : Nat) (x2 : List Int) (x7 : Int) (x9 : Int) (x11 : Bool) (x12 : Int) (b0_0 : List (List Int)) (b1_0 : Int) (b1_1 : List Int) (r2 : List (List Int)) (r3 : List Int) : Option (List (List Int)) := denAt (spec_l05Search.E (spec_l05Search.cn n)) spec_l05Search.fn spec_l05Search.enc [1, 1, 1, 1, 0, 1, 0, 0, 1, 0, 0, 1, 0, 1, 0] { fr := [(2, .lf (.sl (.int .i64) x2)), (3, .lf (.box 0 0)), (4, .lf (.box 1 0)), (7, .lf (.int .i64 x7)), (8, .lf (.own 2)), (9, .lf (.int .i64 x9)), (10, .lf (.own 3)), (11, .lf (boolLf x11)), (12, .lf (.int .i64 x12))], ob := [(0, .box 32 false [.sl (.sl 2 (.int .i64)) b0_0]), (1, .box 34 false [.int .i64 b1_0, .sl (.int .i64) b1_1]), (2, .row 25 false (.sl 2 (.int .i64)) r2), (3, .row 2 true (.int .i64) r3)], nx := 4 }
noncomputable def spec_l05Search.l2 (n : Nat) (x2 : List Int) (x7 : Int) (x9 : Int) (x11 : Bool) (x12 : Int) (x13 : Int) (b0_0 : List (List Int)) (b1_0 : Int) (b1_1 : List Int) (r2 : List (List Int)) (r3 : List Int) : Option (List (List Int)) := denAt (spec_l05Search.E (spec_l05Search.cn n)) spec_l05Search.fn spec_l05Search.enc [1, 1, 1, 1, 0, 1, 0, 0, 1, 0, 0, 1, 0, 1, 0, 0, 1, 0, 0, 1, 0] { fr := [(2, .lf (.sl (.int .i64) x2)), (3, .lf (.box 0 0)), (4, .lf (.box 1 0)), (7, .lf (.int .i64 x7)), (8, .lf (.own 2)), (9, .lf (.int .i64 x9)), (10, .lf (.own 3)), (11, .lf (boolLf x11)), (12, .lf (.int .i64 x12)), (13, .lf (.int .i64 x13))], ob := [(0, .box 32 false [.sl (.sl 2 (.int .i64)) b0_0]), (1, .box 34 false [.int .i64 b1_0, .sl (.int .i64) b1_1]), (2, .row 25 false (.sl 2 (.int .i64)) r2), (3, .row 2 true (.int .i64) r3)], nx := 4 }
set_option maxRecDepth 100000 in
theorem spec_l05Search.f_eq (n : Nat) (l0_0 : List (List Int)) (a1_0 : Int) (l1_1 : List Int) (l2 : List Int) : spec_l05Search.f (n + 1) l0_0 a1_0 l1_1 l2 = (spec_l01N.f l0_0).bind fun t19 => if (l2.length : Int) = t19 then (some ([l2] : List (List Int))) else (spec_l05Search.l0 n l2 (l2.length : Int) 0 l0_0 a1_0 l1_1 ([] : List (List Int))) := by kernel_rfl
set_option maxRecDepth 100000 in
theorem spec_l05Search.l0_eq (n : Nat) (x2 : List Int) (x7 : Int) (x9 : Int) (b0_0 : List (List Int)) (b1_0 : Int) (b1_1 : List Int) (r2 : List (List Int)) : spec_l05Search.l0 n x2 x7 x9 b0_0 b1_0 b1_1 r2 = if x9 < b1_0 then ((spec_l01Own.f x2).bind fun t31 => if t31.length + ([x9] : List Int).length ≤ 17592186044416 then (spec_l05Search.l1 n x2 x7 x9 true 0 b0_0 b1_0 b1_1 r2 (t31 ++ ([x9] : List Int))) else none) else (some r2) := (loop_unfold _ _ _ _).trans (by kernel_rfl)
set_option maxRecDepth 100000 in
theorem spec_l05Search.l1_eq (n : Nat) (x2 : List Int) (x7 : Int) (x9 : Int) (x11 : Bool) (x12 : Int) (b0_0 : List (List Int)) (b1_0 : Int) (b1_1 : List Int) (r2 : List (List Int)) (r3 : List Int) : spec_l05Search.l1 n x2 x7 x9 x11 x12 b0_0 b1_0 b1_1 r2 r3 = if x12 ≤ x7 then (if x11 = true then (spec_l05Search.l2 n x2 x7 x9 x11 x12 0 b0_0 b1_0 b1_1 r2 r3) else (if x11 = true then ((spec_l05Search.f n b0_0 b1_0 b1_1 r3).bind fun t92 => if r2.length + t92.length ≤ 5864062014805 then (spec_l05Search.l0 n x2 x7 (wrapI (x9 + 1)) b0_0 b1_0 b1_1 (r2 ++ t92)) else none) else (spec_l05Search.l0 n x2 x7 (wrapI (x9 + 1)) b0_0 b1_0 b1_1 r2))) else (if x11 = true then ((spec_l05Search.f n b0_0 b1_0 b1_1 r3).bind fun t92 => if r2.length + t92.length ≤ 5864062014805 then (spec_l05Search.l0 n x2 x7 (wrapI (x9 + 1)) b0_0 b1_0 b1_1 (r2 ++ t92)) else none) else (spec_l05Search.l0 n x2 x7 (wrapI (x9 + 1)) b0_0 b1_0 b1_1 r2)) := (loop_unfold _ _ _ _).trans (by kernel_rfl)
set_option maxRecDepth 100000 in
theorem spec_l05Search.l2_eq (n : Nat) (x2 : List Int) (x7 : Int) (x9 : Int) (x11 : Bool) (x12 : Int) (x13 : Int) (b0_0 : List (List Int)) (b1_0 : Int) (b1_1 : List Int) (r2 : List (List Int)) (r3 : List Int) : spec_l05Search.l2 n x2 x7 x9 x11 x12 x13 b0_0 b1_0 b1_1 r2 r3 = if x13 ≤ x7 then (if x11 = true then (if 0 ≤ x12 then (if x12 < (b0_0.length : Int) then (if 0 ≤ x13 then (if x13 < ((row b0_0 x12).length : Int) then (if (T b0_0 x12 x13) > x7 then (spec_l05Search.l2 n x2 x7 x9 true x12 (wrapI (x13 + 1)) b0_0 b1_0 b1_1 r2 r3) else (if 0 ≤ T b0_0 x12 x13 then (if T b0_0 x12 x13 < (r3.length : Int) then (if 0 ≤ T b0_0 x12 x13 then (if T b0_0 x12 x13 < (r3.length : Int) then (if 0 ≤ x12 then (if x12 < (r3.length : Int) then (if 0 ≤ x12 then (if x12 < (r3.length : Int) then (if 0 ≤ x12 then (if x12 < (b1_1.length : Int) then (if 0 ≤ x13 then (if x13 < (r3.length : Int) then (if 0 ≤ x13 then (if x13 < (r3.length : Int) then ((spec_l01Mod.f (wrapI ((rd r3 x12) + (wrapI ((rd b1_1 x12) * (rd r3 x13))))) b1_0).bind fun t84 => spec_l05Search.l2 n x2 x7 x9 (decide ((rd r3 (T b0_0 x12 x13)) = t84)) x12 (wrapI (x13 + 1)) b0_0 b1_0 b1_1 r2 r3) else none) else none) else none) else none) else none) else none) else none) else none) else none) else none) else none) else none) else none) else none)) else none) else none) else none) else none) else (spec_l05Search.l1 n x2 x7 x9 x11 (wrapI (x12 + 1)) b0_0 b1_0 b1_1 r2 r3)) else (spec_l05Search.l1 n x2 x7 x9 x11 (wrapI (x12 + 1)) b0_0 b1_0 b1_1 r2 r3) := (loop_unfold _ _ _ _).trans (by kernel_rfl)
theorem spec_l05Search.vn : ∀ n, Valid Try.prog 35 (spec_l05Search.cn n)
 | 0 => valid_none ⟨_, Try.func35, by kernel_rfl, by kernel_rfl⟩
 | n + 1 => fn_valid (f := spec_l05Search.fn) (E := spec_l05Search.E (spec_l05Search.cn n)) (enc := spec_l05Search.enc) ⟨ttOk, (conCons (spec_l05Search.vn n) (conCons spec_l01N.valid (conCons spec_l01Own.valid (conCons spec_l01Mod.valid conNil))))⟩ (Checked.mixed Try.checked) ⟨Try.func35, by kernel_rfl, by kernel_rfl, by kernel_rfl, by kernel_rfl, of_decide_eq_true (by kernel_rfl), by kernel_rfl, by kernel_rfl⟩ (fun _ => rfl)
noncomputable def spec_l05Search.con : Con := spec_l05Search.cn fuel
theorem spec_l05Search.valid : Valid Try.prog 35 spec_l05Search.con := spec_l05Search.vn fuel
end Go.Proofs.Ytjknpaplgclflaa.P
set_option linter.unusedVariables false
namespace Go.Proofs.Ytjknpaplgclflaa.P
open Go Go.RowKit Go.Proofs.Ytjknpaplgclflaa.D
noncomputable def spec_CrossedMaps.E : Env := { tt := TT, con := [(25, spec_l01Is.con), (26, spec_l02Is.con), (35, spec_l05Search.con)], frz := [17], rows := [], live := [], n := 19, pin := 0, nils := [] }
noncomputable def spec_CrossedMaps.fn : D.Fn := { body := Try.f19.body.getD .skip, res := Try.f19.results.toList, ins := [.agg [.v (.sl 25 (.sl 2 (.int .i64)))], .agg [.v (.int .i64), .v (.sl 2 (.int .i64))]], outs := [.one (.own 25 false (.sl 2 (.int .i64))), .one (.v (.int .i64))] }
def spec_CrossedMaps.enc (y : lsd (flats spec_CrossedMaps.fn.outs) × lsd (ios spec_CrossedMaps.fn.ins)) : (List (List Int)) × Int := (y.1.1, y.1.2.1)
noncomputable def spec_CrossedMaps.f (l0_0 : List (List Int)) (a1_0 : Int) (l1_1 : List Int) : Option ((List (List Int)) × Int) := denF spec_CrossedMaps.E spec_CrossedMaps.fn spec_CrossedMaps.enc (l0_0, a1_0, l1_1, ())
set_option maxRecDepth 100000 in
theorem spec_CrossedMaps.f_eq (l0_0 : List (List Int)) (a1_0 : Int) (l1_1 : List Int) : spec_CrossedMaps.f l0_0 a1_0 l1_1 = (spec_l01Is.f l0_0).bind fun t7 => if t7 = true then ((spec_l02Is.f l0_0 a1_0 l1_1).bind fun t12 => if t12 = true then ((spec_l05Search.f fuel l0_0 a1_0 l1_1 ([] : List Int)).bind fun t18 => some (t18, 0)) else (some (([] : List (List Int)), 1))) else (some (([] : List (List Int)), 1)) := by kernel_rfl
noncomputable def spec_CrossedMaps.con : Con := ⟨spec_CrossedMaps.fn.ins, spec_CrossedMaps.fn.outs, (List (List Int)) × Int, fun x => spec_CrossedMaps.f x.1 x.2.1 x.2.2.1, fun r => ((r.1, r.2, ()), (()))⟩
theorem spec_CrossedMaps.valid : Valid Try.prog 19 spec_CrossedMaps.con := fn_valid (f := spec_CrossedMaps.fn) (E := spec_CrossedMaps.E) (enc := spec_CrossedMaps.enc) ⟨ttOk, (conCons spec_l01Is.valid (conCons spec_l02Is.valid (conCons spec_l05Search.valid conNil)))⟩ (Checked.mixed Try.checked) ⟨Try.func19, by kernel_rfl, by kernel_rfl, by kernel_rfl, by kernel_rfl, by decide, by kernel_rfl, by kernel_rfl⟩ (fun _ => rfl)
end Go.Proofs.Ytjknpaplgclflaa.P
set_option linter.unusedVariables false
namespace Go.Proofs.Ytjknpaplgclflaa.P
open Go Go.RowKit Go.Proofs.Ytjknpaplgclflaa.D
noncomputable def impl_order.E : Env := { tt := TT, con := [], frz := [], rows := [], live := [], n := 6, pin := 0, nils := [] }
noncomputable def impl_order.fn : D.Fn := { body := Try.f70.body.getD .skip, res := Try.f70.results.toList, ins := [.agg [.v (.sl 25 (.sl 2 (.int .i64)))]], outs := [.one (.v (.int .i64))] }
def impl_order.enc (y : lsd (flats impl_order.fn.outs) × lsd (ios impl_order.fn.ins)) : Int := y.1.1
noncomputable def impl_order.f (l0_0 : List (List Int)) : Option Int := denF impl_order.E impl_order.fn impl_order.enc (l0_0, ())
set_option maxRecDepth 100000 in
theorem impl_order.f_eq (l0_0 : List (List Int)) : impl_order.f l0_0 = some (l0_0.length : Int) := by kernel_rfl
noncomputable def impl_order.con : Con := ⟨impl_order.fn.ins, impl_order.fn.outs, Int, fun x => impl_order.f x.1, fun r => ((r, ()), (()))⟩
theorem impl_order.valid : Valid Try.prog 70 impl_order.con := fn_valid (f := impl_order.fn) (E := impl_order.E) (enc := impl_order.enc) ⟨ttOk, conNil⟩ (Checked.mixed Try.checked) ⟨Try.func70, by kernel_rfl, by kernel_rfl, by kernel_rfl, by kernel_rfl, by decide, by kernel_rfl, by kernel_rfl⟩ (fun _ => rfl)
end Go.Proofs.Ytjknpaplgclflaa.P
set_option linter.unusedVariables false
namespace Go.Proofs.Ytjknpaplgclflaa.P
open Go Go.RowKit Go.Proofs.Ytjknpaplgclflaa.D
noncomputable def impl_areIn.E : Env := { tt := TT, con := [], frz := [], rows := [], live := [(2, [0, 7, 8, 9])], n := 21, pin := 0, nils := [] }
noncomputable def impl_areIn.fn : D.Fn := { body := Try.f71.body.getD .skip, res := Try.f71.results.toList, ins := [.one (.v (.int .i64)), .one (.v (.sl 2 (.int .i64)))], outs := [.one (.v .bool)] }
def impl_areIn.enc (y : lsd (flats impl_areIn.fn.outs) × lsd (ios impl_areIn.fn.ins)) : Bool := y.1.1
noncomputable def impl_areIn.f (a0 : Int) (l1 : List Int) : Option Bool := denF impl_areIn.E impl_areIn.fn impl_areIn.enc (a0, l1, ())
noncomputable def impl_areIn.l0 (x0 : Int) (x7 : List Int) (x8 : Int) (x9 : Int) : Option Bool := denAt impl_areIn.E impl_areIn.fn impl_areIn.enc [1, 0, 1, 0] { fr := [(0, .lf (.int .i64 x0)), (7, .lf (.sl (.int .i64) x7)), (8, .lf (.int .i64 x8)), (9, .lf (.int .i64 x9))], ob := [], nx := 0 }
set_option maxRecDepth 100000 in
theorem impl_areIn.f_eq (a0 : Int) (l1 : List Int) : impl_areIn.f a0 l1 = impl_areIn.l0 a0 l1 (l1.length : Int) 0 := by kernel_rfl
set_option maxRecDepth 100000 in
theorem impl_areIn.l0_eq (x0 : Int) (x7 : List Int) (x8 : Int) (x9 : Int) : impl_areIn.l0 x0 x7 x8 x9 = if x9 < x8 then (if 0 ≤ x9 then (if x9 < (x7.length : Int) then (if (rd x7 x9) < 0 then (some false) else (if (rd x7 x9) ≥ x0 then (some false) else (impl_areIn.l0 x0 x7 x8 (wrapI (x9 + 1))))) else none) else none) else (some true) := (loop_unfold _ _ _ _).trans (by kernel_rfl)
noncomputable def impl_areIn.con : Con := ⟨impl_areIn.fn.ins, impl_areIn.fn.outs, Bool, fun x => impl_areIn.f x.1 x.2.1, fun r => ((r, ()), (()))⟩
theorem impl_areIn.valid : Valid Try.prog 71 impl_areIn.con := fn_valid (f := impl_areIn.fn) (E := impl_areIn.E) (enc := impl_areIn.enc) ⟨ttOk, conNil⟩ (Checked.mixed Try.checked) ⟨Try.func71, by kernel_rfl, by kernel_rfl, by kernel_rfl, by kernel_rfl, by decide, by kernel_rfl, by kernel_rfl⟩ (fun _ => rfl)
end Go.Proofs.Ytjknpaplgclflaa.P
set_option linter.unusedVariables false
namespace Go.Proofs.Ytjknpaplgclflaa.P
open Go Go.RowKit Go.Proofs.Ytjknpaplgclflaa.D
noncomputable def slices_Index_int64.E : Env := { tt := TT, con := [], frz := [], rows := [], live := [(2, [0, 1, 7, 8])], n := 19, pin := 0, nils := [] }
noncomputable def slices_Index_int64.fn : D.Fn := { body := Try.f92.body.getD .skip, res := Try.f92.results.toList, ins := [.one (.v (.sl 2 (.int .i64))), .one (.v (.int .i64))], outs := [.one (.v (.int .i64))] }
def slices_Index_int64.enc (y : lsd (flats slices_Index_int64.fn.outs) × lsd (ios slices_Index_int64.fn.ins)) : Int := y.1.1
noncomputable def slices_Index_int64.f (l0 : List Int) (a1 : Int) : Option Int := denF slices_Index_int64.E slices_Index_int64.fn slices_Index_int64.enc (l0, a1, ())
noncomputable def slices_Index_int64.l0 (x0 : List Int) (x1 : Int) (x7 : Int) (x8 : Int) : Option Int := denAt slices_Index_int64.E slices_Index_int64.fn slices_Index_int64.enc [1, 0, 1, 0] { fr := [(0, .lf (.sl (.int .i64) x0)), (1, .lf (.int .i64 x1)), (7, .lf (.int .i64 x7)), (8, .lf (.int .i64 x8))], ob := [], nx := 0 }
set_option maxRecDepth 100000 in
theorem slices_Index_int64.f_eq (l0 : List Int) (a1 : Int) : slices_Index_int64.f l0 a1 = slices_Index_int64.l0 l0 a1 (l0.length : Int) 0 := by kernel_rfl
set_option maxRecDepth 100000 in
theorem slices_Index_int64.l0_eq (x0 : List Int) (x1 : Int) (x7 : Int) (x8 : Int) : slices_Index_int64.l0 x0 x1 x7 x8 = if x8 < x7 then (if 0 ≤ x8 then (if x8 < (x0.length : Int) then (if x1 = (rd x0 x8) then (some x8) else (slices_Index_int64.l0 x0 x1 x7 (wrapI (x8 + 1)))) else none) else none) else (some (-1)) := (loop_unfold _ _ _ _).trans (by kernel_rfl)
noncomputable def slices_Index_int64.con : Con := ⟨slices_Index_int64.fn.ins, slices_Index_int64.fn.outs, Int, fun x => slices_Index_int64.f x.1 x.2.1, fun r => ((r, ()), (()))⟩
theorem slices_Index_int64.valid : Valid Try.prog 92 slices_Index_int64.con := fn_valid (f := slices_Index_int64.fn) (E := slices_Index_int64.E) (enc := slices_Index_int64.enc) ⟨ttOk, conNil⟩ (Checked.mixed Try.checked) ⟨Try.func92, by kernel_rfl, by kernel_rfl, by kernel_rfl, by kernel_rfl, by decide, by kernel_rfl, by kernel_rfl⟩ (fun _ => rfl)
end Go.Proofs.Ytjknpaplgclflaa.P
set_option linter.unusedVariables false
namespace Go.Proofs.Ytjknpaplgclflaa.P
open Go Go.RowKit Go.Proofs.Ytjknpaplgclflaa.D
noncomputable def slices_Contains_int64.E : Env := { tt := TT, con := [(92, slices_Index_int64.con)], frz := [], rows := [], live := [], n := 9, pin := 0, nils := [] }
noncomputable def slices_Contains_int64.fn : D.Fn := { body := Try.f72.body.getD .skip, res := Try.f72.results.toList, ins := [.one (.v (.sl 2 (.int .i64))), .one (.v (.int .i64))], outs := [.one (.v .bool)] }
def slices_Contains_int64.enc (y : lsd (flats slices_Contains_int64.fn.outs) × lsd (ios slices_Contains_int64.fn.ins)) : Bool := y.1.1
noncomputable def slices_Contains_int64.f (l0 : List Int) (a1 : Int) : Option Bool := denF slices_Contains_int64.E slices_Contains_int64.fn slices_Contains_int64.enc (l0, a1, ())
set_option maxRecDepth 100000 in
theorem slices_Contains_int64.f_eq (l0 : List Int) (a1 : Int) : slices_Contains_int64.f l0 a1 = (slices_Index_int64.f l0 a1).bind fun t7 => some (decide (t7 ≥ 0)) := by kernel_rfl
noncomputable def slices_Contains_int64.con : Con := ⟨slices_Contains_int64.fn.ins, slices_Contains_int64.fn.outs, Bool, fun x => slices_Contains_int64.f x.1 x.2.1, fun r => ((r, ()), (()))⟩
theorem slices_Contains_int64.valid : Valid Try.prog 72 slices_Contains_int64.con := fn_valid (f := slices_Contains_int64.fn) (E := slices_Contains_int64.E) (enc := slices_Contains_int64.enc) ⟨ttOk, (conCons slices_Index_int64.valid conNil)⟩ (Checked.mixed Try.checked) ⟨Try.func72, by kernel_rfl, by kernel_rfl, by kernel_rfl, by kernel_rfl, by decide, by kernel_rfl, by kernel_rfl⟩ (fun _ => rfl)
end Go.Proofs.Ytjknpaplgclflaa.P
set_option linter.unusedVariables false
namespace Go.Proofs.Ytjknpaplgclflaa.P
open Go Go.RowKit Go.Proofs.Ytjknpaplgclflaa.D
noncomputable def impl_IsGroup.E : Env := { tt := TT, con := [(70, impl_order.con), (71, impl_areIn.con), (72, slices_Contains_int64.con)], frz := [], rows := [], live := [(5, [1, 3, 18, 19, 20]), (11, [1, 3, 35, 36]), (16, [1, 3, 6, 35, 36, 68, 69]), (19, [1, 3, 6, 7, 35, 36, 68, 69, 72, 73])], n := 110, pin := 0, nils := [] }
noncomputable def impl_IsGroup.fn : D.Fn := { body := Try.f59.body.getD .skip, res := Try.f59.results.toList, ins := [.agg [.v (.sl 25 (.sl 2 (.int .i64)))]], outs := [.one (.v .bool)] }
def impl_IsGroup.enc (y : lsd (flats impl_IsGroup.fn.outs) × lsd (ios impl_IsGroup.fn.ins)) : Bool := y.1.1
noncomputable def impl_IsGroup.f (l0_0 : List (List Int)) : Option Bool := denF impl_IsGroup.E impl_IsGroup.fn impl_IsGroup.enc (l0_0, ())
noncomputable def impl_IsGroup.l0 (x3 : Int) (x18 : List (List Int)) (x19 : Int) (x20 : Int) (b0_0 : List (List Int)) : Option Bool := denAt impl_IsGroup.E impl_IsGroup.fn impl_IsGroup.enc [1, 1, 1, 0, 1, 0] { fr := [(1, .lf (.box 0 0)), (3, .lf (.int .i64 x3)), (18, .lf (.sl (.sl 2 (.int .i64)) x18)), (19, .lf (.int .i64 x19)), (20, .lf (.int .i64 x20))], ob := [(0, .box 32 false [.sl (.sl 2 (.int .i64)) b0_0])], nx := 1 }
noncomputable def impl_IsGroup.l1 (x3 : Int) (x35 : Int) (x36 : Int) (b0_0 : List (List Int)) : Option Bool := denAt impl_IsGroup.E impl_IsGroup.fn impl_IsGroup.enc [1, 1, 1, 1, 0, 1, 0] { fr := [(1, .lf (.box 0 0)), (3, .lf (.int .i64 x3)), (35, .lf (.int .i64 x35)), (36, .lf (.int .i64 x36))], ob := [(0, .box 32 false [.sl (.sl 2 (.int .i64)) b0_0])], nx := 1 }
noncomputable def impl_IsGroup.l2 (x3 : Int) (x6 : Int) (x35 : Int) (x36 : Int) (x68 : Int) (x69 : Int) (b0_0 : List (List Int)) : Option Bool := denAt impl_IsGroup.E impl_IsGroup.fn impl_IsGroup.enc [1, 1, 1, 1, 0, 1, 0, 0, 1, 1, 0, 0, 1, 1, 1, 0] { fr := [(1, .lf (.box 0 0)), (3, .lf (.int .i64 x3)), (6, .lf (.int .i64 x6)), (35, .lf (.int .i64 x35)), (36, .lf (.int .i64 x36)), (68, .lf (.int .i64 x68)), (69, .lf (.int .i64 x69))], ob := [(0, .box 32 false [.sl (.sl 2 (.int .i64)) b0_0])], nx := 1 }
noncomputable def impl_IsGroup.l3 (x3 : Int) (x6 : Int) (x7 : Int) (x35 : Int) (x36 : Int) (x68 : Int) (x69 : Int) (x72 : Int) (x73 : Int) (b0_0 : List (List Int)) : Option Bool := denAt impl_IsGroup.E impl_IsGroup.fn impl_IsGroup.enc [1, 1, 1, 1, 0, 1, 0, 0, 1, 1, 0, 0, 1, 1, 1, 0, 0, 1, 1, 0, 0, 1, 1, 0] { fr := [(1, .lf (.box 0 0)), (3, .lf (.int .i64 x3)), (6, .lf (.int .i64 x6)), (7, .lf (.int .i64 x7)), (35, .lf (.int .i64 x35)), (36, .lf (.int .i64 x36)), (68, .lf (.int .i64 x68)), (69, .lf (.int .i64 x69)), (72, .lf (.int .i64 x72)), (73, .lf (.int .i64 x73))], ob := [(0, .box 32 false [.sl (.sl 2 (.int .i64)) b0_0])], nx := 1 }
set_option maxRecDepth 100000 in
theorem impl_IsGroup.f_eq (l0_0 : List (List Int)) : impl_IsGroup.f l0_0 = (impl_order.f l0_0).bind fun t10 => if t10 < 1 then (some false) else (if t10 > 8 then (some false) else (impl_IsGroup.l0 t10 l0_0 (l0_0.length : Int) 0 l0_0)) := by kernel_rfl
set_option maxRecDepth 100000 in
theorem impl_IsGroup.l0_eq (x3 : Int) (x18 : List (List Int)) (x19 : Int) (x20 : Int) (b0_0 : List (List Int)) : impl_IsGroup.l0 x3 x18 x19 x20 b0_0 = if x20 < x19 then (if 0 ≤ x20 then (if x20 < (x18.length : Int) then (if ((row x18 x20).length : Int) = x3 then ((impl_areIn.f x3 (row x18 x20)).bind fun t31 => if t31 = true then (impl_IsGroup.l0 x3 x18 x19 (wrapI (x20 + 1)) b0_0) else (some false)) else (some false)) else none) else none) else (impl_IsGroup.l1 x3 x3 0 b0_0) := (loop_unfold _ _ _ _).trans (by kernel_rfl)
set_option maxRecDepth 100000 in
theorem impl_IsGroup.l1_eq (x3 : Int) (x35 : Int) (x36 : Int) (b0_0 : List (List Int)) : impl_IsGroup.l1 x3 x35 x36 b0_0 = if x36 < x35 then (if 0 < (b0_0.length : Int) then (if 0 ≤ x36 then (if x36 < ((row b0_0 0).length : Int) then (if (T b0_0 0 x36) = x36 then (if 0 ≤ x36 then (if x36 < (b0_0.length : Int) then (if 0 < ((row b0_0 x36).length : Int) then (if (T b0_0 x36 0) = x36 then (if 0 ≤ x36 then (if x36 < (b0_0.length : Int) then ((slices_Contains_int64.f (row b0_0 x36) 0).bind fun t65 => if t65 = true then (impl_IsGroup.l2 x3 x36 x35 x36 x3 0 b0_0) else (some false)) else none) else none) else (some false)) else none) else none) else none) else (some false)) else none) else none) else none) else (some true) := (loop_unfold _ _ _ _).trans (by kernel_rfl)
set_option maxRecDepth 100000 in
theorem impl_IsGroup.l2_eq (x3 : Int) (x6 : Int) (x35 : Int) (x36 : Int) (x68 : Int) (x69 : Int) (b0_0 : List (List Int)) : impl_IsGroup.l2 x3 x6 x35 x36 x68 x69 b0_0 = if x69 < x68 then (impl_IsGroup.l3 x3 x6 x69 x35 x36 x68 x69 x3 0 b0_0) else (impl_IsGroup.l1 x3 x35 (wrapI (x36 + 1)) b0_0) := (loop_unfold _ _ _ _).trans (by kernel_rfl)
set_option maxRecDepth 100000 in
theorem impl_IsGroup.l3_eq (x3 : Int) (x6 : Int) (x7 : Int) (x35 : Int) (x36 : Int) (x68 : Int) (x69 : Int) (x72 : Int) (x73 : Int) (b0_0 : List (List Int)) : impl_IsGroup.l3 x3 x6 x7 x35 x36 x68 x69 x72 x73 b0_0 = if x73 < x72 then (if 0 ≤ x6 then (if x6 < (b0_0.length : Int) then (if 0 ≤ x7 then (if x7 < ((row b0_0 x6).length : Int) then (if 0 ≤ T b0_0 x6 x7 then (if T b0_0 x6 x7 < (b0_0.length : Int) then (if 0 ≤ x73 then (if x73 < ((row b0_0 (T b0_0 x6 x7)).length : Int) then (if 0 ≤ x6 then (if x6 < (b0_0.length : Int) then (if 0 ≤ x7 then (if x7 < (b0_0.length : Int) then (if 0 ≤ x73 then (if x73 < ((row b0_0 x7).length : Int) then (if 0 ≤ T b0_0 x7 x73 then (if T b0_0 x7 x73 < ((row b0_0 x6).length : Int) then (if (T b0_0 (T b0_0 x6 x7) x73) = (T b0_0 x6 (T b0_0 x7 x73)) then (impl_IsGroup.l3 x3 x6 x7 x35 x36 x68 x69 x72 (wrapI (x73 + 1)) b0_0) else (some false)) else none) else none) else none) else none) else none) else none) else none) else none) else none) else none) else none) else none) else none) else none) else none) else none) else (impl_IsGroup.l2 x3 x6 x35 x36 x68 (wrapI (x69 + 1)) b0_0) := (loop_unfold _ _ _ _).trans (by kernel_rfl)
noncomputable def impl_IsGroup.con : Con := ⟨impl_IsGroup.fn.ins, impl_IsGroup.fn.outs, Bool, fun x => impl_IsGroup.f x.1, fun r => ((r, ()), (()))⟩
theorem impl_IsGroup.valid : Valid Try.prog 59 impl_IsGroup.con := fn_valid (f := impl_IsGroup.fn) (E := impl_IsGroup.E) (enc := impl_IsGroup.enc) ⟨ttOk, (conCons impl_order.valid (conCons impl_areIn.valid (conCons slices_Contains_int64.valid conNil)))⟩ (Checked.mixed Try.checked) ⟨Try.func59, by kernel_rfl, by kernel_rfl, by kernel_rfl, by kernel_rfl, by decide, by kernel_rfl, by kernel_rfl⟩ (fun _ => rfl)
end Go.Proofs.Ytjknpaplgclflaa.P
set_option linter.unusedVariables false
namespace Go.Proofs.Ytjknpaplgclflaa.P
open Go Go.RowKit Go.Proofs.Ytjknpaplgclflaa.D
noncomputable def impl_isModulus.E : Env := { tt := TT, con := [], frz := [], rows := [], live := [], n := 9, pin := 0, nils := [] }
noncomputable def impl_isModulus.fn : D.Fn := { body := Try.f73.body.getD .skip, res := Try.f73.results.toList, ins := [.one (.v (.int .i64))], outs := [.one (.v .bool)] }
def impl_isModulus.enc (y : lsd (flats impl_isModulus.fn.outs) × lsd (ios impl_isModulus.fn.ins)) : Bool := y.1.1
noncomputable def impl_isModulus.f (a0 : Int) : Option Bool := denF impl_isModulus.E impl_isModulus.fn impl_isModulus.enc (a0, ())
set_option maxRecDepth 100000 in
theorem impl_isModulus.f_eq (a0 : Int) : impl_isModulus.f a0 = if a0 ≥ 2 then (some (decide (a0 ≤ 12))) else (some false) := by kernel_rfl
noncomputable def impl_isModulus.con : Con := ⟨impl_isModulus.fn.ins, impl_isModulus.fn.outs, Bool, fun x => impl_isModulus.f x.1, fun r => ((r, ()), (()))⟩
theorem impl_isModulus.valid : Valid Try.prog 73 impl_isModulus.con := fn_valid (f := impl_isModulus.fn) (E := impl_isModulus.E) (enc := impl_isModulus.enc) ⟨ttOk, conNil⟩ (Checked.mixed Try.checked) ⟨Try.func73, by kernel_rfl, by kernel_rfl, by kernel_rfl, by kernel_rfl, by decide, by kernel_rfl, by kernel_rfl⟩ (fun _ => rfl)
end Go.Proofs.Ytjknpaplgclflaa.P
set_option linter.unusedVariables false
namespace Go.Proofs.Ytjknpaplgclflaa.P
open Go Go.RowKit Go.Proofs.Ytjknpaplgclflaa.D
noncomputable def impl_gcd.E : Env := { tt := TT, con := [], frz := [], rows := [], live := [(1, [0, 1])], n := 12, pin := 0, nils := [] }
noncomputable def impl_gcd.fn : D.Fn := { body := Try.f93.body.getD .skip, res := Try.f93.results.toList, ins := [.one (.v (.int .i64)), .one (.v (.int .i64))], outs := [.one (.v (.int .i64))] }
def impl_gcd.enc (y : lsd (flats impl_gcd.fn.outs) × lsd (ios impl_gcd.fn.ins)) : Int := y.1.1
noncomputable def impl_gcd.f (a0 : Int) (a1 : Int) : Option Int := denF impl_gcd.E impl_gcd.fn impl_gcd.enc (a0, a1, ())
noncomputable def impl_gcd.l0 (x0 : Int) (x1 : Int) : Option Int := denAt impl_gcd.E impl_gcd.fn impl_gcd.enc [1, 0, 0] { fr := [(0, .lf (.int .i64 x0)), (1, .lf (.int .i64 x1))], ob := [], nx := 0 }
set_option maxRecDepth 100000 in
theorem impl_gcd.f_eq (a0 : Int) (a1 : Int) : impl_gcd.f a0 a1 = impl_gcd.l0 a0 a1 := by kernel_rfl
set_option maxRecDepth 100000 in
theorem impl_gcd.l0_eq (x0 : Int) (x1 : Int) : impl_gcd.l0 x0 x1 = if x1 = 0 then (some x0) else (if x1 = 0 then none else (impl_gcd.l0 x1 ((x0 : Int).tmod x1))) := (loop_unfold _ _ _ _).trans (by kernel_rfl)
noncomputable def impl_gcd.con : Con := ⟨impl_gcd.fn.ins, impl_gcd.fn.outs, Int, fun x => impl_gcd.f x.1 x.2.1, fun r => ((r, ()), (()))⟩
theorem impl_gcd.valid : Valid Try.prog 93 impl_gcd.con := fn_valid (f := impl_gcd.fn) (E := impl_gcd.E) (enc := impl_gcd.enc) ⟨ttOk, conNil⟩ (Checked.mixed Try.checked) ⟨Try.func93, by kernel_rfl, by kernel_rfl, by kernel_rfl, by kernel_rfl, by decide, by kernel_rfl, by kernel_rfl⟩ (fun _ => rfl)
end Go.Proofs.Ytjknpaplgclflaa.P
set_option linter.unusedVariables false
namespace Go.Proofs.Ytjknpaplgclflaa.P
open Go Go.RowKit Go.Proofs.Ytjknpaplgclflaa.D
noncomputable def impl_isUnit.E : Env := { tt := TT, con := [(93, impl_gcd.con)], frz := [], rows := [], live := [], n := 18, pin := 0, nils := [] }
noncomputable def impl_isUnit.fn : D.Fn := { body := Try.f74.body.getD .skip, res := Try.f74.results.toList, ins := [.one (.v (.int .i64)), .one (.v (.int .i64))], outs := [.one (.v .bool)] }
def impl_isUnit.enc (y : lsd (flats impl_isUnit.fn.outs) × lsd (ios impl_isUnit.fn.ins)) : Bool := y.1.1
noncomputable def impl_isUnit.f (a0 : Int) (a1 : Int) : Option Bool := denF impl_isUnit.E impl_isUnit.fn impl_isUnit.enc (a0, a1, ())
set_option maxRecDepth 100000 in
theorem impl_isUnit.f_eq (a0 : Int) (a1 : Int) : impl_isUnit.f a0 a1 = if a1 ≥ 1 then (if a1 < a0 then ((impl_gcd.f a0 a1).bind fun t15 => some (decide (t15 = 1))) else (some false)) else (some false) := by kernel_rfl
noncomputable def impl_isUnit.con : Con := ⟨impl_isUnit.fn.ins, impl_isUnit.fn.outs, Bool, fun x => impl_isUnit.f x.1 x.2.1, fun r => ((r, ()), (()))⟩
theorem impl_isUnit.valid : Valid Try.prog 74 impl_isUnit.con := fn_valid (f := impl_isUnit.fn) (E := impl_isUnit.E) (enc := impl_isUnit.enc) ⟨ttOk, (conCons impl_gcd.valid conNil)⟩ (Checked.mixed Try.checked) ⟨Try.func74, by kernel_rfl, by kernel_rfl, by kernel_rfl, by kernel_rfl, by decide, by kernel_rfl, by kernel_rfl⟩ (fun _ => rfl)
end Go.Proofs.Ytjknpaplgclflaa.P
set_option linter.unusedVariables false
namespace Go.Proofs.Ytjknpaplgclflaa.P
open Go Go.RowKit Go.Proofs.Ytjknpaplgclflaa.D
noncomputable def impl_Group_times.E : Env := { tt := TT, con := [], frz := [], rows := [], live := [(3, [2, 5, 8, 9, 10])], n := 24, pin := 0, nils := [] }
noncomputable def impl_Group_times.fn : D.Fn := { body := Try.f75.body.getD .skip, res := Try.f75.results.toList, ins := [.agg [.v (.sl 25 (.sl 2 (.int .i64)))], .one (.v (.sl 2 (.int .i64)))], outs := [.one (.v (.int .i64))] }
def impl_Group_times.enc (y : lsd (flats impl_Group_times.fn.outs) × lsd (ios impl_Group_times.fn.ins)) : Int := y.1.1
noncomputable def impl_Group_times.f (l0_0 : List (List Int)) (l1 : List Int) : Option Int := denF impl_Group_times.E impl_Group_times.fn impl_Group_times.enc (l0_0, l1, ())
noncomputable def impl_Group_times.l0 (x5 : Int) (x8 : List Int) (x9 : Int) (x10 : Int) (b0_0 : List (List Int)) : Option Int := denAt impl_Group_times.E impl_Group_times.fn impl_Group_times.enc [1, 1, 0, 1, 0] { fr := [(2, .lf (.box 0 0)), (5, .lf (.int .i64 x5)), (8, .lf (.sl (.int .i64) x8)), (9, .lf (.int .i64 x9)), (10, .lf (.int .i64 x10))], ob := [(0, .box 32 false [.sl (.sl 2 (.int .i64)) b0_0])], nx := 1 }
set_option maxRecDepth 100000 in
theorem impl_Group_times.f_eq (l0_0 : List (List Int)) (l1 : List Int) : impl_Group_times.f l0_0 l1 = impl_Group_times.l0 0 l1 (l1.length : Int) 0 l0_0 := by kernel_rfl
set_option maxRecDepth 100000 in
theorem impl_Group_times.l0_eq (x5 : Int) (x8 : List Int) (x9 : Int) (x10 : Int) (b0_0 : List (List Int)) : impl_Group_times.l0 x5 x8 x9 x10 b0_0 = if x10 < x9 then (if 0 ≤ x10 then (if x10 < (x8.length : Int) then (if 0 ≤ x5 then (if x5 < (b0_0.length : Int) then (if 0 ≤ rd x8 x10 then (if rd x8 x10 < ((row b0_0 x5).length : Int) then (impl_Group_times.l0 (T b0_0 x5 (rd x8 x10)) x8 x9 (wrapI (x10 + 1)) b0_0) else none) else none) else none) else none) else none) else none) else (some x5) := (loop_unfold _ _ _ _).trans (by kernel_rfl)
noncomputable def impl_Group_times.con : Con := ⟨impl_Group_times.fn.ins, impl_Group_times.fn.outs, Int, fun x => impl_Group_times.f x.1 x.2.1, fun r => ((r, ()), (()))⟩
theorem impl_Group_times.valid : Valid Try.prog 75 impl_Group_times.con := fn_valid (f := impl_Group_times.fn) (E := impl_Group_times.E) (enc := impl_Group_times.enc) ⟨ttOk, conNil⟩ (Checked.mixed Try.checked) ⟨Try.func75, by kernel_rfl, by kernel_rfl, by kernel_rfl, by kernel_rfl, by decide, by kernel_rfl, by kernel_rfl⟩ (fun _ => rfl)
end Go.Proofs.Ytjknpaplgclflaa.P
set_option linter.unusedVariables false
namespace Go.Proofs.Ytjknpaplgclflaa.P
open Go Go.RowKit Go.Proofs.Ytjknpaplgclflaa.D
noncomputable def impl_isModule.E : Env := { tt := TT, con := [(73, impl_isModulus.con), (70, impl_order.con), (74, impl_isUnit.con), (75, impl_Group_times.con)], frz := [], rows := [], live := [(4, [2, 3, 29, 30, 31]), (10, [2, 3, 42, 43]), (13, [2, 3, 7, 42, 43, 47, 48])], n := 77, pin := 0, nils := [] }
noncomputable def impl_isModule.fn : D.Fn := { body := Try.f60.body.getD .skip, res := Try.f60.results.toList, ins := [.agg [.v (.sl 25 (.sl 2 (.int .i64)))], .agg [.v (.int .i64), .v (.sl 2 (.int .i64))]], outs := [.one (.v .bool)] }
def impl_isModule.enc (y : lsd (flats impl_isModule.fn.outs) × lsd (ios impl_isModule.fn.ins)) : Bool := y.1.1
noncomputable def impl_isModule.f (l0_0 : List (List Int)) (a1_0 : Int) (l1_1 : List Int) : Option Bool := denF impl_isModule.E impl_isModule.fn impl_isModule.enc (l0_0, a1_0, l1_1, ())
noncomputable def impl_isModule.l0 (x29 : List Int) (x30 : Int) (x31 : Int) (b0_0 : List (List Int)) (b1_0 : Int) (b1_1 : List Int) : Option Bool := denAt impl_isModule.E impl_isModule.fn impl_isModule.enc [1, 1, 0, 1, 0] { fr := [(2, .lf (.box 0 0)), (3, .lf (.box 1 0)), (29, .lf (.sl (.int .i64) x29)), (30, .lf (.int .i64 x30)), (31, .lf (.int .i64 x31))], ob := [(0, .box 32 false [.sl (.sl 2 (.int .i64)) b0_0]), (1, .box 34 false [.int .i64 b1_0, .sl (.int .i64) b1_1])], nx := 2 }
noncomputable def impl_isModule.l1 (x42 : Int) (x43 : Int) (b0_0 : List (List Int)) (b1_0 : Int) (b1_1 : List Int) : Option Bool := denAt impl_isModule.E impl_isModule.fn impl_isModule.enc [1, 1, 1, 0, 1, 0] { fr := [(2, .lf (.box 0 0)), (3, .lf (.box 1 0)), (42, .lf (.int .i64 x42)), (43, .lf (.int .i64 x43))], ob := [(0, .box 32 false [.sl (.sl 2 (.int .i64)) b0_0]), (1, .box 34 false [.int .i64 b1_0, .sl (.int .i64) b1_1])], nx := 2 }
noncomputable def impl_isModule.l2 (x7 : Int) (x42 : Int) (x43 : Int) (x47 : Int) (x48 : Int) (b0_0 : List (List Int)) (b1_0 : Int) (b1_1 : List Int) : Option Bool := denAt impl_isModule.E impl_isModule.fn impl_isModule.enc [1, 1, 1, 0, 1, 0, 0, 1, 1, 0, 0, 1, 1, 0] { fr := [(2, .lf (.box 0 0)), (3, .lf (.box 1 0)), (7, .lf (.int .i64 x7)), (42, .lf (.int .i64 x42)), (43, .lf (.int .i64 x43)), (47, .lf (.int .i64 x47)), (48, .lf (.int .i64 x48))], ob := [(0, .box 32 false [.sl (.sl 2 (.int .i64)) b0_0]), (1, .box 34 false [.int .i64 b1_0, .sl (.int .i64) b1_1])], nx := 2 }
set_option maxRecDepth 100000 in
theorem impl_isModule.f_eq (l0_0 : List (List Int)) (a1_0 : Int) (l1_1 : List Int) : impl_isModule.f l0_0 a1_0 l1_1 = (impl_isModulus.f a1_0).bind fun t11 => if t11 = true then ((impl_order.f l0_0).bind fun t18 => if (l1_1.length : Int) = t18 then (if 0 < (l1_1.length : Int) then (if (rd l1_1 0) = 1 then (impl_isModule.l0 l1_1 (l1_1.length : Int) 0 l0_0 a1_0 l1_1) else (some false)) else none) else (some false)) else (some false) := by kernel_rfl
set_option maxRecDepth 100000 in
theorem impl_isModule.l0_eq (x29 : List Int) (x30 : Int) (x31 : Int) (b0_0 : List (List Int)) (b1_0 : Int) (b1_1 : List Int) : impl_isModule.l0 x29 x30 x31 b0_0 b1_0 b1_1 = if x31 < x30 then (if 0 ≤ x31 then (if x31 < (x29.length : Int) then ((impl_isUnit.f b1_0 (rd x29 x31)).bind fun t38 => if t38 = true then (impl_isModule.l0 x29 x30 (wrapI (x31 + 1)) b0_0 b1_0 b1_1) else (some false)) else none) else none) else ((impl_order.f b0_0).bind fun t42 => impl_isModule.l1 t42 0 b0_0 b1_0 b1_1) := (loop_unfold _ _ _ _).trans (by kernel_rfl)
set_option maxRecDepth 100000 in
theorem impl_isModule.l1_eq (x42 : Int) (x43 : Int) (b0_0 : List (List Int)) (b1_0 : Int) (b1_1 : List Int) : impl_isModule.l1 x42 x43 b0_0 b1_0 b1_1 = if x43 < x42 then ((impl_order.f b0_0).bind fun t47 => impl_isModule.l2 x43 x42 x43 t47 0 b0_0 b1_0 b1_1) else (some true) := (loop_unfold _ _ _ _).trans (by kernel_rfl)
set_option maxRecDepth 100000 in
theorem impl_isModule.l2_eq (x7 : Int) (x42 : Int) (x43 : Int) (x47 : Int) (x48 : Int) (b0_0 : List (List Int)) (b1_0 : Int) (b1_1 : List Int) : impl_isModule.l2 x7 x42 x43 x47 x48 b0_0 b1_0 b1_1 = if x48 < x47 then ((impl_Group_times.f b0_0 ([x7, x48] : List Int)).bind fun t57 => if 0 ≤ t57 then (if t57 < (b1_1.length : Int) then (if 0 ≤ x7 then (if x7 < (b1_1.length : Int) then (if 0 ≤ x48 then (if x48 < (b1_1.length : Int) then (if b1_0 = 0 then none else (if (rd b1_1 t57) = ((wrapI ((rd b1_1 x7) * (rd b1_1 x48)) : Int).tmod b1_0) then (impl_isModule.l2 x7 x42 x43 x47 (wrapI (x48 + 1)) b0_0 b1_0 b1_1) else (some false))) else none) else none) else none) else none) else none) else none) else (impl_isModule.l1 x42 (wrapI (x43 + 1)) b0_0 b1_0 b1_1) := (loop_unfold _ _ _ _).trans (by kernel_rfl)
noncomputable def impl_isModule.con : Con := ⟨impl_isModule.fn.ins, impl_isModule.fn.outs, Bool, fun x => impl_isModule.f x.1 x.2.1 x.2.2.1, fun r => ((r, ()), (()))⟩
theorem impl_isModule.valid : Valid Try.prog 60 impl_isModule.con := fn_valid (f := impl_isModule.fn) (E := impl_isModule.E) (enc := impl_isModule.enc) ⟨ttOk, (conCons impl_isModulus.valid (conCons impl_order.valid (conCons impl_isUnit.valid (conCons impl_Group_times.valid conNil))))⟩ (Checked.mixed Try.checked) ⟨Try.func60, by kernel_rfl, by kernel_rfl, by kernel_rfl, by kernel_rfl, by decide, by kernel_rfl, by kernel_rfl⟩ (fun _ => rfl)
end Go.Proofs.Ytjknpaplgclflaa.P
set_option linter.unusedVariables false
namespace Go.Proofs.Ytjknpaplgclflaa.P
open Go Go.RowKit Go.Proofs.Ytjknpaplgclflaa.D
noncomputable def impl_areModules.E : Env := { tt := TT, con := [(59, impl_IsGroup.con), (60, impl_isModule.con)], frz := [], rows := [], live := [(2, [2, 7, 8, 9])], n := 23, pin := 0, nils := [] }
noncomputable def impl_areModules.fn : D.Fn := { body := Try.f47.body.getD .skip, res := Try.f47.results.toList, ins := [.agg [.v (.sl 25 (.sl 2 (.int .i64)))], .one (.v (.sl 34 (.pr (.int .i64) (.sl 2 (.int .i64)))))], outs := [.one (.v .bool)] }
def impl_areModules.enc (y : lsd (flats impl_areModules.fn.outs) × lsd (ios impl_areModules.fn.ins)) : Bool := y.1.1
noncomputable def impl_areModules.f (l0_0 : List (List Int)) (l1 : List (Int × (List Int))) : Option Bool := denF impl_areModules.E impl_areModules.fn impl_areModules.enc (l0_0, l1, ())
noncomputable def impl_areModules.l0 (x7 : List (Int × (List Int))) (x8 : Int) (x9 : Int) (b0_0 : List (List Int)) : Option Bool := denAt impl_areModules.E impl_areModules.fn impl_areModules.enc [1, 0, 1, 0] { fr := [(2, .lf (.box 0 0)), (7, .lf (.sl (.pr (.int .i64) (.sl 2 (.int .i64))) x7)), (8, .lf (.int .i64 x8)), (9, .lf (.int .i64 x9))], ob := [(0, .box 32 false [.sl (.sl 2 (.int .i64)) b0_0])], nx := 1 }
set_option maxRecDepth 100000 in
theorem impl_areModules.f_eq (l0_0 : List (List Int)) (l1 : List (Int × (List Int))) : impl_areModules.f l0_0 l1 = impl_areModules.l0 l1 (l1.length : Int) 0 l0_0 := by kernel_rfl
set_option maxRecDepth 100000 in
theorem impl_areModules.l0_eq (x7 : List (Int × (List Int))) (x8 : Int) (x9 : Int) (b0_0 : List (List Int)) : impl_areModules.l0 x7 x8 x9 b0_0 = if x9 < x8 then (if 0 ≤ x9 then (if x9 < (x7.length : Int) then ((impl_IsGroup.f b0_0).bind fun t14 => if t14 = true then ((impl_isModule.f b0_0 ((Ty.rd (.pr (.int .i64) (.sl 2 (.int .i64))) x7 x9).1) ((Ty.rd (.pr (.int .i64) (.sl 2 (.int .i64))) x7 x9).2)).bind fun t19 => if t19 = true then (impl_areModules.l0 x7 x8 (wrapI (x9 + 1)) b0_0) else (some false)) else (some false)) else none) else none) else (some true) := (loop_unfold _ _ _ _).trans (by kernel_rfl)
noncomputable def impl_areModules.con : Con := ⟨impl_areModules.fn.ins, impl_areModules.fn.outs, Bool, fun x => impl_areModules.f x.1 x.2.1, fun r => ((r, ()), (()))⟩
theorem impl_areModules.valid : Valid Try.prog 47 impl_areModules.con := fn_valid (f := impl_areModules.fn) (E := impl_areModules.E) (enc := impl_areModules.enc) ⟨ttOk, (conCons impl_IsGroup.valid (conCons impl_isModule.valid conNil))⟩ (Checked.mixed Try.checked) ⟨Try.func47, by kernel_rfl, by kernel_rfl, by kernel_rfl, by kernel_rfl, by decide, by kernel_rfl, by kernel_rfl⟩ (fun _ => rfl)
end Go.Proofs.Ytjknpaplgclflaa.P
set_option linter.unusedVariables false
namespace Go.Proofs.Ytjknpaplgclflaa.P
open Go Go.RowKit Go.Proofs.Ytjknpaplgclflaa.D
noncomputable def impl_moduleCode.E : Env := { tt := TT, con := [(47, impl_areModules.con)], frz := [], rows := [], live := [], n := 9, pin := 0, nils := [] }
noncomputable def impl_moduleCode.fn : D.Fn := { body := Try.f30.body.getD .skip, res := Try.f30.results.toList, ins := [.agg [.v (.sl 25 (.sl 2 (.int .i64)))], .one (.v (.sl 34 (.pr (.int .i64) (.sl 2 (.int .i64)))))], outs := [.one (.v (.int .i64))] }
def impl_moduleCode.enc (y : lsd (flats impl_moduleCode.fn.outs) × lsd (ios impl_moduleCode.fn.ins)) : Int := y.1.1
noncomputable def impl_moduleCode.f (l0_0 : List (List Int)) (l1 : List (Int × (List Int))) : Option Int := denF impl_moduleCode.E impl_moduleCode.fn impl_moduleCode.enc (l0_0, l1, ())
set_option maxRecDepth 100000 in
theorem impl_moduleCode.f_eq (l0_0 : List (List Int)) (l1 : List (Int × (List Int))) : impl_moduleCode.f l0_0 l1 = (impl_areModules.f l0_0 l1).bind fun t7 => if t7 = true then (some 0) else (some 1) := by kernel_rfl
noncomputable def impl_moduleCode.con : Con := ⟨impl_moduleCode.fn.ins, impl_moduleCode.fn.outs, Int, fun x => impl_moduleCode.f x.1 x.2.1, fun r => ((r, ()), (()))⟩
theorem impl_moduleCode.valid : Valid Try.prog 30 impl_moduleCode.con := fn_valid (f := impl_moduleCode.fn) (E := impl_moduleCode.E) (enc := impl_moduleCode.enc) ⟨ttOk, (conCons impl_areModules.valid conNil)⟩ (Checked.mixed Try.checked) ⟨Try.func30, by kernel_rfl, by kernel_rfl, by kernel_rfl, by kernel_rfl, by decide, by kernel_rfl, by kernel_rfl⟩ (fun _ => rfl)
end Go.Proofs.Ytjknpaplgclflaa.P
set_option linter.unusedVariables false
namespace Go.Proofs.Ytjknpaplgclflaa.P
open Go Go.RowKit Go.Proofs.Ytjknpaplgclflaa.D
noncomputable def slices_Grow_int64.E : Env := { tt := TT, con := [], frz := [], rows := [], live := [], n := 27, pin := 0, nils := [] }
noncomputable def slices_Grow_int64.fn : D.Fn := { body := Try.f69.body.getD .skip, res := Try.f69.results.toList, ins := [.non, .one (.v (.int .i64))], outs := [.one (.own 2 true (.int .i64))] }
def slices_Grow_int64.enc (y : lsd (flats slices_Grow_int64.fn.outs) × lsd (ios slices_Grow_int64.fn.ins)) : (List Int) := y.1.1
noncomputable def slices_Grow_int64.f (a1 : Int) : Option (List Int) := denF slices_Grow_int64.E slices_Grow_int64.fn slices_Grow_int64.enc (a1, ())
set_option maxRecDepth 100000 in
theorem slices_Grow_int64.f_eq (a1 : Int) : slices_Grow_int64.f a1 = if a1 < 0 then none else (if (wrapI (a1 - (wrapI (0 - 0)))) > 0 then (if 0 < wrapI (a1 - (wrapI (0 - 0))) then (if (wrapI (a1 - (wrapI (0 - 0))) : Int).toNat ≤ 17592186044416 then (if 0 < ((List.replicate (wrapI (a1 - (wrapI (0 - 0))) : Int).toNat (0 : Int)).length : Int) then (if 0 ≤ ((List.replicate (wrapI (a1 - (wrapI (0 - 0))) : Int).toNat (0 : Int)).length : Int) then (some ((List.replicate (wrapI (a1 - (wrapI (0 - 0))) : Int).toNat (0 : Int)).take (0 : Int).toNat)) else none) else none) else none) else none) else (some ([] : List Int))) := by kernel_rfl
noncomputable def slices_Grow_int64.con : Con := ⟨slices_Grow_int64.fn.ins, slices_Grow_int64.fn.outs, (List Int), fun x => slices_Grow_int64.f x.1, fun r => ((r, ()), (()))⟩
theorem slices_Grow_int64.valid : Valid Try.prog 69 slices_Grow_int64.con := fn_valid (f := slices_Grow_int64.fn) (E := slices_Grow_int64.E) (enc := slices_Grow_int64.enc) ⟨ttOk, conNil⟩ (Checked.mixed Try.checked) ⟨Try.func69, by kernel_rfl, by kernel_rfl, by kernel_rfl, by kernel_rfl, by decide, by kernel_rfl, by kernel_rfl⟩ (fun _ => rfl)
end Go.Proofs.Ytjknpaplgclflaa.P
set_option linter.unusedVariables false
namespace Go.Proofs.Ytjknpaplgclflaa.P
open Go Go.RowKit Go.Proofs.Ytjknpaplgclflaa.D
noncomputable def slices_Concat_int64.E : Env := { tt := TT, con := [(69, slices_Grow_int64.con)], frz := [], rows := [], live := [(3, [0, 3, 9, 10, 11]), (11, [6, 25, 26, 27])], n := 36, pin := 0, nils := [] }
noncomputable def slices_Concat_int64.fn : D.Fn := { body := Try.f57.body.getD .skip, res := Try.f57.results.toList, ins := [.one (.v (.sl 25 (.sl 2 (.int .i64))))], outs := [.one (.own 2 true (.int .i64))] }
def slices_Concat_int64.enc (y : lsd (flats slices_Concat_int64.fn.outs) × lsd (ios slices_Concat_int64.fn.ins)) : (List Int) := y.1.1
noncomputable def slices_Concat_int64.f (l0 : List (List Int)) : Option (List Int) := denF slices_Concat_int64.E slices_Concat_int64.fn slices_Concat_int64.enc (l0, ())
noncomputable def slices_Concat_int64.l0 (x0 : List (List Int)) (x3 : Int) (x9 : List (List Int)) (x10 : Int) (x11 : Int) : Option (List Int) := denAt slices_Concat_int64.E slices_Concat_int64.fn slices_Concat_int64.enc [1, 1, 0, 1, 0] { fr := [(0, .lf (.sl (.sl 2 (.int .i64)) x0)), (3, .lf (.int .i64 x3)), (9, .lf (.sl (.sl 2 (.int .i64)) x9)), (10, .lf (.int .i64 x10)), (11, .lf (.int .i64 x11))], ob := [], nx := 0 }
noncomputable def slices_Concat_int64.l1 (x25 : List (List Int)) (x26 : Int) (x27 : Int) (r0 : List Int) : Option (List Int) := denAt slices_Concat_int64.E slices_Concat_int64.fn slices_Concat_int64.enc [1, 1, 1, 1, 0, 1, 0] { fr := [(6, .lf (.own 0)), (25, .lf (.sl (.sl 2 (.int .i64)) x25)), (26, .lf (.int .i64 x26)), (27, .lf (.int .i64 x27))], ob := [(0, .row 2 true (.int .i64) r0)], nx := 1 }
set_option maxRecDepth 100000 in
theorem slices_Concat_int64.f_eq (l0 : List (List Int)) : slices_Concat_int64.f l0 = slices_Concat_int64.l0 l0 0 l0 (l0.length : Int) 0 := by kernel_rfl
set_option maxRecDepth 100000 in
theorem slices_Concat_int64.l0_eq (x0 : List (List Int)) (x3 : Int) (x9 : List (List Int)) (x10 : Int) (x11 : Int) : slices_Concat_int64.l0 x0 x3 x9 x10 x11 = if x11 < x10 then (if 0 ≤ x11 then (if x11 < (x9.length : Int) then (if (wrapI (x3 + ((row x9 x11).length : Int))) < 0 then none else (slices_Concat_int64.l0 x0 (wrapI (x3 + ((row x9 x11).length : Int))) x9 x10 (wrapI (x11 + 1)))) else none) else none) else ((slices_Grow_int64.f x3).bind fun t24 => slices_Concat_int64.l1 x0 (x0.length : Int) 0 t24) := (loop_unfold _ _ _ _).trans (by kernel_rfl)
set_option maxRecDepth 100000 in
theorem slices_Concat_int64.l1_eq (x25 : List (List Int)) (x26 : Int) (x27 : Int) (r0 : List Int) : slices_Concat_int64.l1 x25 x26 x27 r0 = if x27 < x26 then (if 0 ≤ x27 then (if x27 < (x25.length : Int) then (if r0.length + (row x25 x27).length ≤ 17592186044416 then (slices_Concat_int64.l1 x25 x26 (wrapI (x27 + 1)) (r0 ++ (row x25 x27))) else none) else none) else none) else (some r0) := (loop_unfold _ _ _ _).trans (by kernel_rfl)
noncomputable def slices_Concat_int64.con : Con := ⟨slices_Concat_int64.fn.ins, slices_Concat_int64.fn.outs, (List Int), fun x => slices_Concat_int64.f x.1, fun r => ((r, ()), (()))⟩
theorem slices_Concat_int64.valid : Valid Try.prog 57 slices_Concat_int64.con := fn_valid (f := slices_Concat_int64.fn) (E := slices_Concat_int64.E) (enc := slices_Concat_int64.enc) ⟨ttOk, (conCons slices_Grow_int64.valid conNil)⟩ (Checked.mixed Try.checked) ⟨Try.func57, by kernel_rfl, by kernel_rfl, by kernel_rfl, by kernel_rfl, by decide, by kernel_rfl, by kernel_rfl⟩ (fun _ => rfl)
end Go.Proofs.Ytjknpaplgclflaa.P
set_option linter.unusedVariables false
namespace Go.Proofs.Ytjknpaplgclflaa.P
open Go Go.RowKit Go.Proofs.Ytjknpaplgclflaa.D
noncomputable def impl_power.E : Env := { tt := TT, con := [], frz := [], rows := [], live := [(3, [0, 5, 6, 7])], n := 14, pin := 0, nils := [] }
noncomputable def impl_power.fn : D.Fn := { body := Try.f99.body.getD .skip, res := Try.f99.results.toList, ins := [.one (.v (.int .i64)), .one (.v (.int .i64))], outs := [.one (.v (.int .i64))] }
def impl_power.enc (y : lsd (flats impl_power.fn.outs) × lsd (ios impl_power.fn.ins)) : Int := y.1.1
noncomputable def impl_power.f (a0 : Int) (a1 : Int) : Option Int := denF impl_power.E impl_power.fn impl_power.enc (a0, a1, ())
noncomputable def impl_power.l0 (x0 : Int) (x5 : Int) (x6 : Int) (x7 : Int) : Option Int := denAt impl_power.E impl_power.fn impl_power.enc [1, 1, 0, 1, 0] { fr := [(0, .lf (.int .i64 x0)), (5, .lf (.int .i64 x5)), (6, .lf (.int .i64 x6)), (7, .lf (.int .i64 x7))], ob := [], nx := 0 }
set_option maxRecDepth 100000 in
theorem impl_power.f_eq (a0 : Int) (a1 : Int) : impl_power.f a0 a1 = impl_power.l0 a0 1 a1 0 := by kernel_rfl
set_option maxRecDepth 100000 in
theorem impl_power.l0_eq (x0 : Int) (x5 : Int) (x6 : Int) (x7 : Int) : impl_power.l0 x0 x5 x6 x7 = if x7 < x6 then (impl_power.l0 x0 (wrapI (x5 * x0)) x6 (wrapI (x7 + 1))) else (some x5) := (loop_unfold _ _ _ _).trans (by kernel_rfl)
noncomputable def impl_power.con : Con := ⟨impl_power.fn.ins, impl_power.fn.outs, Int, fun x => impl_power.f x.1 x.2.1, fun r => ((r, ()), (()))⟩
theorem impl_power.valid : Valid Try.prog 99 impl_power.con := fn_valid (f := impl_power.fn) (E := impl_power.E) (enc := impl_power.enc) ⟨ttOk, conNil⟩ (Checked.mixed Try.checked) ⟨Try.func99, by kernel_rfl, by kernel_rfl, by kernel_rfl, by kernel_rfl, by decide, by kernel_rfl, by kernel_rfl⟩ (fun _ => rfl)
end Go.Proofs.Ytjknpaplgclflaa.P
set_option linter.unusedVariables false
namespace Go.Proofs.Ytjknpaplgclflaa.P
open Go Go.RowKit Go.Proofs.Ytjknpaplgclflaa.D
noncomputable def impl_cells.E : Env := { tt := TT, con := [(70, impl_order.con), (99, impl_power.con)], frz := [], rows := [], live := [], n := 10, pin := 0, nils := [] }
noncomputable def impl_cells.fn : D.Fn := { body := Try.f87.body.getD .skip, res := Try.f87.results.toList, ins := [.agg [.v (.sl 25 (.sl 2 (.int .i64)))], .one (.v (.int .i64))], outs := [.one (.v (.int .i64))] }
def impl_cells.enc (y : lsd (flats impl_cells.fn.outs) × lsd (ios impl_cells.fn.ins)) : Int := y.1.1
noncomputable def impl_cells.f (l0_0 : List (List Int)) (a1 : Int) : Option Int := denF impl_cells.E impl_cells.fn impl_cells.enc (l0_0, a1, ())
set_option maxRecDepth 100000 in
theorem impl_cells.f_eq (l0_0 : List (List Int)) (a1 : Int) : impl_cells.f l0_0 a1 = (impl_order.f l0_0).bind fun t6 => (impl_power.f (wrapI (t6 - 1)) a1).bind fun t9 => some t9 := by kernel_rfl
noncomputable def impl_cells.con : Con := ⟨impl_cells.fn.ins, impl_cells.fn.outs, Int, fun x => impl_cells.f x.1 x.2.1, fun r => ((r, ()), (()))⟩
theorem impl_cells.valid : Valid Try.prog 87 impl_cells.con := fn_valid (f := impl_cells.fn) (E := impl_cells.E) (enc := impl_cells.enc) ⟨ttOk, (conCons impl_order.valid (conCons impl_power.valid conNil))⟩ (Checked.mixed Try.checked) ⟨Try.func87, by kernel_rfl, by kernel_rfl, by kernel_rfl, by kernel_rfl, by decide, by kernel_rfl, by kernel_rfl⟩ (fun _ => rfl)
end Go.Proofs.Ytjknpaplgclflaa.P
set_option linter.unusedVariables false
namespace Go.Proofs.Ytjknpaplgclflaa.P
open Go Go.RowKit Go.Proofs.Ytjknpaplgclflaa.D
noncomputable def impl_newSpan.E : Env := { tt := TT, con := [], frz := [], rows := [7], live := [], n := 10, pin := 0, nils := [7] }
noncomputable def impl_newSpan.fn : D.Fn := { body := Try.f88.body.getD .skip, res := Try.f88.results.toList, ins := [.one (.v (.int .i64)), .one (.v (.int .i64))], outs := [.ptr false 83 [.v (.int .i64), .own 25 false (.sl 1000002 (.int .i64))]] }
def impl_newSpan.enc (y : lsd (flats impl_newSpan.fn.outs) × lsd (ios impl_newSpan.fn.ins)) : Int × (List (List Int)) := (y.1.1, y.1.2.1)
noncomputable def impl_newSpan.f (a0 : Int) (a1 : Int) : Option (Int × (List (List Int))) := denF impl_newSpan.E impl_newSpan.fn impl_newSpan.enc (a0, a1, ())
set_option maxRecDepth 100000 in
theorem impl_newSpan.f_eq (a0 : Int) (a1 : Int) : impl_newSpan.f a0 a1 = if a1 = a1 then (if 0 ≤ a1 then (if (a1 : Int).toNat ≤ 5864062014805 then (some (a0, List.replicate (a1 : Int).toNat ([] : List Int))) else none) else none) else none := by kernel_rfl
noncomputable def impl_newSpan.con : Con := ⟨impl_newSpan.fn.ins, impl_newSpan.fn.outs, Int × (List (List Int)), fun x => impl_newSpan.f x.1 x.2.1, fun r => ((r.1, r.2, ()), (()))⟩
theorem impl_newSpan.valid : Valid Try.prog 88 impl_newSpan.con := fn_valid (f := impl_newSpan.fn) (E := impl_newSpan.E) (enc := impl_newSpan.enc) ⟨ttOk, conNil⟩ (Checked.mixed Try.checked) ⟨Try.func88, by kernel_rfl, by kernel_rfl, by kernel_rfl, by kernel_rfl, by decide, by kernel_rfl, by kernel_rfl⟩ (fun _ => rfl)
end Go.Proofs.Ytjknpaplgclflaa.P
set_option linter.unusedVariables false
namespace Go.Proofs.Ytjknpaplgclflaa.P
open Go Go.RowKit Go.Proofs.Ytjknpaplgclflaa.D
noncomputable def impl_zero.E : Env := { tt := TT, con := [(87, impl_cells.con)], frz := [], rows := [], live := [], n := 11, pin := 0, nils := [] }
noncomputable def impl_zero.fn : D.Fn := { body := Try.f89.body.getD .skip, res := Try.f89.results.toList, ins := [.agg [.v (.sl 25 (.sl 2 (.int .i64)))], .one (.v (.int .i64))], outs := [.agg [.v (.int .i64), .own 2 true (.int .i64)]] }
def impl_zero.enc (y : lsd (flats impl_zero.fn.outs) × lsd (ios impl_zero.fn.ins)) : Int × (List Int) := (y.1.1, y.1.2.1)
noncomputable def impl_zero.f (l0_0 : List (List Int)) (a1 : Int) : Option (Int × (List Int)) := denF impl_zero.E impl_zero.fn impl_zero.enc (l0_0, a1, ())
set_option maxRecDepth 100000 in
theorem impl_zero.f_eq (l0_0 : List (List Int)) (a1 : Int) : impl_zero.f l0_0 a1 = (impl_cells.f l0_0 a1).bind fun t8 => if t8 = t8 then (if 0 ≤ t8 then (if (t8 : Int).toNat ≤ 17592186044416 then (some (a1, List.replicate (t8 : Int).toNat (0 : Int))) else none) else none) else none := by kernel_rfl
noncomputable def impl_zero.con : Con := ⟨impl_zero.fn.ins, impl_zero.fn.outs, Int × (List Int), fun x => impl_zero.f x.1 x.2.1, fun r => ((r.1, r.2, ()), (()))⟩
theorem impl_zero.valid : Valid Try.prog 89 impl_zero.con := fn_valid (f := impl_zero.fn) (E := impl_zero.E) (enc := impl_zero.enc) ⟨ttOk, (conCons impl_cells.valid conNil)⟩ (Checked.mixed Try.checked) ⟨Try.func89, by kernel_rfl, by kernel_rfl, by kernel_rfl, by kernel_rfl, by decide, by kernel_rfl, by kernel_rfl⟩ (fun _ => rfl)
end Go.Proofs.Ytjknpaplgclflaa.P
set_option linter.unusedVariables false
namespace Go.Proofs.Ytjknpaplgclflaa.P
open Go Go.RowKit Go.Proofs.Ytjknpaplgclflaa.D
noncomputable def impl_span_combined.E : Env := { tt := TT, con := [], frz := [], rows := [], live := [(3, [0, 1, 3, 4, 11, 17, 18, 19])], n := 54, pin := 0, nils := [] }
noncomputable def impl_span_combined.fn : D.Fn := { body := Try.f68.body.getD .skip, res := Try.f68.results.toList, ins := [.ptr true 83 [.v (.int .i64), .v (.sl 25 (.sl 1000002 (.int .i64)))], .one (.v (.int .i64)), .one (.v (.sl 2 (.int .i64))), .one (.v (.int .i64)), .one (.v (.sl 2 (.int .i64)))], outs := [.one (.own 2 true (.int .i64))] }
def impl_span_combined.enc (y : lsd (flats impl_span_combined.fn.outs) × lsd (ios impl_span_combined.fn.ins)) : (List Int) := y.1.1
noncomputable def impl_span_combined.f (a0_0 : Int) (l0_1 : List (List Int)) (a1 : Int) (l2 : List Int) (a3 : Int) (l4 : List Int) : Option (List Int) := denF impl_span_combined.E impl_span_combined.fn impl_span_combined.enc (a0_0, l0_1, a1, l2, a3, l4, ())
noncomputable def impl_span_combined.l0 (x1 : Int) (x3 : Int) (x4 : List Int) (x17 : List Int) (x18 : Int) (x19 : Int) (b0_0 : Int) (b0_1 : List (List Int)) (r1 : List Int) : Option (List Int) := denAt impl_span_combined.E impl_span_combined.fn impl_span_combined.enc [1, 1, 0, 1, 0] { fr := [(0, .lf (.box 0 0)), (1, .lf (.int .i64 x1)), (3, .lf (.int .i64 x3)), (4, .lf (.sl (.int .i64) x4)), (11, .lf (.own 1)), (17, .lf (.sl (.int .i64) x17)), (18, .lf (.int .i64 x18)), (19, .lf (.int .i64 x19))], ob := [(0, .box 83 true [.int .i64 b0_0, .sl (.sl 1000002 (.int .i64)) b0_1]), (1, .row 2 true (.int .i64) r1)], nx := 2 }
set_option maxRecDepth 100000 in
theorem impl_span_combined.f_eq (a0_0 : Int) (l0_1 : List (List Int)) (a1 : Int) (l2 : List Int) (a3 : Int) (l4 : List Int) : impl_span_combined.f a0_0 l0_1 a1 l2 a3 l4 = if (l2.length : Int) = (l2.length : Int) then (if 0 ≤ (l2.length : Int) then (if ((l2.length : Int) : Int).toNat ≤ 17592186044416 then (impl_span_combined.l0 a1 a3 l4 l2 (l2.length : Int) 0 a0_0 l0_1 (List.replicate ((l2.length : Int) : Int).toNat (0 : Int))) else none) else none) else none := by kernel_rfl
set_option maxRecDepth 100000 in
theorem impl_span_combined.l0_eq (x1 : Int) (x3 : Int) (x4 : List Int) (x17 : List Int) (x18 : Int) (x19 : Int) (b0_0 : Int) (b0_1 : List (List Int)) (r1 : List Int) : impl_span_combined.l0 x1 x3 x4 x17 x18 x19 b0_0 b0_1 r1 = if x19 < x18 then (if 0 ≤ x19 then (if x19 < (x17.length : Int) then (if 0 ≤ x19 then (if x19 < (x4.length : Int) then (if b0_0 = 0 then none else (if b0_0 = 0 then none else (if 0 ≤ x19 then (if x19 < (r1.length : Int) then (if 0 ≤ x19 then (if x19 < (r1.length : Int) then (impl_span_combined.l0 x1 x3 x4 x17 x18 (wrapI (x19 + 1)) b0_0 b0_1 (r1.set (x19 : Int).toNat ((wrapI (((wrapI ((wrapI (x1 * (rd x17 x19))) + (wrapI (x3 * (rd x4 x19)))) : Int).tmod b0_0) + b0_0) : Int).tmod b0_0))) else none) else none) else none) else none))) else none) else none) else none) else none) else (some r1) := (loop_unfold _ _ _ _).trans (by kernel_rfl)
noncomputable def impl_span_combined.con : Con := ⟨impl_span_combined.fn.ins, impl_span_combined.fn.outs, (List Int), fun x => impl_span_combined.f x.1 x.2.1 x.2.2.1 x.2.2.2.1 x.2.2.2.2.1 x.2.2.2.2.2.1, fun r => ((r, ()), (()))⟩
theorem impl_span_combined.valid : Valid Try.prog 68 impl_span_combined.con := fn_valid (f := impl_span_combined.fn) (E := impl_span_combined.E) (enc := impl_span_combined.enc) ⟨ttOk, conNil⟩ (Checked.mixed Try.checked) ⟨Try.func68, by kernel_rfl, by kernel_rfl, by kernel_rfl, by kernel_rfl, by decide, by kernel_rfl, by kernel_rfl⟩ (fun _ => rfl)
end Go.Proofs.Ytjknpaplgclflaa.P
set_option linter.unusedVariables false
namespace Go.Proofs.Ytjknpaplgclflaa.P
open Go Go.RowKit Go.Proofs.Ytjknpaplgclflaa.D
noncomputable def slices_IndexFunc_int64.E : Env := { tt := TT, con := [], frz := [], rows := [], live := [(2, [0, 1, 7, 8])], n := 19, pin := 0, nils := [] }
noncomputable def slices_IndexFunc_int64.fn : D.Fn := { body := Try.f100.body.getD .skip, res := Try.f100.results.toList, ins := [.one (.v (.sl 2 (.int .i64))), .one (.fn [(.int .i64)] .bool)], outs := [.one (.v (.int .i64))] }
def slices_IndexFunc_int64.enc (y : lsd (flats slices_IndexFunc_int64.fn.outs) × lsd (ios slices_IndexFunc_int64.fn.ins)) : Int := y.1.1
noncomputable def slices_IndexFunc_int64.f (l0 : List Int) (f1 : Int → Option Bool) : Option Int := denF slices_IndexFunc_int64.E slices_IndexFunc_int64.fn slices_IndexFunc_int64.enc (l0, fun x => f1 x.1, ())
noncomputable def slices_IndexFunc_int64.l0 (x0 : List Int) (fx1 : Int → Option Bool) (x7 : Int) (x8 : Int) : Option Int := denAt slices_IndexFunc_int64.E slices_IndexFunc_int64.fn slices_IndexFunc_int64.enc [1, 0, 1, 0] { fr := [(0, .lf (.sl (.int .i64) x0)), (1, .lf (.fn [(.int .i64)] .bool (fun x => fx1 x.1))), (7, .lf (.int .i64 x7)), (8, .lf (.int .i64 x8))], ob := [], nx := 0 }
set_option maxRecDepth 100000 in
theorem slices_IndexFunc_int64.f_eq (l0 : List Int) (f1 : Int → Option Bool) : slices_IndexFunc_int64.f l0 f1 = slices_IndexFunc_int64.l0 l0 f1 (l0.length : Int) 0 := by kernel_rfl
set_option maxRecDepth 100000 in
theorem slices_IndexFunc_int64.l0_eq (x0 : List Int) (fx1 : Int → Option Bool) (x7 : Int) (x8 : Int) : slices_IndexFunc_int64.l0 x0 fx1 x7 x8 = if x8 < x7 then (if 0 ≤ x8 then (if x8 < (x0.length : Int) then ((fx1 (rd x0 x8)).bind fun t16 => if t16 = true then (some x8) else (slices_IndexFunc_int64.l0 x0 fx1 x7 (wrapI (x8 + 1)))) else none) else none) else (some (-1)) := (loop_unfold _ _ _ _).trans (by kernel_rfl)
noncomputable def slices_IndexFunc_int64.con : Con := ⟨slices_IndexFunc_int64.fn.ins, slices_IndexFunc_int64.fn.outs, Int, fun x => slices_IndexFunc_int64.f x.1 (fun z0 => x.2.1 (z0, ())), fun r => ((r, ()), (()))⟩
theorem slices_IndexFunc_int64.valid : Valid Try.prog 100 slices_IndexFunc_int64.con := fn_valid (f := slices_IndexFunc_int64.fn) (E := slices_IndexFunc_int64.E) (enc := slices_IndexFunc_int64.enc) ⟨ttOk, conNil⟩ (Checked.mixed Try.checked) ⟨Try.func100, by kernel_rfl, by kernel_rfl, by kernel_rfl, by kernel_rfl, by decide, by kernel_rfl, by kernel_rfl⟩ (fun _ => rfl)
end Go.Proofs.Ytjknpaplgclflaa.P
set_option linter.unusedVariables false
namespace Go.Proofs.Ytjknpaplgclflaa.P
open Go Go.RowKit Go.Proofs.Ytjknpaplgclflaa.D
noncomputable def impl_span_put_1.E : Env := { tt := TT, con := [], frz := [], rows := [], live := [], n := 5, pin := 0, nils := [] }
noncomputable def impl_span_put_1.fn : D.Fn := { body := Try.f101.body.getD .skip, res := Try.f101.results.toList, ins := [.one (.v (.int .i64))], outs := [.one (.v .bool)] }
def impl_span_put_1.enc (y : lsd (flats impl_span_put_1.fn.outs) × lsd (ios impl_span_put_1.fn.ins)) : Bool := y.1.1
noncomputable def impl_span_put_1.f (a0 : Int) : Option Bool := denF impl_span_put_1.E impl_span_put_1.fn impl_span_put_1.enc (a0, ())
set_option maxRecDepth 100000 in
theorem impl_span_put_1.f_eq (a0 : Int) : impl_span_put_1.f a0 = some (!decide (a0 = 0)) := by kernel_rfl
noncomputable def impl_span_put_1.con : Con := ⟨impl_span_put_1.fn.ins, impl_span_put_1.fn.outs, Bool, fun x => impl_span_put_1.f x.1, fun r => ((r, ()), (()))⟩
theorem impl_span_put_1.valid : Valid Try.prog 101 impl_span_put_1.con := fn_valid (f := impl_span_put_1.fn) (E := impl_span_put_1.E) (enc := impl_span_put_1.enc) ⟨ttOk, conNil⟩ (Checked.mixed Try.checked) ⟨Try.func101, by kernel_rfl, by kernel_rfl, by kernel_rfl, by kernel_rfl, by decide, by kernel_rfl, by kernel_rfl⟩ (fun _ => rfl)
end Go.Proofs.Ytjknpaplgclflaa.P
set_option linter.unusedVariables false
namespace Go.Proofs.Ytjknpaplgclflaa.P
open Go Go.RowKit Go.Proofs.Ytjknpaplgclflaa.D
noncomputable def impl_span_bezout.E : Env := { tt := TT, con := [(93, impl_gcd.con)], frz := [], rows := [], live := [(3, [0, 1, 2, 9, 23, 24]), (6, [0, 1, 2, 9, 10, 23, 24, 30, 31])], n := 55, pin := 0, nils := [] }
noncomputable def impl_span_bezout.fn : D.Fn := { body := Try.f102.body.getD .skip, res := Try.f102.results.toList, ins := [.ptr true 83 [.v (.int .i64), .v (.sl 25 (.sl 1000002 (.int .i64)))], .one (.v (.int .i64)), .one (.v (.int .i64))], outs := [.one (.v (.int .i64)), .one (.v (.int .i64)), .one (.v (.int .i64))] }
def impl_span_bezout.enc (y : lsd (flats impl_span_bezout.fn.outs) × lsd (ios impl_span_bezout.fn.ins)) : Int × Int × Int := (y.1.1, y.1.2.1, y.1.2.2.1)
noncomputable def impl_span_bezout.f (a0_0 : Int) (l0_1 : List (List Int)) (a1 : Int) (a2 : Int) : Option (Int × Int × Int) := denF impl_span_bezout.E impl_span_bezout.fn impl_span_bezout.enc (a0_0, l0_1, a1, a2, ())
noncomputable def impl_span_bezout.l0 (x1 : Int) (x2 : Int) (x9 : Int) (x23 : Int) (x24 : Int) (b0_0 : Int) (b0_1 : List (List Int)) : Option (Int × Int × Int) := denAt impl_span_bezout.E impl_span_bezout.fn impl_span_bezout.enc [1, 1, 0, 1, 0] { fr := [(0, .lf (.box 0 0)), (1, .lf (.int .i64 x1)), (2, .lf (.int .i64 x2)), (9, .lf (.int .i64 x9)), (23, .lf (.int .i64 x23)), (24, .lf (.int .i64 x24))], ob := [(0, .box 83 true [.int .i64 b0_0, .sl (.sl 1000002 (.int .i64)) b0_1])], nx := 1 }
noncomputable def impl_span_bezout.l1 (x1 : Int) (x2 : Int) (x9 : Int) (x10 : Int) (x23 : Int) (x24 : Int) (x30 : Int) (x31 : Int) (b0_0 : Int) (b0_1 : List (List Int)) : Option (Int × Int × Int) := denAt impl_span_bezout.E impl_span_bezout.fn impl_span_bezout.enc [1, 1, 0, 1, 0, 0, 1, 1, 0, 0, 1, 1, 0] { fr := [(0, .lf (.box 0 0)), (1, .lf (.int .i64 x1)), (2, .lf (.int .i64 x2)), (9, .lf (.int .i64 x9)), (10, .lf (.int .i64 x10)), (23, .lf (.int .i64 x23)), (24, .lf (.int .i64 x24)), (30, .lf (.int .i64 x30)), (31, .lf (.int .i64 x31))], ob := [(0, .box 83 true [.int .i64 b0_0, .sl (.sl 1000002 (.int .i64)) b0_1])], nx := 1 }
set_option maxRecDepth 100000 in
theorem impl_span_bezout.f_eq (a0_0 : Int) (l0_1 : List (List Int)) (a1 : Int) (a2 : Int) : impl_span_bezout.f a0_0 l0_1 a1 a2 = (impl_gcd.f a1 a2).bind fun t14 => (impl_gcd.f t14 a0_0).bind fun t19 => impl_span_bezout.l0 a1 a2 t19 a0_0 0 a0_0 l0_1 := by kernel_rfl
set_option maxRecDepth 100000 in
theorem impl_span_bezout.l0_eq (x1 : Int) (x2 : Int) (x9 : Int) (x23 : Int) (x24 : Int) (b0_0 : Int) (b0_1 : List (List Int)) : impl_span_bezout.l0 x1 x2 x9 x23 x24 b0_0 b0_1 = if x24 < x23 then (impl_span_bezout.l1 x1 x2 x9 x24 x23 x24 b0_0 0 b0_0 b0_1) else (some (0, 0, x9)) := (loop_unfold _ _ _ _).trans (by kernel_rfl)
set_option maxRecDepth 100000 in
theorem impl_span_bezout.l1_eq (x1 : Int) (x2 : Int) (x9 : Int) (x10 : Int) (x23 : Int) (x24 : Int) (x30 : Int) (x31 : Int) (b0_0 : Int) (b0_1 : List (List Int)) : impl_span_bezout.l1 x1 x2 x9 x10 x23 x24 x30 x31 b0_0 b0_1 = if x31 < x30 then (if b0_0 = 0 then none else (if ((wrapI ((wrapI ((wrapI (x10 * x1)) + (wrapI (x31 * x2)))) - x9) : Int).tmod b0_0) = 0 then (some (x10, x31, x9)) else (impl_span_bezout.l1 x1 x2 x9 x10 x23 x24 x30 (wrapI (x31 + 1)) b0_0 b0_1))) else (impl_span_bezout.l0 x1 x2 x9 x23 (wrapI (x24 + 1)) b0_0 b0_1) := (loop_unfold _ _ _ _).trans (by kernel_rfl)
noncomputable def impl_span_bezout.con : Con := ⟨impl_span_bezout.fn.ins, impl_span_bezout.fn.outs, Int × Int × Int, fun x => impl_span_bezout.f x.1 x.2.1 x.2.2.1 x.2.2.2.1, fun r => ((r.1, r.2.1, r.2.2, ()), (()))⟩
theorem impl_span_bezout.valid : Valid Try.prog 102 impl_span_bezout.con := fn_valid (f := impl_span_bezout.fn) (E := impl_span_bezout.E) (enc := impl_span_bezout.enc) ⟨ttOk, (conCons impl_gcd.valid conNil)⟩ (Checked.mixed Try.checked) ⟨Try.func102, by kernel_rfl, by kernel_rfl, by kernel_rfl, by kernel_rfl, by decide, by kernel_rfl, by kernel_rfl⟩ (fun _ => rfl)
end Go.Proofs.Ytjknpaplgclflaa.P
set_option linter.unusedVariables false
namespace Go.Proofs.Ytjknpaplgclflaa.P
open Go Go.RowKit Go.Proofs.Ytjknpaplgclflaa.D
noncomputable def impl_span_put.E : Env := { tt := TT, con := [(100, slices_IndexFunc_int64.con), (101, impl_span_put_1.con), (102, impl_span_bezout.con), (68, impl_span_combined.con)], frz := [43, 75, 97, 116, 127, 137], rows := [13, 76, 138], live := [(1, [0, 4]), (9, [0, 4, 5, 6, 7])], n := 140, pin := 1, nils := [] }
noncomputable def impl_span_put.fn : D.Fn := { body := Try.f90.body.getD .skip, res := Try.f90.results.toList, ins := [.ptr false 83 [.v (.int .i64), .own 25 false (.sl 1000002 (.int .i64))], .one (.v (.sl 2 (.int .i64)))], outs := [] }
def impl_span_put.enc (y : lsd (flats impl_span_put.fn.outs) × lsd (ios impl_span_put.fn.ins)) : Int × (List (List Int)) := (y.2.1, y.2.2.1)
noncomputable def impl_span_put.f (a0_0 : Int) (l0_1 : List (List Int)) (l1 : List Int) : Option (Int × (List (List Int))) := denF impl_span_put.E impl_span_put.fn impl_span_put.enc (a0_0, l0_1, l1, ())
noncomputable def impl_span_put.l0 (b0_0 : Int) (r1 : List (List Int)) (r2 : List (List Int)) : Option (Int × (List (List Int))) := denAt impl_span_put.E impl_span_put.fn impl_span_put.enc [1, 0] { fr := [(0, .lf (.box 0 0)), (4, .lf (.own 2))], ob := [(0, .box 83 false [.int .i64 b0_0, .own 1]), (1, .row 25 false (.sl 1000002 (.int .i64)) r1), (2, .row 25 false (.sl 2 (.int .i64)) r2)], nx := 3 }
noncomputable def impl_span_put.j1 (x5 : List Int) (x6 : Int) (x7 : List Int) (b0_0 : Int) (r1 : List (List Int)) (r2 : List (List Int)) : Option (Int × (List (List Int))) := denAt impl_span_put.E impl_span_put.fn impl_span_put.enc [1, 0, 0, 1, 0, 1, 1, 1, 1, 1, 1] { fr := [(0, .lf (.box 0 0)), (4, .lf (.own 2)), (5, .lf (.sl (.int .i64) x5)), (6, .lf (.int .i64 x6)), (7, .lf (.sl (.int .i64) x7))], ob := [(0, .box 83 false [.int .i64 b0_0, .own 1]), (1, .row 25 false (.sl 1000002 (.int .i64)) r1), (2, .row 25 false (.sl 2 (.int .i64)) r2)], nx := 3 }
set_option maxRecDepth 100000 in
theorem impl_span_put.f_eq (a0_0 : Int) (l0_1 : List (List Int)) (l1 : List Int) : impl_span_put.f a0_0 l0_1 l1 = impl_span_put.l0 a0_0 l0_1 ([l1] : List (List Int)) := by kernel_rfl
set_option maxRecDepth 100000 in
theorem impl_span_put.l0_eq (b0_0 : Int) (r1 : List (List Int)) (r2 : List (List Int)) : impl_span_put.l0 b0_0 r1 r2 = if (r2.length : Int) > 0 then (if 0 ≤ wrapI ((r2.length : Int) - 1) then (if wrapI ((r2.length : Int) - 1) < (r2.length : Int) then (if 0 ≤ wrapI ((r2.length : Int) - 1) then (if wrapI ((r2.length : Int) - 1) < (r2.length : Int) then (if 0 < (r2.length : Int) then (if 0 ≤ wrapI ((r2.length : Int) - 1) then (if wrapI ((r2.length : Int) - 1) ≤ (r2.length : Int) then ((slices_IndexFunc_int64.f (row r2 (wrapI ((r2.length : Int) - 1))) (fun z0 => (impl_span_put_1.f z0).map fun z => z)).bind fun t29 => if t29 < 0 then (impl_span_put.l0 b0_0 r1 (r2.take (wrapI ((r2.length : Int) - 1) : Int).toNat)) else (if 0 ≤ t29 then (if t29 < (r1.length : Int) then (if 0 ≤ t29 then (if t29 < (r1.length : Int) then (if (row r1 t29).length = 0 then (if ((row r2 (wrapI ((r2.length : Int) - 1))).length : Int) = ((row r2 (wrapI ((r2.length : Int) - 1))).length : Int) then (if 0 ≤ ((row r2 (wrapI ((r2.length : Int) - 1))).length : Int) then (if (((row r2 (wrapI ((r2.length : Int) - 1))).length : Int) : Int).toNat ≤ 17592186044416 then (impl_span_put.j1 (row r2 (wrapI ((r2.length : Int) - 1))) t29 (List.replicate (((row r2 (wrapI ((r2.length : Int) - 1))).length : Int) : Int).toNat (0 : Int)) b0_0 r1 (r2.take (wrapI ((r2.length : Int) - 1) : Int).toNat)) else none) else none) else none) else (if 0 < (row r1 t29).length then (impl_span_put.j1 (row r2 (wrapI ((r2.length : Int) - 1))) t29 (row r1 t29) b0_0 r1 (r2.take (wrapI ((r2.length : Int) - 1) : Int).toNat)) else none)) else none) else none) else none) else none)) else none) else none) else none) else none) else none) else none) else none) else (some (b0_0, r1)) := (loop_unfold _ _ _ _).trans (by kernel_rfl)
set_option maxRecDepth 100000 in
theorem impl_span_put.j1_eq (x5 : List Int) (x6 : Int) (x7 : List Int) (b0_0 : Int) (r1 : List (List Int)) (r2 : List (List Int)) : impl_span_put.j1 x5 x6 x7 b0_0 r1 r2 = if 0 ≤ x6 then (if x6 < (x7.length : Int) then (if (rd x7 x6) = 0 then (if 0 ≤ x6 then (if x6 < (x7.length : Int) then (if 0 ≤ x6 then (if x6 < (x5.length : Int) then ((impl_span_bezout.f b0_0 r1 (rd x7 x6) (rd x5 x6)).bind fun t88 => (impl_span_combined.f b0_0 r1 t88.1 x7 t88.2.1 x5).bind fun t97 => if 0 ≤ x6 then (if x6 < (r1.length : Int) then (if 0 ≤ x6 then (if x6 < (r1.length : Int) then (if 0 < t97.length then (if 0 ≤ x6 then (if x6 < (x7.length : Int) then (if t88.2.2 = 0 then none else ((impl_span_combined.f b0_0 (r1.set (x6 : Int).toNat t97) 1 x7 (wrapI ((wrapI (0 - (rd x7 x6)) : Int).tdiv t88.2.2)) t97).bind fun t116 => if 0 ≤ x6 then (if x6 < (x5.length : Int) then (if t88.2.2 = 0 then none else ((impl_span_combined.f b0_0 (r1.set (x6 : Int).toNat t97) 1 x5 (wrapI ((wrapI (0 - (rd x5 x6)) : Int).tdiv t88.2.2)) t97).bind fun t127 => if t88.2.2 = 0 then none else ((impl_span_combined.f b0_0 (r1.set (x6 : Int).toNat t97) (wrapI ((b0_0 : Int).tdiv t88.2.2)) t97 0 t97).bind fun t137 => if r2.length + ([t116, t127, t137] : List (List Int)).length ≤ 5864062014805 then (impl_span_put.l0 b0_0 (r1.set (x6 : Int).toNat t97) (r2 ++ ([t116, t127, t137] : List (List Int)))) else none))) else none) else none)) else none) else none) else none) else none) else none) else none) else none) else none) else none) else none) else none) else (if 0 ≤ x6 then (if x6 < (x5.length : Int) then (if 0 ≤ x6 then (if x6 < (x7.length : Int) then (if (rd x7 x6) = 0 then none else (if ((rd x5 x6 : Int).tmod (rd x7 x6)) = 0 then (if 0 ≤ x6 then (if x6 < (x5.length : Int) then (if 0 ≤ x6 then (if x6 < (x7.length : Int) then (if (rd x7 x6) = 0 then none else ((impl_span_combined.f b0_0 r1 1 x5 (wrapI ((wrapI (0 - (rd x5 x6)) : Int).tdiv (rd x7 x6))) x7).bind fun t75 => if r2.length + ([t75] : List (List Int)).length ≤ 5864062014805 then (impl_span_put.l0 b0_0 r1 (r2 ++ ([t75] : List (List Int)))) else none)) else none) else none) else none) else none) else (if 0 ≤ x6 then (if x6 < (x7.length : Int) then (if 0 ≤ x6 then (if x6 < (x5.length : Int) then ((impl_span_bezout.f b0_0 r1 (rd x7 x6) (rd x5 x6)).bind fun t88 => (impl_span_combined.f b0_0 r1 t88.1 x7 t88.2.1 x5).bind fun t97 => if 0 ≤ x6 then (if x6 < (r1.length : Int) then (if 0 ≤ x6 then (if x6 < (r1.length : Int) then (if 0 < t97.length then (if 0 ≤ x6 then (if x6 < (x7.length : Int) then (if t88.2.2 = 0 then none else ((impl_span_combined.f b0_0 (r1.set (x6 : Int).toNat t97) 1 x7 (wrapI ((wrapI (0 - (rd x7 x6)) : Int).tdiv t88.2.2)) t97).bind fun t116 => if 0 ≤ x6 then (if x6 < (x5.length : Int) then (if t88.2.2 = 0 then none else ((impl_span_combined.f b0_0 (r1.set (x6 : Int).toNat t97) 1 x5 (wrapI ((wrapI (0 - (rd x5 x6)) : Int).tdiv t88.2.2)) t97).bind fun t127 => if t88.2.2 = 0 then none else ((impl_span_combined.f b0_0 (r1.set (x6 : Int).toNat t97) (wrapI ((b0_0 : Int).tdiv t88.2.2)) t97 0 t97).bind fun t137 => if r2.length + ([t116, t127, t137] : List (List Int)).length ≤ 5864062014805 then (impl_span_put.l0 b0_0 (r1.set (x6 : Int).toNat t97) (r2 ++ ([t116, t127, t137] : List (List Int)))) else none))) else none) else none)) else none) else none) else none) else none) else none) else none) else none) else none) else none) else none) else none))) else none) else none) else none) else none)) else none) else none := by kernel_rfl
noncomputable def impl_span_put.con : Con := ⟨impl_span_put.fn.ins, impl_span_put.fn.outs, Int × (List (List Int)), fun x => impl_span_put.f x.1 x.2.1 x.2.2.1, fun r => ((()), (r.1, r.2, ()))⟩
theorem impl_span_put.valid : Valid Try.prog 90 impl_span_put.con := fn_valid (f := impl_span_put.fn) (E := impl_span_put.E) (enc := impl_span_put.enc) ⟨ttOk, (conCons slices_IndexFunc_int64.valid (conCons impl_span_put_1.valid (conCons impl_span_bezout.valid (conCons impl_span_combined.valid conNil))))⟩ (Checked.mixed Try.checked) ⟨Try.func90, by kernel_rfl, by kernel_rfl, by kernel_rfl, by kernel_rfl, by decide, by kernel_rfl, by kernel_rfl⟩ (fun _ => rfl)
end Go.Proofs.Ytjknpaplgclflaa.P
set_option linter.unusedVariables false
namespace Go.Proofs.Ytjknpaplgclflaa.P
open Go Go.RowKit Go.Proofs.Ytjknpaplgclflaa.D
noncomputable def impl_listOf.E : Env := { tt := TT, con := [(70, impl_order.con)], frz := [], rows := [], live := [(3, [2, 7, 8, 9])], n := 32, pin := 0, nils := [] }
noncomputable def impl_listOf.fn : D.Fn := { body := Try.f107.body.getD .skip, res := Try.f107.results.toList, ins := [.agg [.v (.sl 25 (.sl 2 (.int .i64)))], .one (.v (.int .i64)), .one (.v (.int .i64))], outs := [.one (.own 2 true (.int .i64))] }
def impl_listOf.enc (y : lsd (flats impl_listOf.fn.outs) × lsd (ios impl_listOf.fn.ins)) : (List Int) := y.1.1
noncomputable def impl_listOf.f (l0_0 : List (List Int)) (a1 : Int) (a2 : Int) : Option (List Int) := denF impl_listOf.E impl_listOf.fn impl_listOf.enc (l0_0, a1, a2, ())
noncomputable def impl_listOf.l0 (x2 : Int) (x8 : Int) (x9 : Int) (r0 : List Int) : Option (List Int) := denAt impl_listOf.E impl_listOf.fn impl_listOf.enc [1, 1, 0, 1, 0] { fr := [(2, .lf (.int .i64 x2)), (7, .lf (.own 0)), (8, .lf (.int .i64 x8)), (9, .lf (.int .i64 x9))], ob := [(0, .row 2 true (.int .i64) r0)], nx := 1 }
set_option maxRecDepth 100000 in
theorem impl_listOf.f_eq (l0_0 : List (List Int)) (a1 : Int) (a2 : Int) : impl_listOf.f l0_0 a1 a2 = if a1 = a1 then (if 0 ≤ a1 then (if (a1 : Int).toNat ≤ 17592186044416 then ((impl_order.f l0_0).bind fun t13 => impl_listOf.l0 a2 (wrapI (t13 - 1)) (wrapI (a1 - 1)) (List.replicate (a1 : Int).toNat (0 : Int))) else none) else none) else none := by kernel_rfl
set_option maxRecDepth 100000 in
theorem impl_listOf.l0_eq (x2 : Int) (x8 : Int) (x9 : Int) (r0 : List Int) : impl_listOf.l0 x2 x8 x9 r0 = if x9 ≥ 0 then (if x8 = 0 then none else (if 0 ≤ x9 then (if x9 < (r0.length : Int) then (if 0 ≤ x9 then (if x9 < (r0.length : Int) then (if x8 = 0 then none else (impl_listOf.l0 (wrapI ((x2 : Int).tdiv x8)) x8 (wrapI (x9 - 1)) (r0.set (x9 : Int).toNat (wrapI (1 + ((x2 : Int).tmod x8)))))) else none) else none) else none) else none)) else (some r0) := (loop_unfold _ _ _ _).trans (by kernel_rfl)
noncomputable def impl_listOf.con : Con := ⟨impl_listOf.fn.ins, impl_listOf.fn.outs, (List Int), fun x => impl_listOf.f x.1 x.2.1 x.2.2.1, fun r => ((r, ()), (()))⟩
theorem impl_listOf.valid : Valid Try.prog 107 impl_listOf.con := fn_valid (f := impl_listOf.fn) (E := impl_listOf.E) (enc := impl_listOf.enc) ⟨ttOk, (conCons impl_order.valid conNil)⟩ (Checked.mixed Try.checked) ⟨Try.func107, by kernel_rfl, by kernel_rfl, by kernel_rfl, by kernel_rfl, by decide, by kernel_rfl, by kernel_rfl⟩ (fun _ => rfl)
end Go.Proofs.Ytjknpaplgclflaa.P
set_option linter.unusedVariables false
namespace Go.Proofs.Ytjknpaplgclflaa.P
open Go Go.RowKit Go.Proofs.Ytjknpaplgclflaa.D
noncomputable def impl_told.E : Env := { tt := TT, con := [(89, impl_zero.con), (107, impl_listOf.con)], frz := [], rows := [], live := [(3, [1, 2, 3, 4, 8, 9, 16, 17])], n := 38, pin := 0, nils := [] }
noncomputable def impl_told.fn : D.Fn := { body := Try.f103.body.getD .skip, res := Try.f103.results.toList, ins := [.agg [.v (.sl 25 (.sl 2 (.int .i64)))], .one (.v (.int .i64)), .one (.v (.int .i64)), .one (.fn [(.sl 2 (.int .i64))] (.int .i64))], outs := [.agg [.v (.int .i64), .own 2 true (.int .i64)]] }
def impl_told.enc (y : lsd (flats impl_told.fn.outs) × lsd (ios impl_told.fn.ins)) : Int × (List Int) := (y.1.1, y.1.2.1)
noncomputable def impl_told.f (l0_0 : List (List Int)) (a1 : Int) (a2 : Int) (f3 : (List Int) → Option Int) : Option (Int × (List Int)) := denF impl_told.E impl_told.fn impl_told.enc (l0_0, a1, a2, fun x => f3 x.1, ())
noncomputable def impl_told.l0 (x1 : Int) (x2 : Int) (fx3 : (List Int) → Option Int) (x16 : Int) (x17 : Int) (b0_0 : List (List Int)) (b1_0 : Int) (b2_0 : Int) (r3 : List Int) : Option (Int × (List Int)) := denAt impl_told.E impl_told.fn impl_told.enc [1, 1, 0, 1, 0] { fr := [(1, .lf (.int .i64 x1)), (2, .lf (.int .i64 x2)), (3, .lf (.fn [(.sl 2 (.int .i64))] (.int .i64) (fun x => fx3 x.1))), (4, .lf (.box 0 0)), (8, .lf (.box 1 0)), (9, .lf (.box 2 0)), (16, .lf (.int .i64 x16)), (17, .lf (.int .i64 x17))], ob := [(0, .box 32 false [.sl (.sl 2 (.int .i64)) b0_0]), (1, .box 106 false [.int .i64 b1_0, .nil]), (2, .box 106 false [.int .i64 b2_0, .own 3]), (3, .row 2 true (.int .i64) r3)], nx := 4 }
set_option maxRecDepth 100000 in
theorem impl_told.f_eq (l0_0 : List (List Int)) (a1 : Int) (a2 : Int) (f3 : (List Int) → Option Int) : impl_told.f l0_0 a1 a2 f3 = (impl_zero.f l0_0 a2).bind fun t13 => impl_told.l0 a1 a2 f3 (t13.2.length : Int) 0 l0_0 0 t13.1 t13.2 := by kernel_rfl
set_option maxRecDepth 100000 in
theorem impl_told.l0_eq (x1 : Int) (x2 : Int) (fx3 : (List Int) → Option Int) (x16 : Int) (x17 : Int) (b0_0 : List (List Int)) (b1_0 : Int) (b2_0 : Int) (r3 : List Int) : impl_told.l0 x1 x2 fx3 x16 x17 b0_0 b1_0 b2_0 r3 = if x17 < x16 then ((impl_listOf.f b0_0 x2 x17).bind fun t27 => (fx3 t27).bind fun t28 => if x1 = 0 then none else (if x1 = 0 then none else (if 0 ≤ x17 then (if x17 < (r3.length : Int) then (if 0 ≤ x17 then (if x17 < (r3.length : Int) then (impl_told.l0 x1 x2 fx3 x16 (wrapI (x17 + 1)) b0_0 b1_0 b2_0 (r3.set (x17 : Int).toNat ((wrapI (((t28 : Int).tmod x1) + x1) : Int).tmod x1))) else none) else none) else none) else none))) else (some (b2_0, r3)) := (loop_unfold _ _ _ _).trans (by kernel_rfl)
noncomputable def impl_told.con : Con := ⟨impl_told.fn.ins, impl_told.fn.outs, Int × (List Int), fun x => impl_told.f x.1 x.2.1 x.2.2.1 (fun z0 => x.2.2.2.1 (z0, ())), fun r => ((r.1, r.2, ()), (()))⟩
theorem impl_told.valid : Valid Try.prog 103 impl_told.con := fn_valid (f := impl_told.fn) (E := impl_told.E) (enc := impl_told.enc) ⟨ttOk, (conCons impl_zero.valid (conCons impl_listOf.valid conNil))⟩ (Checked.mixed Try.checked) ⟨Try.func103, by kernel_rfl, by kernel_rfl, by kernel_rfl, by kernel_rfl, by decide, by kernel_rfl, by kernel_rfl⟩ (fun _ => rfl)
end Go.Proofs.Ytjknpaplgclflaa.P
set_option linter.unusedVariables false
namespace Go.Proofs.Ytjknpaplgclflaa.P
open Go Go.RowKit Go.Proofs.Ytjknpaplgclflaa.D
noncomputable def impl_cell.E : Env := { tt := TT, con := [(70, impl_order.con)], frz := [], rows := [], live := [(3, [2, 5, 8, 9, 10])], n := 26, pin := 0, nils := [] }
noncomputable def impl_cell.fn : D.Fn := { body := Try.f109.body.getD .skip, res := Try.f109.results.toList, ins := [.agg [.v (.sl 25 (.sl 2 (.int .i64)))], .one (.v (.sl 2 (.int .i64)))], outs := [.one (.v (.int .i64))] }
def impl_cell.enc (y : lsd (flats impl_cell.fn.outs) × lsd (ios impl_cell.fn.ins)) : Int := y.1.1
noncomputable def impl_cell.f (l0_0 : List (List Int)) (l1 : List Int) : Option Int := denF impl_cell.E impl_cell.fn impl_cell.enc (l0_0, l1, ())
noncomputable def impl_cell.l0 (x5 : Int) (x8 : List Int) (x9 : Int) (x10 : Int) (b0_0 : List (List Int)) : Option Int := denAt impl_cell.E impl_cell.fn impl_cell.enc [1, 1, 0, 1, 0] { fr := [(2, .lf (.box 0 0)), (5, .lf (.int .i64 x5)), (8, .lf (.sl (.int .i64) x8)), (9, .lf (.int .i64 x9)), (10, .lf (.int .i64 x10))], ob := [(0, .box 32 false [.sl (.sl 2 (.int .i64)) b0_0])], nx := 1 }
set_option maxRecDepth 100000 in
theorem impl_cell.f_eq (l0_0 : List (List Int)) (l1 : List Int) : impl_cell.f l0_0 l1 = impl_cell.l0 0 l1 (l1.length : Int) 0 l0_0 := by kernel_rfl
set_option maxRecDepth 100000 in
theorem impl_cell.l0_eq (x5 : Int) (x8 : List Int) (x9 : Int) (x10 : Int) (b0_0 : List (List Int)) : impl_cell.l0 x5 x8 x9 x10 b0_0 = if x10 < x9 then (if 0 ≤ x10 then (if x10 < (x8.length : Int) then (if (rd x8 x10) = 0 then (some (-1)) else ((impl_order.f b0_0).bind fun t18 => impl_cell.l0 (wrapI ((wrapI ((wrapI (x5 * (wrapI (t18 - 1)))) + (rd x8 x10))) - 1)) x8 x9 (wrapI (x10 + 1)) b0_0)) else none) else none) else (some x5) := (loop_unfold _ _ _ _).trans (by kernel_rfl)
noncomputable def impl_cell.con : Con := ⟨impl_cell.fn.ins, impl_cell.fn.outs, Int, fun x => impl_cell.f x.1 x.2.1, fun r => ((r, ()), (()))⟩
theorem impl_cell.valid : Valid Try.prog 109 impl_cell.con := fn_valid (f := impl_cell.fn) (E := impl_cell.E) (enc := impl_cell.enc) ⟨ttOk, (conCons impl_order.valid conNil)⟩ (Checked.mixed Try.checked) ⟨Try.func109, by kernel_rfl, by kernel_rfl, by kernel_rfl, by kernel_rfl, by decide, by kernel_rfl, by kernel_rfl⟩ (fun _ => rfl)
end Go.Proofs.Ytjknpaplgclflaa.P
set_option linter.unusedVariables false
namespace Go.Proofs.Ytjknpaplgclflaa.P
open Go Go.RowKit Go.Proofs.Ytjknpaplgclflaa.D
noncomputable def impl_Cochain_at.E : Env := { tt := TT, con := [(109, impl_cell.con)], frz := [], rows := [], live := [], n := 18, pin := 0, nils := [] }
noncomputable def impl_Cochain_at.fn : D.Fn := { body := Try.f108.body.getD .skip, res := Try.f108.results.toList, ins := [.agg [.v (.int .i64), .v (.sl 2 (.int .i64))], .agg [.v (.sl 25 (.sl 2 (.int .i64)))], .one (.v (.sl 2 (.int .i64)))], outs := [.one (.v (.int .i64))] }
def impl_Cochain_at.enc (y : lsd (flats impl_Cochain_at.fn.outs) × lsd (ios impl_Cochain_at.fn.ins)) : Int := y.1.1
noncomputable def impl_Cochain_at.f (a0_0 : Int) (l0_1 : List Int) (l1_0 : List (List Int)) (l2 : List Int) : Option Int := denF impl_Cochain_at.E impl_Cochain_at.fn impl_Cochain_at.enc (a0_0, l0_1, l1_0, l2, ())
set_option maxRecDepth 100000 in
theorem impl_Cochain_at.f_eq (a0_0 : Int) (l0_1 : List Int) (l1_0 : List (List Int)) (l2 : List Int) : impl_Cochain_at.f a0_0 l0_1 l1_0 l2 = (impl_cell.f l1_0 l2).bind fun t10 => if t10 ≥ 0 then (if 0 ≤ t10 then (if t10 < (l0_1.length : Int) then (some (rd l0_1 t10)) else none) else none) else (some 0) := by kernel_rfl
noncomputable def impl_Cochain_at.con : Con := ⟨impl_Cochain_at.fn.ins, impl_Cochain_at.fn.outs, Int, fun x => impl_Cochain_at.f x.1 x.2.1 x.2.2.1 x.2.2.2.1, fun r => ((r, ()), (()))⟩
theorem impl_Cochain_at.valid : Valid Try.prog 108 impl_Cochain_at.con := fn_valid (f := impl_Cochain_at.fn) (E := impl_Cochain_at.E) (enc := impl_Cochain_at.enc) ⟨ttOk, (conCons impl_cell.valid conNil)⟩ (Checked.mixed Try.checked) ⟨Try.func108, by kernel_rfl, by kernel_rfl, by kernel_rfl, by kernel_rfl, by decide, by kernel_rfl, by kernel_rfl⟩ (fun _ => rfl)
end Go.Proofs.Ytjknpaplgclflaa.P
set_option linter.unusedVariables false
namespace Go.Proofs.Ytjknpaplgclflaa.P
open Go Go.RowKit Go.Proofs.Ytjknpaplgclflaa.D
noncomputable def impl_boundaryAt.E : Env := { tt := TT, con := [(108, impl_Cochain_at.con), (75, impl_Group_times.con)], frz := [], rows := [], live := [(5, [3, 4, 6, 9, 10, 11, 30, 31])], n := 79, pin := 0, nils := [] }
noncomputable def impl_boundaryAt.fn : D.Fn := { body := Try.f105.body.getD .skip, res := Try.f105.results.toList, ins := [.agg [.v (.sl 25 (.sl 2 (.int .i64)))], .agg [.v (.int .i64), .v (.sl 2 (.int .i64))], .agg [.v (.int .i64), .v (.sl 2 (.int .i64))], .one (.v (.sl 2 (.int .i64)))], outs := [.one (.v (.int .i64))] }
def impl_boundaryAt.enc (y : lsd (flats impl_boundaryAt.fn.outs) × lsd (ios impl_boundaryAt.fn.ins)) : Int := y.1.1
noncomputable def impl_boundaryAt.f (l0_0 : List (List Int)) (a1_0 : Int) (l1_1 : List Int) (a2_0 : Int) (l2_1 : List Int) (l3 : List Int) : Option Int := denF impl_boundaryAt.E impl_boundaryAt.fn impl_boundaryAt.enc (l0_0, a1_0, l1_1, a2_0, l2_1, l3, ())
noncomputable def impl_boundaryAt.l0 (x3 : List Int) (x9 : Int) (x10 : Int) (x11 : Int) (x30 : Int) (x31 : Int) (b0_0 : List (List Int)) (b1_0 : Int) (b1_1 : List Int) : Option Int := denAt impl_boundaryAt.E impl_boundaryAt.fn impl_boundaryAt.enc [1, 1, 1, 1, 0, 1, 0] { fr := [(3, .lf (.sl (.int .i64) x3)), (4, .lf (.box 0 0)), (6, .lf (.box 1 0)), (9, .lf (.int .i64 x9)), (10, .lf (.int .i64 x10)), (11, .lf (.int .i64 x11)), (30, .lf (.int .i64 x30)), (31, .lf (.int .i64 x31))], ob := [(0, .box 32 false [.sl (.sl 2 (.int .i64)) b0_0]), (1, .box 106 false [.int .i64 b1_0, .sl (.int .i64) b1_1])], nx := 2 }
set_option maxRecDepth 100000 in
theorem impl_boundaryAt.f_eq (l0_0 : List (List Int)) (a1_0 : Int) (l1_1 : List Int) (a2_0 : Int) (l2_1 : List Int) (l3 : List Int) : impl_boundaryAt.f l0_0 a1_0 l1_1 a2_0 l2_1 l3 = if 0 < (l3.length : Int) then (if 0 ≤ rd l3 0 then (if rd l3 0 < (l1_1.length : Int) then (if 1 ≤ (l3.length : Int) then ((impl_Cochain_at.f a2_0 l2_1 l0_0 (l3.drop (1 : Int).toNat)).bind fun t28 => impl_boundaryAt.l0 l3 (wrapI ((l3.length : Int) - 1)) (wrapI ((rd l1_1 (rd l3 0)) * t28)) (-1) (wrapI ((l3.length : Int) - 1)) 0 l0_0 a2_0 l2_1) else none) else none) else none) else none := by kernel_rfl
set_option maxRecDepth 100000 in
theorem impl_boundaryAt.l0_eq (x3 : List Int) (x9 : Int) (x10 : Int) (x11 : Int) (x30 : Int) (x31 : Int) (b0_0 : List (List Int)) (b1_0 : Int) (b1_1 : List Int) : impl_boundaryAt.l0 x3 x9 x10 x11 x30 x31 b0_0 b1_0 b1_1 = if x31 < x30 then (if 0 ≤ x31 then (if x31 ≤ (x3.length : Int) then (if ([] : List Int).length + (x3.take (x31 : Int).toNat).length ≤ 17592186044416 then (if 0 ≤ x31 then (if x31 < (x3.length : Int) then (if 0 ≤ wrapI (x31 + 1) then (if wrapI (x31 + 1) < (x3.length : Int) then ((impl_Group_times.f b0_0 ([rd x3 x31, rd x3 (wrapI (x31 + 1))] : List Int)).bind fun t50 => if (([] : List Int) ++ (x3.take (x31 : Int).toNat)).length + ([t50] : List Int).length ≤ 17592186044416 then (if 0 ≤ wrapI (x31 + 2) then (if wrapI (x31 + 2) ≤ (x3.length : Int) then (if ((([] : List Int) ++ (x3.take (x31 : Int).toNat)) ++ ([t50] : List Int)).length + (x3.drop (wrapI (x31 + 2) : Int).toNat).length ≤ 17592186044416 then ((impl_Cochain_at.f b1_0 b1_1 b0_0 (((([] : List Int) ++ (x3.take (x31 : Int).toNat)) ++ ([t50] : List Int)) ++ (x3.drop (wrapI (x31 + 2) : Int).toNat))).bind fun t63 => impl_boundaryAt.l0 x3 x9 (wrapI (x10 + (wrapI (x11 * t63)))) (wrapI (0 - x11)) x30 (wrapI (x31 + 1)) b0_0 b1_0 b1_1) else none) else none) else none) else none) else none) else none) else none) else none) else none) else none) else none) else (if 0 ≤ x9 then (if x9 ≤ (x3.length : Int) then ((impl_Cochain_at.f b1_0 b1_1 b0_0 (x3.take (x9 : Int).toNat)).bind fun t76 => some (wrapI (x10 + (wrapI (x11 * t76))))) else none) else none) := (loop_unfold _ _ _ _).trans (by kernel_rfl)
noncomputable def impl_boundaryAt.con : Con := ⟨impl_boundaryAt.fn.ins, impl_boundaryAt.fn.outs, Int, fun x => impl_boundaryAt.f x.1 x.2.1 x.2.2.1 x.2.2.2.1 x.2.2.2.2.1 x.2.2.2.2.2.1, fun r => ((r, ()), (()))⟩
theorem impl_boundaryAt.valid : Valid Try.prog 105 impl_boundaryAt.con := fn_valid (f := impl_boundaryAt.fn) (E := impl_boundaryAt.E) (enc := impl_boundaryAt.enc) ⟨ttOk, (conCons impl_Cochain_at.valid (conCons impl_Group_times.valid conNil))⟩ (Checked.mixed Try.checked) ⟨Try.func105, by kernel_rfl, by kernel_rfl, by kernel_rfl, by kernel_rfl, by decide, by kernel_rfl, by kernel_rfl⟩ (fun _ => rfl)
end Go.Proofs.Ytjknpaplgclflaa.P
set_option linter.unusedVariables false
namespace Go.Proofs.Ytjknpaplgclflaa.P
open Go Go.RowKit Go.Proofs.Ytjknpaplgclflaa.D
noncomputable def impl_boundary_1.E : Env := { tt := TT, con := [(105, impl_boundaryAt.con)], frz := [], rows := [], live := [], n := 11, pin := 0, nils := [] }
noncomputable def impl_boundary_1.fn : D.Fn := { body := Try.f104.body.getD .skip, res := Try.f104.results.toList, ins := [.one (.v (.sl 2 (.int .i64))), .ptr true 32 [.v (.sl 25 (.sl 2 (.int .i64)))], .ptr true 34 [.v (.int .i64), .v (.sl 2 (.int .i64))], .ptr true 106 [.v (.int .i64), .v (.sl 2 (.int .i64))]], outs := [.one (.v (.int .i64))] }
def impl_boundary_1.enc (y : lsd (flats impl_boundary_1.fn.outs) × lsd (ios impl_boundary_1.fn.ins)) : Int := y.1.1
noncomputable def impl_boundary_1.f (l0 : List Int) (l1 : List (List Int)) (a2_0 : Int) (l2_1 : List Int) (a3_0 : Int) (l3_1 : List Int) : Option Int := denF impl_boundary_1.E impl_boundary_1.fn impl_boundary_1.enc (l0, l1, a2_0, l2_1, a3_0, l3_1, ())
set_option maxRecDepth 100000 in
theorem impl_boundary_1.f_eq (l0 : List Int) (l1 : List (List Int)) (a2_0 : Int) (l2_1 : List Int) (a3_0 : Int) (l3_1 : List Int) : impl_boundary_1.f l0 l1 a2_0 l2_1 a3_0 l3_1 = (impl_boundaryAt.f l1 a2_0 l2_1 a3_0 l3_1 l0).bind fun t10 => some t10 := by kernel_rfl
noncomputable def impl_boundary_1.con : Con := ⟨impl_boundary_1.fn.ins, impl_boundary_1.fn.outs, Int, fun x => impl_boundary_1.f x.1 x.2.1 x.2.2.1 x.2.2.2.1 x.2.2.2.2.1 x.2.2.2.2.2.1, fun r => ((r, ()), (()))⟩
theorem impl_boundary_1.valid : Valid Try.prog 104 impl_boundary_1.con := fn_valid (f := impl_boundary_1.fn) (E := impl_boundary_1.E) (enc := impl_boundary_1.enc) ⟨ttOk, (conCons impl_boundaryAt.valid conNil)⟩ (Checked.mixed Try.checked) ⟨Try.func104, by kernel_rfl, by kernel_rfl, by kernel_rfl, by kernel_rfl, by decide, by kernel_rfl, by kernel_rfl⟩ (fun _ => rfl)
end Go.Proofs.Ytjknpaplgclflaa.P
set_option linter.unusedVariables false
namespace Go.Proofs.Ytjknpaplgclflaa.P
open Go Go.RowKit Go.Proofs.Ytjknpaplgclflaa.D
noncomputable def impl_boundary.E : Env := { tt := TT, con := [(103, impl_told.con), (104, impl_boundary_1.con)], frz := [], rows := [], live := [], n := 15, pin := 0, nils := [] }
noncomputable def impl_boundary.fn : D.Fn := { body := Try.f91.body.getD .skip, res := Try.f91.results.toList, ins := [.agg [.v (.sl 25 (.sl 2 (.int .i64)))], .agg [.v (.int .i64), .v (.sl 2 (.int .i64))], .agg [.v (.int .i64), .v (.sl 2 (.int .i64))]], outs := [.agg [.v (.int .i64), .own 2 true (.int .i64)]] }
def impl_boundary.enc (y : lsd (flats impl_boundary.fn.outs) × lsd (ios impl_boundary.fn.ins)) : Int × (List Int) := (y.1.1, y.1.2.1)
noncomputable def impl_boundary.f (l0_0 : List (List Int)) (a1_0 : Int) (l1_1 : List Int) (a2_0 : Int) (l2_1 : List Int) : Option (Int × (List Int)) := denF impl_boundary.E impl_boundary.fn impl_boundary.enc (l0_0, a1_0, l1_1, a2_0, l2_1, ())
set_option maxRecDepth 100000 in
theorem impl_boundary.f_eq (l0_0 : List (List Int)) (a1_0 : Int) (l1_1 : List Int) (a2_0 : Int) (l2_1 : List Int) : impl_boundary.f l0_0 a1_0 l1_1 a2_0 l2_1 = (impl_told.f l0_0 a1_0 (wrapI (a2_0 + 1)) (fun z0 => (impl_boundary_1.f z0 l0_0 a1_0 l1_1 a2_0 l2_1).map fun z => z)).bind fun t14 => some (t14.1, t14.2) := by kernel_rfl
noncomputable def impl_boundary.con : Con := ⟨impl_boundary.fn.ins, impl_boundary.fn.outs, Int × (List Int), fun x => impl_boundary.f x.1 x.2.1 x.2.2.1 x.2.2.2.1 x.2.2.2.2.1, fun r => ((r.1, r.2, ()), (()))⟩
theorem impl_boundary.valid : Valid Try.prog 91 impl_boundary.con := fn_valid (f := impl_boundary.fn) (E := impl_boundary.E) (enc := impl_boundary.enc) ⟨ttOk, (conCons impl_told.valid (conCons impl_boundary_1.valid conNil))⟩ (Checked.mixed Try.checked) ⟨Try.func91, by kernel_rfl, by kernel_rfl, by kernel_rfl, by kernel_rfl, by decide, by kernel_rfl, by kernel_rfl⟩ (fun _ => rfl)
end Go.Proofs.Ytjknpaplgclflaa.P
set_option linter.unusedVariables false
namespace Go.Proofs.Ytjknpaplgclflaa.P
open Go Go.RowKit Go.Proofs.Ytjknpaplgclflaa.D
noncomputable def impl_bounded.E : Env := { tt := TT, con := [(87, impl_cells.con), (88, impl_newSpan.con), (89, impl_zero.con), (91, impl_boundary.con), (57, slices_Concat_int64.con), (90, impl_span_put.con)], frz := [46], rows := [], live := [(5, [2, 3, 4, 8, 10, 26, 27])], n := 51, pin := 0, nils := [] }
noncomputable def impl_bounded.fn : D.Fn := { body := Try.f66.body.getD .skip, res := Try.f66.results.toList, ins := [.agg [.v (.sl 25 (.sl 2 (.int .i64)))], .agg [.v (.int .i64), .v (.sl 2 (.int .i64))], .one (.v (.int .i64))], outs := [.ptr false 83 [.v (.int .i64), .own 25 false (.sl 1000002 (.int .i64))], .one (.v (.int .i64))] }
def impl_bounded.enc (y : lsd (flats impl_bounded.fn.outs) × lsd (ios impl_bounded.fn.ins)) : Int × (List (List Int)) × Int := (y.1.1, y.1.2.1, y.1.2.2.1)
noncomputable def impl_bounded.f (l0_0 : List (List Int)) (a1_0 : Int) (l1_1 : List Int) (a2 : Int) : Option (Int × (List (List Int)) × Int) := denF impl_bounded.E impl_bounded.fn impl_bounded.enc (l0_0, a1_0, l1_1, a2, ())
noncomputable def impl_bounded.l0 (x2 : Int) (x8 : Int) (x26 : Int) (x27 : Int) (b0_0 : List (List Int)) (b1_0 : Int) (b1_1 : List Int) (b2_0 : Int) (r3 : List (List Int)) : Option (Int × (List (List Int)) × Int) := denAt impl_bounded.E impl_bounded.fn impl_bounded.enc [1, 1, 1, 1, 0, 1, 0] { fr := [(2, .lf (.int .i64 x2)), (3, .lf (.box 0 0)), (4, .lf (.box 1 0)), (8, .lf (.int .i64 x8)), (10, .lf (.box 2 0)), (26, .lf (.int .i64 x26)), (27, .lf (.int .i64 x27))], ob := [(0, .box 32 false [.sl (.sl 2 (.int .i64)) b0_0]), (1, .box 34 false [.int .i64 b1_0, .sl (.int .i64) b1_1]), (2, .box 83 false [.int .i64 b2_0, .own 3]), (3, .row 25 false (.sl 1000002 (.int .i64)) r3)], nx := 4 }
set_option maxRecDepth 100000 in
theorem impl_bounded.f_eq (l0_0 : List (List Int)) (a1_0 : Int) (l1_1 : List Int) (a2 : Int) : impl_bounded.f l0_0 a1_0 l1_1 a2 = (impl_cells.f l0_0 (wrapI (a2 + 1))).bind fun t16 => (impl_cells.f l0_0 a2).bind fun t19 => (impl_newSpan.f a1_0 (wrapI (t16 + t19))).bind fun t25 => impl_bounded.l0 a2 t16 t19 0 l0_0 a1_0 l1_1 t25.1 t25.2 := by kernel_rfl
set_option maxRecDepth 100000 in
theorem impl_bounded.l0_eq (x2 : Int) (x8 : Int) (x26 : Int) (x27 : Int) (b0_0 : List (List Int)) (b1_0 : Int) (b1_1 : List Int) (b2_0 : Int) (r3 : List (List Int)) : impl_bounded.l0 x2 x8 x26 x27 b0_0 b1_0 b1_1 b2_0 r3 = if x27 < x26 then ((impl_zero.f b0_0 x2).bind fun t32 => if 0 ≤ x27 then (if x27 < (t32.2.length : Int) then (if 0 ≤ x27 then (if x27 < (t32.2.length : Int) then ((impl_boundary.f b0_0 b1_0 b1_1 t32.1 (t32.2.set (x27 : Int).toNat 1)).bind fun t41 => (slices_Concat_int64.f ([t41.2, t32.2.set (x27 : Int).toNat 1] : List (List Int))).bind fun t46 => (impl_span_put.f b2_0 r3 t46).bind fun t47 => impl_bounded.l0 x2 x8 x26 (wrapI (x27 + 1)) b0_0 b1_0 b1_1 t47.1 t47.2) else none) else none) else none) else none) else (some (b2_0, r3, x8)) := (loop_unfold _ _ _ _).trans (by kernel_rfl)
noncomputable def impl_bounded.con : Con := ⟨impl_bounded.fn.ins, impl_bounded.fn.outs, Int × (List (List Int)) × Int, fun x => impl_bounded.f x.1 x.2.1 x.2.2.1 x.2.2.2.1, fun r => ((r.1, r.2.1, r.2.2, ()), (()))⟩
theorem impl_bounded.valid : Valid Try.prog 66 impl_bounded.con := fn_valid (f := impl_bounded.fn) (E := impl_bounded.E) (enc := impl_bounded.enc) ⟨ttOk, (conCons impl_cells.valid (conCons impl_newSpan.valid (conCons impl_zero.valid (conCons impl_boundary.valid (conCons slices_Concat_int64.valid (conCons impl_span_put.valid conNil))))))⟩ (Checked.mixed Try.checked) ⟨Try.func66, by kernel_rfl, by kernel_rfl, by kernel_rfl, by kernel_rfl, by decide, by kernel_rfl, by kernel_rfl⟩ (fun _ => rfl)
end Go.Proofs.Ytjknpaplgclflaa.P
