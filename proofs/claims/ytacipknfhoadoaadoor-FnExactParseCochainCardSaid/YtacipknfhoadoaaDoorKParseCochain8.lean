/- What the proof of the law ParseCochain stands on, part 8: words, each Go function's Lean function, and that the Go code comes to its answers; no condition. (Packed by wip/myprint/pack.py out of what the kit's printer wrote, its words among it, partly by our patches of it, and out of texts of this session.) -/
import Derived.Test.YtacipknfhoadoaaDoorKParseCochain3
import Derived.Test.YtacipknfhoadoaaDoorKParseCochain4
import Derived.Test.YtacipknfhoadoaaDoorKParseCochain6
import Derived.Test.YtacipknfhoadoaaDoorKParseCochain7
set_option linter.unusedVariables false
namespace Go.Proofs.YtacipknfhoadoaaDoor.P
open Go Go.RowKit Go.Proofs.YtacipknfhoadoaaDoor.D
noncomputable def strings_Count.f (a0 a1 : ByteArray) : Option Int := if a1.size = 1 then some ((Lib.countByte a0.data.toList (a1.data.getD 0 0) : Int)) else none
noncomputable def strings_Count.con : Con := ⟨[.one (.v .str), .one (.v .str)], [.one (.v (.int .i64))], Int, fun x => strings_Count.f x.1 x.2.1, fun r => ((r, ()), (()))⟩
theorem strings_Count.valid : Valid Tryd.prog 76 strings_Count.con := valid_str2 (F := strings_Count.f) ⟨_, Tryd.func76, by kernel_rfl, by kernel_rfl⟩ fun x y r w h => by
 unfold strings_Count.f at h
 split at h
 ·
  rename_i hc
  cases h
  generalize hb : y.data.getD 0 0 = b
  have hy := one_byte hc
  rw [hb] at hy
  subst hy
  exact Tryd.strings_Count_one x b w
 ·
  cases h
end Go.Proofs.YtacipknfhoadoaaDoor.P
set_option linter.unusedVariables false
namespace Go.Proofs.YtacipknfhoadoaaDoor.P
open Go Go.RowKit Go.Proofs.YtacipknfhoadoaaDoor.D
noncomputable def strings_Index.E : Env := { tt := TT, con := [(74, stringslite_Index.con)], frz := [], rows := [], live := [], n := 8, pin := 0, nils := [] }
noncomputable def strings_Index.fn : D.Fn := { body := Tryd.f77.body.getD .skip, res := Tryd.f77.results.toList, ins := [.one (.v .str), .one (.v .str)], outs := [.one (.v (.int .i64))] }
def strings_Index.enc (y : lsd (flats strings_Index.fn.outs) × lsd (ios strings_Index.fn.ins)) : Int := y.1.1
noncomputable def strings_Index.f (a0 : ByteArray) (a1 : ByteArray) : Option Int := denF strings_Index.E strings_Index.fn strings_Index.enc (a0, a1, ())
set_option maxRecDepth 100000 in
theorem strings_Index.f_eq (a0 : ByteArray) (a1 : ByteArray) : strings_Index.f a0 a1 = (stringslite_Index.f a0 a1).bind fun t7 => some t7 := by kernel_rfl
noncomputable def strings_Index.con : Con := ⟨strings_Index.fn.ins, strings_Index.fn.outs, Int, fun x => strings_Index.f x.1 x.2.1, fun r => ((r, ()), (()))⟩
theorem strings_Index.valid : Valid Tryd.prog 77 strings_Index.con := fn_valid (f := strings_Index.fn) (E := strings_Index.E) (enc := strings_Index.enc) ⟨ttOk, (conCons stringslite_Index.valid conNil)⟩ (Checked.mixed Tryd.checked) ⟨Tryd.func77, by kernel_rfl, by kernel_rfl, by kernel_rfl, by kernel_rfl, by decide, by kernel_rfl, by kernel_rfl⟩ (fun _ => rfl)
end Go.Proofs.YtacipknfhoadoaaDoor.P
set_option linter.unusedVariables false
namespace Go.Proofs.YtacipknfhoadoaaDoor.P
open Go Go.RowKit Go.Proofs.YtacipknfhoadoaaDoor.D
noncomputable def strings_genSplit.E : Env := { tt := TT, con := [(76, strings_Count.con), (77, strings_Index.con)], frz := [], rows := [], live := [(11, [0, 1, 2, 3, 9, 10])], n := 66, pin := 0, nils := [] }
noncomputable def strings_genSplit.fn : D.Fn := { body := Tryd.f62.body.getD .skip, res := Tryd.f62.results.toList, ins := [.one (.v .str), .one (.v .str), .one (.v (.int .i64)), .one (.v (.int .i64))], outs := [.one (.own 9 true .str)] }
def strings_genSplit.enc (y : lsd (flats strings_genSplit.fn.outs) × lsd (ios strings_genSplit.fn.ins)) : (List ByteArray) := y.1.1
noncomputable def strings_genSplit.f (a0 : ByteArray) (a1 : ByteArray) (a2 : Int) (a3 : Int) : Option (List ByteArray) := denF strings_genSplit.E strings_genSplit.fn strings_genSplit.enc (a0, a1, a2, a3, ())
noncomputable def strings_genSplit.l0 (x0 : ByteArray) (x1 : ByteArray) (x2 : Int) (x3 : Int) (x10 : Int) (r0 : List ByteArray) : Option (List ByteArray) := denAt strings_genSplit.E strings_genSplit.fn strings_genSplit.enc [1, 1, 1, 1, 1, 1, 1, 1, 0, 0] { fr := [(0, .lf (.str x0)), (1, .lf (.str x1)), (2, .lf (.int .i64 x2)), (3, .lf (.int .i64 x3)), (9, .lf (.own 0)), (10, .lf (.int .i64 x10))], ob := [(0, .row 9 true .str r0)], nx := 1 }
set_option maxRecDepth 100000 in
theorem strings_genSplit.f_eq (a0 : ByteArray) (a1 : ByteArray) (a2 : Int) (a3 : Int) : strings_genSplit.f a0 a1 a2 a3 = if a3 = 0 then (some ([] : List ByteArray)) else (if a1 = (⟨#[]⟩ : ByteArray) then none else (if a3 < 0 then ((strings_Count.f a0 a1).bind fun t23 => if (if (wrapI ((a0.size : Int) + 1)) < (wrapI (t23 + 1)) then (wrapI ((a0.size : Int) + 1)) else (wrapI (t23 + 1))) = (if (wrapI ((a0.size : Int) + 1)) < (wrapI (t23 + 1)) then (wrapI ((a0.size : Int) + 1)) else (wrapI (t23 + 1))) then (if 0 ≤ (if (wrapI ((a0.size : Int) + 1)) < (wrapI (t23 + 1)) then (wrapI ((a0.size : Int) + 1)) else (wrapI (t23 + 1))) then (if ((if (wrapI ((a0.size : Int) + 1)) < (wrapI (t23 + 1)) then (wrapI ((a0.size : Int) + 1)) else (wrapI (t23 + 1))) : Int).toNat ≤ 8796093022208 then (strings_genSplit.l0 a0 a1 a2 (wrapI ((if (wrapI ((a0.size : Int) + 1)) < (wrapI (t23 + 1)) then (wrapI ((a0.size : Int) + 1)) else (wrapI (t23 + 1))) - 1)) 0 (List.replicate ((if (wrapI ((a0.size : Int) + 1)) < (wrapI (t23 + 1)) then (wrapI ((a0.size : Int) + 1)) else (wrapI (t23 + 1))) : Int).toNat ByteArray.empty)) else none) else none) else none) else (if (if (wrapI ((a0.size : Int) + 1)) < a3 then (wrapI ((a0.size : Int) + 1)) else a3) = (if (wrapI ((a0.size : Int) + 1)) < a3 then (wrapI ((a0.size : Int) + 1)) else a3) then (if 0 ≤ (if (wrapI ((a0.size : Int) + 1)) < a3 then (wrapI ((a0.size : Int) + 1)) else a3) then (if ((if (wrapI ((a0.size : Int) + 1)) < a3 then (wrapI ((a0.size : Int) + 1)) else a3) : Int).toNat ≤ 8796093022208 then (strings_genSplit.l0 a0 a1 a2 (wrapI ((if (wrapI ((a0.size : Int) + 1)) < a3 then (wrapI ((a0.size : Int) + 1)) else a3) - 1)) 0 (List.replicate ((if (wrapI ((a0.size : Int) + 1)) < a3 then (wrapI ((a0.size : Int) + 1)) else a3) : Int).toNat ByteArray.empty)) else none) else none) else none))) := by kernel_rfl
set_option maxRecDepth 100000 in
theorem strings_genSplit.l0_eq (x0 : ByteArray) (x1 : ByteArray) (x2 : Int) (x3 : Int) (x10 : Int) (r0 : List ByteArray) : strings_genSplit.l0 x0 x1 x2 x3 x10 r0 = if x10 < x3 then ((strings_Index.f x0 x1).bind fun t39 => if t39 < 0 then (if 0 ≤ x10 then (if x10 < (r0.length : Int) then (if 0 ≤ x10 then (if x10 < (r0.length : Int) then (if 0 < ((r0.set (x10 : Int).toNat x0).length : Int) then (if 0 ≤ wrapI (x10 + 1) then (if wrapI (x10 + 1) ≤ ((r0.set (x10 : Int).toNat x0).length : Int) then (some ((r0.set (x10 : Int).toNat x0).take (wrapI (x10 + 1) : Int).toNat)) else none) else none) else none) else none) else none) else none) else none) else (if 0 ≤ wrapI (t39 + x2) then (if wrapI (t39 + x2) ≤ (x0.size : Int) then (if 0 ≤ x10 then (if x10 < (r0.length : Int) then (if 0 ≤ x10 then (if x10 < (r0.length : Int) then (if 0 ≤ wrapI (t39 + (x1.size : Int)) then (if wrapI (t39 + (x1.size : Int)) ≤ (x0.size : Int) then (strings_genSplit.l0 (x0.extract (wrapI (t39 + (x1.size : Int)) : Int).toNat x0.size) x1 x2 x3 (wrapI (x10 + 1)) (r0.set (x10 : Int).toNat (x0.extract 0 (wrapI (t39 + x2) : Int).toNat))) else none) else none) else none) else none) else none) else none) else none) else none)) else (if 0 ≤ x10 then (if x10 < (r0.length : Int) then (if 0 ≤ x10 then (if x10 < (r0.length : Int) then (if 0 < ((r0.set (x10 : Int).toNat x0).length : Int) then (if 0 ≤ wrapI (x10 + 1) then (if wrapI (x10 + 1) ≤ ((r0.set (x10 : Int).toNat x0).length : Int) then (some ((r0.set (x10 : Int).toNat x0).take (wrapI (x10 + 1) : Int).toNat)) else none) else none) else none) else none) else none) else none) else none) := (loop_unfold _ _ _ _).trans (by kernel_rfl)
noncomputable def strings_genSplit.con : Con := ⟨strings_genSplit.fn.ins, strings_genSplit.fn.outs, (List ByteArray), fun x => strings_genSplit.f x.1 x.2.1 x.2.2.1 x.2.2.2.1, fun r => ((r, ()), (()))⟩
theorem strings_genSplit.valid : Valid Tryd.prog 62 strings_genSplit.con := fn_valid (f := strings_genSplit.fn) (E := strings_genSplit.E) (enc := strings_genSplit.enc) ⟨ttOk, (conCons strings_Count.valid (conCons strings_Index.valid conNil))⟩ (Checked.mixed Tryd.checked) ⟨Tryd.func62, by kernel_rfl, by kernel_rfl, by kernel_rfl, by kernel_rfl, by decide, by kernel_rfl, by kernel_rfl⟩ (fun _ => rfl)
end Go.Proofs.YtacipknfhoadoaaDoor.P
set_option linter.unusedVariables false
namespace Go.Proofs.YtacipknfhoadoaaDoor.P
open Go Go.RowKit Go.Proofs.YtacipknfhoadoaaDoor.D
noncomputable def strings_Split.E : Env := { tt := TT, con := [(62, strings_genSplit.con)], frz := [], rows := [], live := [], n := 8, pin := 0, nils := [] }
noncomputable def strings_Split.fn : D.Fn := { body := Tryd.f50.body.getD .skip, res := Tryd.f50.results.toList, ins := [.one (.v .str), .one (.v .str)], outs := [.one (.own 9 true .str)] }
def strings_Split.enc (y : lsd (flats strings_Split.fn.outs) × lsd (ios strings_Split.fn.ins)) : (List ByteArray) := y.1.1
noncomputable def strings_Split.f (a0 : ByteArray) (a1 : ByteArray) : Option (List ByteArray) := denF strings_Split.E strings_Split.fn strings_Split.enc (a0, a1, ())
set_option maxRecDepth 100000 in
theorem strings_Split.f_eq (a0 : ByteArray) (a1 : ByteArray) : strings_Split.f a0 a1 = (strings_genSplit.f a0 a1 0 (-1)).bind fun t7 => some t7 := by kernel_rfl
noncomputable def strings_Split.con : Con := ⟨strings_Split.fn.ins, strings_Split.fn.outs, (List ByteArray), fun x => strings_Split.f x.1 x.2.1, fun r => ((r, ()), (()))⟩
theorem strings_Split.valid : Valid Tryd.prog 50 strings_Split.con := fn_valid (f := strings_Split.fn) (E := strings_Split.E) (enc := strings_Split.enc) ⟨ttOk, (conCons strings_genSplit.valid conNil)⟩ (Checked.mixed Tryd.checked) ⟨Tryd.func50, by kernel_rfl, by kernel_rfl, by kernel_rfl, by kernel_rfl, by decide, by kernel_rfl, by kernel_rfl⟩ (fun _ => rfl)
end Go.Proofs.YtacipknfhoadoaaDoor.P
set_option linter.unusedVariables false
namespace Go.Proofs.YtacipknfhoadoaaDoor.P
open Go Go.RowKit Go.Proofs.YtacipknfhoadoaaDoor.D
noncomputable def impl_headed.E : Env := { tt := TT, con := [(48, strings_Cut.con), (49, impl_number.con), (50, strings_Split.con)], frz := [], rows := [], live := [(9, [8, 10, 43, 44, 45])], n := 63, pin := 0, nils := [] }
noncomputable def impl_headed.fn : D.Fn := { body := Tryd.f34.body.getD .skip, res := Tryd.f34.results.toList, ins := [.one (.v .str)], outs := [.one (.v (.int .i64)), .one (.own 2 true (.int .i64)), .one (.v .bool)] }
def impl_headed.enc (y : lsd (flats impl_headed.fn.outs) × lsd (ios impl_headed.fn.ins)) : Int × (List Int) × Bool := (y.1.1, y.1.2.1, y.1.2.2.1)
noncomputable def impl_headed.f (a0 : ByteArray) : Option (Int × (List Int) × Bool) := denF impl_headed.E impl_headed.fn impl_headed.enc (a0, ())
noncomputable def impl_headed.l0 (x8 : Int) (x44 : Int) (x45 : Int) (r0 : List Int) (r1 : List ByteArray) : Option (Int × (List Int) × Bool) := denAt impl_headed.E impl_headed.fn impl_headed.enc [1, 1, 1, 1, 1, 1, 0, 1, 0] { fr := [(8, .lf (.int .i64 x8)), (10, .lf (.own 0)), (43, .lf (.own 1)), (44, .lf (.int .i64 x44)), (45, .lf (.int .i64 x45))], ob := [(0, .row 2 true (.int .i64) r0), (1, .row 9 true .str r1)], nx := 2 }
set_option maxRecDepth 100000 in
theorem impl_headed.f_eq (a0 : ByteArray) : impl_headed.f a0 = (strings_Cut.f a0 (⟨#[58]⟩ : ByteArray)).bind fun t17 => (impl_number.f t17.1).bind fun t23 => if t17.2.2 = true then (if t23.2 = true then (if (t17.2.1.size : Int) > 1029 then (some (0, ([] : List Int), false)) else (if t17.2.1 = (⟨#[]⟩ : ByteArray) then (some (t23.1, ([] : List Int), true)) else ((strings_Split.f t17.2.1 (⟨#[44]⟩ : ByteArray)).bind fun t43 => impl_headed.l0 t23.1 (t43.length : Int) 0 ([] : List Int) t43))) else (some (0, ([] : List Int), false))) else (some (0, ([] : List Int), false)) := by kernel_rfl
set_option maxRecDepth 100000 in
theorem impl_headed.l0_eq (x8 : Int) (x44 : Int) (x45 : Int) (r0 : List Int) (r1 : List ByteArray) : impl_headed.l0 x8 x44 x45 r0 r1 = if x45 < x44 then (if 0 ≤ x45 then (if x45 < (r1.length : Int) then (if 0 ≤ x45 then (if x45 < (r1.length : Int) then ((impl_number.f (Ty.rd .str r1 x45)).bind fun t51 => if t51.2 = true then (if r0.length + ([t51.1] : List Int).length ≤ 17592186044416 then (impl_headed.l0 x8 x44 (wrapI (x45 + 1)) (r0 ++ ([t51.1] : List Int)) r1) else none) else (some (0, ([] : List Int), false))) else none) else none) else none) else none) else (some (x8, r0, true)) := (loop_unfold _ _ _ _).trans (by kernel_rfl)
noncomputable def impl_headed.con : Con := ⟨impl_headed.fn.ins, impl_headed.fn.outs, Int × (List Int) × Bool, fun x => impl_headed.f x.1, fun r => ((r.1, r.2.1, r.2.2, ()), (()))⟩
theorem impl_headed.valid : Valid Tryd.prog 34 impl_headed.con := fn_valid (f := impl_headed.fn) (E := impl_headed.E) (enc := impl_headed.enc) ⟨ttOk, (conCons strings_Cut.valid (conCons impl_number.valid (conCons strings_Split.valid conNil)))⟩ (Checked.mixed Tryd.checked) ⟨Tryd.func34, by kernel_rfl, by kernel_rfl, by kernel_rfl, by kernel_rfl, by decide, by kernel_rfl, by kernel_rfl⟩ (fun _ => rfl)
end Go.Proofs.YtacipknfhoadoaaDoor.P
set_option linter.unusedVariables false
namespace Go.Proofs.YtacipknfhoadoaaDoor.P
open Go Go.RowKit Go.Proofs.YtacipknfhoadoaaDoor.D
noncomputable def impl_isDegree.E : Env := { tt := TT, con := [], frz := [], rows := [], live := [], n := 9, pin := 0, nils := [] }
noncomputable def impl_isDegree.fn : D.Fn := { body := Tryd.f51.body.getD .skip, res := Tryd.f51.results.toList, ins := [.one (.v (.int .i64))], outs := [.one (.v .bool)] }
def impl_isDegree.enc (y : lsd (flats impl_isDegree.fn.outs) × lsd (ios impl_isDegree.fn.ins)) : Bool := y.1.1
noncomputable def impl_isDegree.f (a0 : Int) : Option Bool := denF impl_isDegree.E impl_isDegree.fn impl_isDegree.enc (a0, ())
set_option maxRecDepth 100000 in
theorem impl_isDegree.f_eq (a0 : Int) : impl_isDegree.f a0 = if a0 ≥ 0 then (some (decide (a0 ≤ 3))) else (some false) := by kernel_rfl
noncomputable def impl_isDegree.con : Con := ⟨impl_isDegree.fn.ins, impl_isDegree.fn.outs, Bool, fun x => impl_isDegree.f x.1, fun r => ((r, ()), (()))⟩
theorem impl_isDegree.valid : Valid Tryd.prog 51 impl_isDegree.con := fn_valid (f := impl_isDegree.fn) (E := impl_isDegree.E) (enc := impl_isDegree.enc) ⟨ttOk, conNil⟩ (Checked.mixed Tryd.checked) ⟨Tryd.func51, by kernel_rfl, by kernel_rfl, by kernel_rfl, by kernel_rfl, by decide, by kernel_rfl, by kernel_rfl⟩ (fun _ => rfl)
end Go.Proofs.YtacipknfhoadoaaDoor.P
set_option linter.unusedVariables false
namespace Go.Proofs.YtacipknfhoadoaaDoor.P
open Go Go.RowKit Go.Proofs.YtacipknfhoadoaaDoor.D
noncomputable def impl_power.E : Env := { tt := TT, con := [], frz := [], rows := [], live := [(3, [0, 5, 6, 7])], n := 14, pin := 0, nils := [] }
noncomputable def impl_power.fn : D.Fn := { body := Tryd.f63.body.getD .skip, res := Tryd.f63.results.toList, ins := [.one (.v (.int .i64)), .one (.v (.int .i64))], outs := [.one (.v (.int .i64))] }
def impl_power.enc (y : lsd (flats impl_power.fn.outs) × lsd (ios impl_power.fn.ins)) : Int := y.1.1
noncomputable def impl_power.f (a0 : Int) (a1 : Int) : Option Int := denF impl_power.E impl_power.fn impl_power.enc (a0, a1, ())
noncomputable def impl_power.l0 (x0 : Int) (x5 : Int) (x6 : Int) (x7 : Int) : Option Int := denAt impl_power.E impl_power.fn impl_power.enc [1, 1, 0, 1, 0] { fr := [(0, .lf (.int .i64 x0)), (5, .lf (.int .i64 x5)), (6, .lf (.int .i64 x6)), (7, .lf (.int .i64 x7))], ob := [], nx := 0 }
set_option maxRecDepth 100000 in
theorem impl_power.f_eq (a0 : Int) (a1 : Int) : impl_power.f a0 a1 = impl_power.l0 a0 1 a1 0 := by kernel_rfl
set_option maxRecDepth 100000 in
theorem impl_power.l0_eq (x0 : Int) (x5 : Int) (x6 : Int) (x7 : Int) : impl_power.l0 x0 x5 x6 x7 = if x7 < x6 then (impl_power.l0 x0 (wrapI (x5 * x0)) x6 (wrapI (x7 + 1))) else (some x5) := (loop_unfold _ _ _ _).trans (by kernel_rfl)
noncomputable def impl_power.con : Con := ⟨impl_power.fn.ins, impl_power.fn.outs, Int, fun x => impl_power.f x.1 x.2.1, fun r => ((r, ()), (()))⟩
theorem impl_power.valid : Valid Tryd.prog 63 impl_power.con := fn_valid (f := impl_power.fn) (E := impl_power.E) (enc := impl_power.enc) ⟨ttOk, conNil⟩ (Checked.mixed Tryd.checked) ⟨Tryd.func63, by kernel_rfl, by kernel_rfl, by kernel_rfl, by kernel_rfl, by decide, by kernel_rfl, by kernel_rfl⟩ (fun _ => rfl)
end Go.Proofs.YtacipknfhoadoaaDoor.P
set_option linter.unusedVariables false
namespace Go.Proofs.YtacipknfhoadoaaDoor.P
open Go Go.RowKit Go.Proofs.YtacipknfhoadoaaDoor.D
noncomputable def impl_cells.E : Env := { tt := TT, con := [(64, impl_order.con), (63, impl_power.con)], frz := [], rows := [], live := [], n := 10, pin := 0, nils := [] }
noncomputable def impl_cells.fn : D.Fn := { body := Tryd.f52.body.getD .skip, res := Tryd.f52.results.toList, ins := [.agg [.v (.sl 25 (.sl 2 (.int .i64)))], .one (.v (.int .i64))], outs := [.one (.v (.int .i64))] }
def impl_cells.enc (y : lsd (flats impl_cells.fn.outs) × lsd (ios impl_cells.fn.ins)) : Int := y.1.1
noncomputable def impl_cells.f (l0_0 : List (List Int)) (a1 : Int) : Option Int := denF impl_cells.E impl_cells.fn impl_cells.enc (l0_0, a1, ())
set_option maxRecDepth 100000 in
theorem impl_cells.f_eq (l0_0 : List (List Int)) (a1 : Int) : impl_cells.f l0_0 a1 = (impl_order.f l0_0).bind fun t6 => (impl_power.f (wrapI (t6 - 1)) a1).bind fun t9 => some t9 := by kernel_rfl
noncomputable def impl_cells.con : Con := ⟨impl_cells.fn.ins, impl_cells.fn.outs, Int, fun x => impl_cells.f x.1 x.2.1, fun r => ((r, ()), (()))⟩
theorem impl_cells.valid : Valid Tryd.prog 52 impl_cells.con := fn_valid (f := impl_cells.fn) (E := impl_cells.E) (enc := impl_cells.enc) ⟨ttOk, (conCons impl_order.valid (conCons impl_power.valid conNil))⟩ (Checked.mixed Tryd.checked) ⟨Tryd.func52, by kernel_rfl, by kernel_rfl, by kernel_rfl, by kernel_rfl, by decide, by kernel_rfl, by kernel_rfl⟩ (fun _ => rfl)
end Go.Proofs.YtacipknfhoadoaaDoor.P
set_option linter.unusedVariables false
namespace Go.Proofs.YtacipknfhoadoaaDoor.P
open Go Go.RowKit Go.Proofs.YtacipknfhoadoaaDoor.D
noncomputable def impl_isCochain.E : Env := { tt := TT, con := [(51, impl_isDegree.con), (52, impl_cells.con), (53, impl_areIn.con)], frz := [], rows := [], live := [], n := 27, pin := 0, nils := [] }
noncomputable def impl_isCochain.fn : D.Fn := { body := Tryd.f35.body.getD .skip, res := Tryd.f35.results.toList, ins := [.agg [.v (.sl 25 (.sl 2 (.int .i64)))], .agg [.v (.int .i64), .v (.sl 2 (.int .i64))], .agg [.v (.int .i64), .v (.sl 2 (.int .i64))]], outs := [.one (.v .bool)] }
def impl_isCochain.enc (y : lsd (flats impl_isCochain.fn.outs) × lsd (ios impl_isCochain.fn.ins)) : Bool := y.1.1
noncomputable def impl_isCochain.f (l0_0 : List (List Int)) (a1_0 : Int) (l1_1 : List Int) (a2_0 : Int) (l2_1 : List Int) : Option Bool := denF impl_isCochain.E impl_isCochain.fn impl_isCochain.enc (l0_0, a1_0, l1_1, a2_0, l2_1, ())
set_option maxRecDepth 100000 in
theorem impl_isCochain.f_eq (l0_0 : List (List Int)) (a1_0 : Int) (l1_1 : List Int) (a2_0 : Int) (l2_1 : List Int) : impl_isCochain.f l0_0 a1_0 l1_1 a2_0 l2_1 = (impl_isDegree.f a2_0).bind fun t9 => if t9 = true then ((impl_cells.f l0_0 a2_0).bind fun t17 => if (l2_1.length : Int) = t17 then ((impl_areIn.f a1_0 l2_1).bind fun t25 => some (decide (t25 = true))) else (some false)) else (some false) := by kernel_rfl
noncomputable def impl_isCochain.con : Con := ⟨impl_isCochain.fn.ins, impl_isCochain.fn.outs, Bool, fun x => impl_isCochain.f x.1 x.2.1 x.2.2.1 x.2.2.2.1 x.2.2.2.2.1, fun r => ((r, ()), (()))⟩
theorem impl_isCochain.valid : Valid Tryd.prog 35 impl_isCochain.con := fn_valid (f := impl_isCochain.fn) (E := impl_isCochain.E) (enc := impl_isCochain.enc) ⟨ttOk, (conCons impl_isDegree.valid (conCons impl_cells.valid (conCons impl_areIn.valid conNil)))⟩ (Checked.mixed Tryd.checked) ⟨Tryd.func35, by kernel_rfl, by kernel_rfl, by kernel_rfl, by kernel_rfl, by decide, by kernel_rfl, by kernel_rfl⟩ (fun _ => rfl)
end Go.Proofs.YtacipknfhoadoaaDoor.P
set_option linter.unusedVariables false
namespace Go.Proofs.YtacipknfhoadoaaDoor.P
open Go Go.RowKit Go.Proofs.YtacipknfhoadoaaDoor.D
noncomputable def impl_ParseCochain.E : Env := { tt := TT, con := [(33, impl_moduleCode.con), (34, impl_headed.con), (35, impl_isCochain.con)], frz := [], rows := [15], live := [], n := 41, pin := 0, nils := [] }
noncomputable def impl_ParseCochain.fn : D.Fn := { body := Tryd.f17.body.getD .skip, res := Tryd.f17.results.toList, ins := [.agg [.v (.sl 25 (.sl 2 (.int .i64)))], .agg [.v (.int .i64), .v (.sl 2 (.int .i64))], .one (.v .str)], outs := [.agg [.v (.int .i64), .own 2 true (.int .i64)], .one (.v (.int .i64))] }
def impl_ParseCochain.enc (y : lsd (flats impl_ParseCochain.fn.outs) × lsd (ios impl_ParseCochain.fn.ins)) : Int × (List Int) × Int := (y.1.1, y.1.2.1, y.1.2.2.1)
noncomputable def impl_ParseCochain.f (l0_0 : List (List Int)) (a1_0 : Int) (l1_1 : List Int) (a2 : ByteArray) : Option (Int × (List Int) × Int) := denF impl_ParseCochain.E impl_ParseCochain.fn impl_ParseCochain.enc (l0_0, a1_0, l1_1, a2, ())
set_option maxRecDepth 100000 in
theorem impl_ParseCochain.f_eq (l0_0 : List (List Int)) (a1_0 : Int) (l1_1 : List Int) (a2 : ByteArray) : impl_ParseCochain.f l0_0 a1_0 l1_1 a2 = (impl_moduleCode.f l0_0 ([(a1_0, l1_1)] : List (Int × (List Int)))).bind fun t16 => if t16 = 0 then ((impl_headed.f a2).bind fun t23 => if t23.2.2 = true then ((impl_isCochain.f l0_0 a1_0 l1_1 t23.1 t23.2.1).bind fun t36 => if t36 = true then (some (t23.1, t23.2.1, 0)) else (some (0, ([] : List Int), 6))) else (some (0, ([] : List Int), 6))) else (some (0, ([] : List Int), t16)) := by kernel_rfl
noncomputable def impl_ParseCochain.con : Con := ⟨impl_ParseCochain.fn.ins, impl_ParseCochain.fn.outs, Int × (List Int) × Int, fun x => impl_ParseCochain.f x.1 x.2.1 x.2.2.1 x.2.2.2.1, fun r => ((r.1, r.2.1, r.2.2, ()), (()))⟩
theorem impl_ParseCochain.valid : Valid Tryd.prog 17 impl_ParseCochain.con := fn_valid (f := impl_ParseCochain.fn) (E := impl_ParseCochain.E) (enc := impl_ParseCochain.enc) ⟨ttOk, (conCons impl_moduleCode.valid (conCons impl_headed.valid (conCons impl_isCochain.valid conNil)))⟩ (Checked.mixed Tryd.checked) ⟨Tryd.func17, by kernel_rfl, by kernel_rfl, by kernel_rfl, by kernel_rfl, by decide, by kernel_rfl, by kernel_rfl⟩ (fun _ => rfl)
end Go.Proofs.YtacipknfhoadoaaDoor.P
set_option linter.unusedVariables false
namespace Go.Proofs.YtacipknfhoadoaaDoor.P
open Go Go.RowKit Go.Proofs.YtacipknfhoadoaaDoor.D
noncomputable def laws_markInt64S.E : Env := { tt := TT, con := [], frz := [], rows := [], live := [(2, [0, 1, 5])], n := 19, pin := 1, nils := [] }
noncomputable def laws_markInt64S.fn : D.Fn := { body := Tryd.f37.body.getD .skip, res := Tryd.f37.results.toList, ins := [.one (.own 2 true (.int .i64)), .one (.v (.int .i64))], outs := [.one (.v (.int .i64))] }
def laws_markInt64S.enc (y : lsd (flats laws_markInt64S.fn.outs) × lsd (ios laws_markInt64S.fn.ins)) : Int × (List Int) := (y.1.1, y.2.1)
noncomputable def laws_markInt64S.f (l0 : List Int) (a1 : Int) : Option (Int × (List Int)) := denF laws_markInt64S.E laws_markInt64S.fn laws_markInt64S.enc (l0, a1, ())
noncomputable def laws_markInt64S.l0 (x1 : Int) (x5 : Int) (r0 : List Int) : Option (Int × (List Int)) := denAt laws_markInt64S.E laws_markInt64S.fn laws_markInt64S.enc [1, 0, 1, 0] { fr := [(0, .lf (.own 0)), (1, .lf (.int .i64 x1)), (5, .lf (.int .i64 x5))], ob := [(0, .row 2 true (.int .i64) r0)], nx := 1 }
set_option maxRecDepth 100000 in
theorem laws_markInt64S.f_eq (l0 : List Int) (a1 : Int) : laws_markInt64S.f l0 a1 = laws_markInt64S.l0 a1 0 l0 := by kernel_rfl
set_option maxRecDepth 100000 in
theorem laws_markInt64S.l0_eq (x1 : Int) (x5 : Int) (r0 : List Int) : laws_markInt64S.l0 x1 x5 r0 = if x5 < (r0.length : Int) then (if 0 ≤ x5 then (if x5 < (r0.length : Int) then (if 0 ≤ x5 then (if x5 < (r0.length : Int) then (laws_markInt64S.l0 (wrapI (x1 + 1)) (wrapI (x5 + 1)) (r0.set (x5 : Int).toNat x1)) else none) else none) else none) else none) else (some (x1, r0)) := (loop_unfold _ _ _ _).trans (by kernel_rfl)
noncomputable def laws_markInt64S.con : Con := ⟨laws_markInt64S.fn.ins, laws_markInt64S.fn.outs, Int × (List Int), fun x => laws_markInt64S.f x.1 x.2.1, fun r => ((r.1, ()), (r.2, ()))⟩
theorem laws_markInt64S.valid : Valid Tryd.prog 37 laws_markInt64S.con := fn_valid (f := laws_markInt64S.fn) (E := laws_markInt64S.E) (enc := laws_markInt64S.enc) ⟨ttOk, conNil⟩ (Checked.mixed Tryd.checked) ⟨Tryd.func37, by kernel_rfl, by kernel_rfl, by kernel_rfl, by kernel_rfl, by decide, by kernel_rfl, by kernel_rfl⟩ (fun _ => rfl)
end Go.Proofs.YtacipknfhoadoaaDoor.P
set_option linter.unusedVariables false
namespace Go.Proofs.YtacipknfhoadoaaDoor.P
open Go Go.RowKit Go.Proofs.YtacipknfhoadoaaDoor.D
noncomputable def laws_markInt64SS.E : Env := { tt := TT, con := [(37, laws_markInt64S.con)], frz := [], rows := [], live := [(2, [0, 1, 5])], n := 19, pin := 1, nils := [] }
noncomputable def laws_markInt64SS.fn : D.Fn := { body := Tryd.f36.body.getD .skip, res := Tryd.f36.results.toList, ins := [.one (.own 25 true (.sl 2 (.int .i64))), .one (.v (.int .i64))], outs := [.one (.v (.int .i64))] }
def laws_markInt64SS.enc (y : lsd (flats laws_markInt64SS.fn.outs) × lsd (ios laws_markInt64SS.fn.ins)) : Int × (List (List Int)) := (y.1.1, y.2.1)
noncomputable def laws_markInt64SS.f (l0 : List (List Int)) (a1 : Int) : Option (Int × (List (List Int))) := denF laws_markInt64SS.E laws_markInt64SS.fn laws_markInt64SS.enc (l0, a1, ())
noncomputable def laws_markInt64SS.l0 (x1 : Int) (x5 : Int) (r0 : List (List Int)) : Option (Int × (List (List Int))) := denAt laws_markInt64SS.E laws_markInt64SS.fn laws_markInt64SS.enc [1, 0, 1, 0] { fr := [(0, .lf (.own 0)), (1, .lf (.int .i64 x1)), (5, .lf (.int .i64 x5))], ob := [(0, .row 25 true (.sl 2 (.int .i64)) r0)], nx := 1 }
set_option maxRecDepth 100000 in
theorem laws_markInt64SS.f_eq (l0 : List (List Int)) (a1 : Int) : laws_markInt64SS.f l0 a1 = laws_markInt64SS.l0 a1 0 l0 := by kernel_rfl
set_option maxRecDepth 100000 in
theorem laws_markInt64SS.l0_eq (x1 : Int) (x5 : Int) (r0 : List (List Int)) : laws_markInt64SS.l0 x1 x5 r0 = if x5 < (r0.length : Int) then (if 0 ≤ x5 then (if x5 < (r0.length : Int) then (if 0 ≤ x5 then (if x5 < (r0.length : Int) then ((laws_markInt64S.f (row r0 x5) x1).bind fun t17 => laws_markInt64SS.l0 t17.1 (wrapI (x5 + 1)) (r0.set (x5 : Int).toNat t17.2)) else none) else none) else none) else none) else (some (x1, r0)) := (loop_unfold _ _ _ _).trans (by kernel_rfl)
noncomputable def laws_markInt64SS.con : Con := ⟨laws_markInt64SS.fn.ins, laws_markInt64SS.fn.outs, Int × (List (List Int)), fun x => laws_markInt64SS.f x.1 x.2.1, fun r => ((r.1, ()), (r.2, ()))⟩
theorem laws_markInt64SS.valid : Valid Tryd.prog 36 laws_markInt64SS.con := fn_valid (f := laws_markInt64SS.fn) (E := laws_markInt64SS.E) (enc := laws_markInt64SS.enc) ⟨ttOk, (conCons laws_markInt64S.valid conNil)⟩ (Checked.mixed Tryd.checked) ⟨Tryd.func36, by kernel_rfl, by kernel_rfl, by kernel_rfl, by kernel_rfl, by decide, by kernel_rfl, by kernel_rfl⟩ (fun _ => rfl)
end Go.Proofs.YtacipknfhoadoaaDoor.P
set_option linter.unusedVariables false
namespace Go.Proofs.YtacipknfhoadoaaDoor.P
open Go Go.RowKit Go.Proofs.YtacipknfhoadoaaDoor.D
noncomputable def laws_markGroup.E : Env := { tt := TT, con := [(36, laws_markInt64SS.con)], frz := [], rows := [], live := [], n := 10, pin := 1, nils := [] }
noncomputable def laws_markGroup.fn : D.Fn := { body := Tryd.f18.body.getD .skip, res := Tryd.f18.results.toList, ins := [.agg [.own 25 true (.sl 2 (.int .i64))], .one (.v (.int .i64))], outs := [.one (.v (.int .i64))] }
def laws_markGroup.enc (y : lsd (flats laws_markGroup.fn.outs) × lsd (ios laws_markGroup.fn.ins)) : Int × (List (List Int)) := (y.1.1, y.2.1)
noncomputable def laws_markGroup.f (l0_0 : List (List Int)) (a1 : Int) : Option (Int × (List (List Int))) := denF laws_markGroup.E laws_markGroup.fn laws_markGroup.enc (l0_0, a1, ())
set_option maxRecDepth 100000 in
theorem laws_markGroup.f_eq (l0_0 : List (List Int)) (a1 : Int) : laws_markGroup.f l0_0 a1 = (laws_markInt64SS.f l0_0 a1).bind fun t8 => some (t8.1, t8.2) := by kernel_rfl
noncomputable def laws_markGroup.con : Con := ⟨laws_markGroup.fn.ins, laws_markGroup.fn.outs, Int × (List (List Int)), fun x => laws_markGroup.f x.1 x.2.1, fun r => ((r.1, ()), (r.2, ()))⟩
theorem laws_markGroup.valid : Valid Tryd.prog 18 laws_markGroup.con := fn_valid (f := laws_markGroup.fn) (E := laws_markGroup.E) (enc := laws_markGroup.enc) ⟨ttOk, (conCons laws_markInt64SS.valid conNil)⟩ (Checked.mixed Tryd.checked) ⟨Tryd.func18, by kernel_rfl, by kernel_rfl, by kernel_rfl, by kernel_rfl, by decide, by kernel_rfl, by kernel_rfl⟩ (fun _ => rfl)
end Go.Proofs.YtacipknfhoadoaaDoor.P
set_option linter.unusedVariables false
namespace Go.Proofs.YtacipknfhoadoaaDoor.P
open Go Go.RowKit Go.Proofs.YtacipknfhoadoaaDoor.D
noncomputable def laws_markModule.E : Env := { tt := TT, con := [(37, laws_markInt64S.con)], frz := [], rows := [], live := [], n := 10, pin := 1, nils := [] }
noncomputable def laws_markModule.fn : D.Fn := { body := Tryd.f19.body.getD .skip, res := Tryd.f19.results.toList, ins := [.agg [.v (.int .i64), .own 2 true (.int .i64)], .one (.v (.int .i64))], outs := [.one (.v (.int .i64))] }
def laws_markModule.enc (y : lsd (flats laws_markModule.fn.outs) × lsd (ios laws_markModule.fn.ins)) : Int × (List Int) := (y.1.1, y.2.1)
noncomputable def laws_markModule.f (a0_0 : Int) (l0_1 : List Int) (a1 : Int) : Option (Int × (List Int)) := denF laws_markModule.E laws_markModule.fn laws_markModule.enc (a0_0, l0_1, a1, ())
set_option maxRecDepth 100000 in
theorem laws_markModule.f_eq (a0_0 : Int) (l0_1 : List Int) (a1 : Int) : laws_markModule.f a0_0 l0_1 a1 = (laws_markInt64S.f l0_1 a1).bind fun t8 => some (t8.1, t8.2) := by kernel_rfl
noncomputable def laws_markModule.con : Con := ⟨laws_markModule.fn.ins, laws_markModule.fn.outs, Int × (List Int), fun x => laws_markModule.f x.1 x.2.1 x.2.2.1, fun r => ((r.1, ()), (r.2, ()))⟩
theorem laws_markModule.valid : Valid Tryd.prog 19 laws_markModule.con := fn_valid (f := laws_markModule.fn) (E := laws_markModule.E) (enc := laws_markModule.enc) ⟨ttOk, (conCons laws_markInt64S.valid conNil)⟩ (Checked.mixed Tryd.checked) ⟨Tryd.func19, by kernel_rfl, by kernel_rfl, by kernel_rfl, by kernel_rfl, by decide, by kernel_rfl, by kernel_rfl⟩ (fun _ => rfl)
end Go.Proofs.YtacipknfhoadoaaDoor.P
set_option linter.unusedVariables false
namespace Go.Proofs.YtacipknfhoadoaaDoor.P
open Go Go.RowKit Go.Proofs.YtacipknfhoadoaaDoor.D
noncomputable def laws_markCochain.E : Env := { tt := TT, con := [(37, laws_markInt64S.con)], frz := [], rows := [], live := [], n := 10, pin := 1, nils := [] }
noncomputable def laws_markCochain.fn : D.Fn := { body := Tryd.f20.body.getD .skip, res := Tryd.f20.results.toList, ins := [.agg [.v (.int .i64), .own 2 true (.int .i64)], .one (.v (.int .i64))], outs := [.one (.v (.int .i64))] }
def laws_markCochain.enc (y : lsd (flats laws_markCochain.fn.outs) × lsd (ios laws_markCochain.fn.ins)) : Int × (List Int) := (y.1.1, y.2.1)
noncomputable def laws_markCochain.f (a0_0 : Int) (l0_1 : List Int) (a1 : Int) : Option (Int × (List Int)) := denF laws_markCochain.E laws_markCochain.fn laws_markCochain.enc (a0_0, l0_1, a1, ())
set_option maxRecDepth 100000 in
theorem laws_markCochain.f_eq (a0_0 : Int) (l0_1 : List Int) (a1 : Int) : laws_markCochain.f a0_0 l0_1 a1 = (laws_markInt64S.f l0_1 a1).bind fun t8 => some (t8.1, t8.2) := by kernel_rfl
noncomputable def laws_markCochain.con : Con := ⟨laws_markCochain.fn.ins, laws_markCochain.fn.outs, Int × (List Int), fun x => laws_markCochain.f x.1 x.2.1 x.2.2.1, fun r => ((r.1, ()), (r.2, ()))⟩
theorem laws_markCochain.valid : Valid Tryd.prog 20 laws_markCochain.con := fn_valid (f := laws_markCochain.fn) (E := laws_markCochain.E) (enc := laws_markCochain.enc) ⟨ttOk, (conCons laws_markInt64S.valid conNil)⟩ (Checked.mixed Tryd.checked) ⟨Tryd.func20, by kernel_rfl, by kernel_rfl, by kernel_rfl, by kernel_rfl, by decide, by kernel_rfl, by kernel_rfl⟩ (fun _ => rfl)
end Go.Proofs.YtacipknfhoadoaaDoor.P
set_option linter.unusedVariables false
namespace Go.Proofs.YtacipknfhoadoaaDoor.P
open Go Go.RowKit Go.Proofs.YtacipknfhoadoaaDoor.D
noncomputable def laws_heldInt64S.E : Env := { tt := TT, con := [], frz := [], rows := [], live := [(2, [0, 1, 5])], n := 21, pin := 0, nils := [] }
noncomputable def laws_heldInt64S.fn : D.Fn := { body := Tryd.f38.body.getD .skip, res := Tryd.f38.results.toList, ins := [.one (.v (.sl 2 (.int .i64))), .one (.v (.int .i64))], outs := [.one (.v (.int .i64))] }
def laws_heldInt64S.enc (y : lsd (flats laws_heldInt64S.fn.outs) × lsd (ios laws_heldInt64S.fn.ins)) : Int := y.1.1
noncomputable def laws_heldInt64S.f (l0 : List Int) (a1 : Int) : Option Int := denF laws_heldInt64S.E laws_heldInt64S.fn laws_heldInt64S.enc (l0, a1, ())
noncomputable def laws_heldInt64S.l0 (x0 : List Int) (x1 : Int) (x5 : Int) : Option Int := denAt laws_heldInt64S.E laws_heldInt64S.fn laws_heldInt64S.enc [1, 0, 1, 0] { fr := [(0, .lf (.sl (.int .i64) x0)), (1, .lf (.int .i64 x1)), (5, .lf (.int .i64 x5))], ob := [], nx := 0 }
set_option maxRecDepth 100000 in
theorem laws_heldInt64S.f_eq (l0 : List Int) (a1 : Int) : laws_heldInt64S.f l0 a1 = laws_heldInt64S.l0 l0 a1 0 := by kernel_rfl
set_option maxRecDepth 100000 in
theorem laws_heldInt64S.l0_eq (x0 : List Int) (x1 : Int) (x5 : Int) : laws_heldInt64S.l0 x0 x1 x5 = if x5 < (x0.length : Int) then (if 0 ≤ x5 then (if x5 < (x0.length : Int) then (if (rd x0 x5) = x1 then (laws_heldInt64S.l0 x0 (wrapI (x1 + 1)) (wrapI (x5 + 1))) else (some (-1))) else none) else none) else (some x1) := (loop_unfold _ _ _ _).trans (by kernel_rfl)
noncomputable def laws_heldInt64S.con : Con := ⟨laws_heldInt64S.fn.ins, laws_heldInt64S.fn.outs, Int, fun x => laws_heldInt64S.f x.1 x.2.1, fun r => ((r, ()), (()))⟩
theorem laws_heldInt64S.valid : Valid Tryd.prog 38 laws_heldInt64S.con := fn_valid (f := laws_heldInt64S.fn) (E := laws_heldInt64S.E) (enc := laws_heldInt64S.enc) ⟨ttOk, conNil⟩ (Checked.mixed Tryd.checked) ⟨Tryd.func38, by kernel_rfl, by kernel_rfl, by kernel_rfl, by kernel_rfl, by decide, by kernel_rfl, by kernel_rfl⟩ (fun _ => rfl)
end Go.Proofs.YtacipknfhoadoaaDoor.P
set_option linter.unusedVariables false
namespace Go.Proofs.YtacipknfhoadoaaDoor.P
open Go Go.RowKit Go.Proofs.YtacipknfhoadoaaDoor.D
noncomputable def laws_heldCochain.E : Env := { tt := TT, con := [(38, laws_heldInt64S.con)], frz := [], rows := [], live := [], n := 12, pin := 0, nils := [] }
noncomputable def laws_heldCochain.fn : D.Fn := { body := Tryd.f21.body.getD .skip, res := Tryd.f21.results.toList, ins := [.agg [.v (.int .i64), .v (.sl 2 (.int .i64))], .one (.v (.int .i64))], outs := [.one (.v (.int .i64))] }
def laws_heldCochain.enc (y : lsd (flats laws_heldCochain.fn.outs) × lsd (ios laws_heldCochain.fn.ins)) : Int := y.1.1
noncomputable def laws_heldCochain.f (a0_0 : Int) (l0_1 : List Int) (a1 : Int) : Option Int := denF laws_heldCochain.E laws_heldCochain.fn laws_heldCochain.enc (a0_0, l0_1, a1, ())
set_option maxRecDepth 100000 in
theorem laws_heldCochain.f_eq (a0_0 : Int) (l0_1 : List Int) (a1 : Int) : laws_heldCochain.f a0_0 l0_1 a1 = (laws_heldInt64S.f l0_1 a1).bind fun t8 => if t8 < 0 then (some (-1)) else (some t8) := by kernel_rfl
noncomputable def laws_heldCochain.con : Con := ⟨laws_heldCochain.fn.ins, laws_heldCochain.fn.outs, Int, fun x => laws_heldCochain.f x.1 x.2.1 x.2.2.1, fun r => ((r, ()), (()))⟩
theorem laws_heldCochain.valid : Valid Tryd.prog 21 laws_heldCochain.con := fn_valid (f := laws_heldCochain.fn) (E := laws_heldCochain.E) (enc := laws_heldCochain.enc) ⟨ttOk, (conCons laws_heldInt64S.valid conNil)⟩ (Checked.mixed Tryd.checked) ⟨Tryd.func21, by kernel_rfl, by kernel_rfl, by kernel_rfl, by kernel_rfl, by decide, by kernel_rfl, by kernel_rfl⟩ (fun _ => rfl)
end Go.Proofs.YtacipknfhoadoaaDoor.P
set_option linter.unusedVariables false
namespace Go.Proofs.YtacipknfhoadoaaDoor.P
open Go Go.RowKit Go.Proofs.YtacipknfhoadoaaDoor.D
noncomputable def laws_FnExactParseCochain.E : Env := { tt := TT, con := [(5, laws_szGroup.con), (6, laws_szModule.con), (9, laws_toGroup.con), (10, laws_toModule.con), (16, spec_ParseCochain.con), (17, impl_ParseCochain.con), (15, laws_eqCochain.con), (13, laws_eqGroup.con), (14, laws_eqModule.con), (18, laws_markGroup.con), (19, laws_markModule.con), (20, laws_markCochain.con), (21, laws_heldCochain.con)], frz := [], rows := [], live := [], n := 127, pin := 0, nils := [] }
noncomputable def laws_FnExactParseCochain.fn : D.Fn := { body := Tryd.f4.body.getD .skip, res := Tryd.f4.results.toList, ins := [.agg [.v (.sl 25 (.sl 2 (.int .i64)))], .agg [.v (.int .i64), .v (.sl 2 (.int .i64))], .one (.v .str)], outs := [.one (.v .bool)] }
def laws_FnExactParseCochain.enc (y : lsd (flats laws_FnExactParseCochain.fn.outs) × lsd (ios laws_FnExactParseCochain.fn.ins)) : Bool := y.1.1
noncomputable def laws_FnExactParseCochain.f (l0_0 : List (List Int)) (a1_0 : Int) (l1_1 : List Int) (a2 : ByteArray) : Option Bool := denF laws_FnExactParseCochain.E laws_FnExactParseCochain.fn laws_FnExactParseCochain.enc (l0_0, a1_0, l1_1, a2, ())
set_option maxRecDepth 100000 in
theorem laws_FnExactParseCochain.f_eq (l0_0 : List (List Int)) (a1_0 : Int) (l1_1 : List Int) (a2 : ByteArray) : laws_FnExactParseCochain.f l0_0 a1_0 l1_1 a2 = if (a2.size : Int) > 1048576 then (some true) else ((laws_szGroup.f l0_0 1048576).bind fun t24 => if t24 < 0 then (some true) else ((laws_szModule.f a1_0 l1_1 t24).bind fun t29 => if t29 < 0 then (some true) else ((laws_toGroup.f l0_0).bind fun t34 => (laws_toModule.f a1_0 l1_1).bind fun t36 => (spec_ParseCochain.f t34 t36.1 t36.2 a2).bind fun t38 => (laws_toGroup.f l0_0).bind fun t42 => (laws_toModule.f a1_0 l1_1).bind fun t44 => (impl_ParseCochain.f t42 t44.1 t44.2 a2).bind fun t49 => (laws_eqCochain.f t49.1 t49.2.1 t38.1 t38.2.1).bind fun t54 => if t54 = true then (if t49.2.2 = t38.2.2 then ((laws_toGroup.f l0_0).bind fun t63 => (laws_eqGroup.f t42 t63).bind fun t64 => if t64 = true then ((laws_toModule.f a1_0 l1_1).bind fun t68 => (laws_eqModule.f t44.1 t44.2 t68.1 t68.2).bind fun t69 => if t69 = true then ((laws_markGroup.f t42 1).bind fun t73 => (laws_markModule.f t44.1 t44.2 t73.1).bind fun t76 => if t76.1 < 0 then (some false) else ((laws_eqCochain.f t49.1 t49.2.1 t38.1 t38.2.1).bind fun t82 => if t82 = true then (if t49.2.2 = t38.2.2 then ((laws_markCochain.f t49.1 t49.2.1 1).bind fun t92 => (laws_heldCochain.f t49.1 t92.2 1).bind fun t95 => if t95 < 0 then (some false) else (if t95 = t92.1 then ((laws_toGroup.f l0_0).bind fun t103 => (laws_toModule.f a1_0 l1_1).bind fun t105 => (impl_ParseCochain.f t103 t105.1 t105.2 a2).bind fun t107 => (laws_eqCochain.f t107.1 t107.2.1 t38.1 t38.2.1).bind fun t112 => if t112 = true then (if t107.2.2 = t38.2.2 then ((laws_heldCochain.f t49.1 t92.2 1).bind fun t121 => if t121 < 0 then (some false) else (if t121 = t92.1 then (some true) else (some false))) else (some false)) else (some false)) else (some false))) else (some false)) else (some false))) else (some false)) else (some false)) else (some false)) else (some false)))) := by kernel_rfl
noncomputable def laws_FnExactParseCochain.con : Con := ⟨laws_FnExactParseCochain.fn.ins, laws_FnExactParseCochain.fn.outs, Bool, fun x => laws_FnExactParseCochain.f x.1 x.2.1 x.2.2.1 x.2.2.2.1, fun r => ((r, ()), (()))⟩
theorem laws_FnExactParseCochain.valid : Valid Tryd.prog 4 laws_FnExactParseCochain.con := fn_valid (f := laws_FnExactParseCochain.fn) (E := laws_FnExactParseCochain.E) (enc := laws_FnExactParseCochain.enc) ⟨ttOk, (conCons laws_szGroup.valid (conCons laws_szModule.valid (conCons laws_toGroup.valid (conCons laws_toModule.valid (conCons spec_ParseCochain.valid (conCons impl_ParseCochain.valid (conCons laws_eqCochain.valid (conCons laws_eqGroup.valid (conCons laws_eqModule.valid (conCons laws_markGroup.valid (conCons laws_markModule.valid (conCons laws_markCochain.valid (conCons laws_heldCochain.valid conNil)))))))))))))⟩ (Checked.mixed Tryd.checked) ⟨Tryd.func4, by kernel_rfl, by kernel_rfl, by kernel_rfl, by kernel_rfl, by decide, by kernel_rfl, by kernel_rfl⟩ (fun _ => rfl)
end Go.Proofs.YtacipknfhoadoaaDoor.P
set_option linter.unusedVariables false
namespace Go.Proofs.YtacipknfhoadoaaDoor.V
open Go Go.RowKit Go.Proofs.YtacipknfhoadoaaDoor.D
theorem w64 {x : Int} (h0 : -9223372036854775808 ≤ x) (h1 : x ≤ 9223372036854775807) : wrapI x = x := by unfold wrapI; rw [hid_eq]; unfold wrap64; omega
theorem wn {j : Nat} (h : j < 4611686018427387904) : wrapI ((j : Int) + 1) = ((j + 1 : Nat) : Int) := by rw [w64 (by omega) (by omega)]; omega
theorem go_pos {α : Type} {p : Prop} {inst : Decidable p} {a b r : α} (h : p) (k : a = r) : (if p then a else b) = r := by rw [if_pos h]; exact k
theorem go_neg {α : Type} {p : Prop} {inst : Decidable p} {a b r : α} (h : ¬ p) (k : b = r) : (if p then a else b) = r := by rw [if_neg h]; exact k
theorem go_bind {α β : Type} {c : Option α} {f : α → Option β} {a : α} {r : Option β} (h : c = some a) (k : f a = r) : c.bind f = r := by rw [h]; exact k
theorem maxLen_le : maxLen ≤ 9223372036854775807 := by unfold maxLen; omega
theorem le_maxLen {n : Nat} (h : n ≤ 9223372036854775807) : n ≤ maxLen := by unfold maxLen; omega
noncomputable def ite_ {α : Type} (p : Prop) (a b : α) : α := @ite α p (Classical.propDecidable p) a b
theorem ite_pos {α : Type} {p : Prop} (h : p) (a b : α) : ite_ p a b = a := by unfold ite_; simp [h]
theorem ite_neg {α : Type} {p : Prop} (h : ¬ p) (a b : α) : ite_ p a b = b := by unfold ite_; simp [h]
noncomputable def B (p : Prop) : Bool := @decide p (Classical.propDecidable p)
theorem B_pos {p : Prop} (h : p) : B p = true := by unfold B; simp [h]
theorem B_neg {p : Prop} (h : ¬ p) : B p = false := by unfold B; simp [h]
theorem B_not {p : Prop} (h : ¬ p) : ¬ (B p = true) := by rw [B_neg h]; decide
theorem B_congr {p q : Prop} (h : p ↔ q) : B p = B q := by rw [show p = q from propext h]
theorem B_decide (p : Prop) {inst : Decidable p} : decide p = B p := by by_cases h : p <;> simp [h, B]
theorem B_true : B True = true := B_pos trivial
theorem scan {R : Type} (n : Nat) (L : Int → R) (P : Int → Prop) (bad : R)
    (hs : ∀ i : Int, 0 ≤ i → i < n → (∀ j : Int, 0 ≤ j → j < i → P j) → (P i → L i = L (i + 1)) ∧ (¬ P i → L i = bad)) :
    ((∀ j : Int, 0 ≤ j → j < n → P j) ∧ L 0 = L n) ∨ (∃ m : Int, 0 ≤ m ∧ m < n ∧ (∀ j : Int, 0 ≤ j → j < m → P j) ∧ ¬ P m ∧ L 0 = L m ∧ L 0 = bad) := by
  suffices H : ∀ d m : Nat, m + d = n → (∀ j : Int, 0 ≤ j → j < m → P j) →
      ((∀ j : Int, 0 ≤ j → j < n → P j) ∧ L m = L n) ∨ (∃ i : Int, 0 ≤ i ∧ i < n ∧ (∀ j : Int, 0 ≤ j → j < i → P j) ∧ ¬ P i ∧ L m = L i ∧ L m = bad) by
    simpa using H n 0 (by omega) (fun j h0 h1 => by omega)
  intro d
  induction d with
  | zero =>
    intro m hm hp
    have : (m : Int) = n := by omega
    rw [this] at hp ⊢
    exact .inl ⟨hp, rfl⟩
  | succ d ih =>
    intro m hm hp
    obtain ⟨h1, h2⟩ := hs m (by omega) (by omega) hp
    by_cases h : P m
    · have hp' : ∀ j : Int, 0 ≤ j → j < ((m + 1 : Nat) : Int) → P j := fun j h0 hj => by
        by_cases e : j = m
        · rw [e]; exact h
        · exact hp j h0 (by omega)
      have := ih (m + 1) (by omega) hp'
      rwa [Int.natCast_add, Int.natCast_one, ← h1 h] at this
    · exact .inr ⟨m, by omega, by omega, hp, h, rfl, h2 h⟩
theorem scanB (n : Nat) (L : Int → Option Bool) (P : Int → Prop) (Q : Prop)
    (hs : ∀ i : Int, 0 ≤ i → i < n → (∀ j : Int, 0 ≤ j → j < i → P j) → (P i → L i = L (i + 1)) ∧ (¬ P i → L i = some false))
    (he : (∀ j : Int, 0 ≤ j → j < n → P j) → L n = some (B Q)) : L 0 = some (B ((∀ j : Int, 0 ≤ j → j < n → P j) ∧ Q)) := by
  rcases scan n L P (some false) hs with ⟨h1, h2⟩ | ⟨j, h0, h1, _, h2, _, h3⟩
  · rw [B_congr (show ((∀ j : Int, 0 ≤ j → j < n → P j) ∧ Q) ↔ Q from ⟨fun h => h.2, fun h => ⟨h1, h⟩⟩), h2]
    exact he h1
  · rw [B_neg fun h => h2 (h.1 j h0 h1)]
    exact h3
theorem scanT (n : Nat) (L : Int → Option Bool) (P : Int → Prop)
    (hs : ∀ i : Int, 0 ≤ i → i < n → (∀ j : Int, 0 ≤ j → j < i → P j) → (P i → L i = L (i + 1)) ∧ (¬ P i → L i = some false))
    (he : (∀ j : Int, 0 ≤ j → j < n → P j) → L n = some true) : L 0 = some (B (∀ j : Int, 0 ≤ j → j < n → P j)) := by
  have := scanB n L P True hs (fun h => by rw [B_true]; exact he h)
  rwa [B_congr (show ((∀ j : Int, 0 ≤ j → j < n → P j) ∧ True) ↔ _ from ⟨fun h => h.1, fun h => ⟨h, trivial⟩⟩)] at this
theorem scanI {R : Type} (n : Nat) (L : Int → R) (P : Int → Prop) (bad go : R)
    (hs : ∀ i : Int, 0 ≤ i → i < n → (∀ j : Int, 0 ≤ j → j < i → P j) → (P i → L i = L (i + 1)) ∧ (¬ P i → L i = bad)) (he : (∀ j : Int, 0 ≤ j → j < n → P j) → L n = go) :
    ((∀ j : Int, 0 ≤ j → j < n → P j) → L 0 = go) ∧ (¬ (∀ j : Int, 0 ≤ j → j < n → P j) → L 0 = bad) := by
  rcases scan n L P bad hs with ⟨h1, h2⟩ | ⟨j, h0, h1, _, h2, _, h3⟩
  · exact ⟨fun _ => h2.trans (he h1), fun h => absurd h1 h⟩
  · exact ⟨fun h => absurd (h j h0 h1) h2, fun _ => h3⟩
theorem up {R : Type} (n : Nat) (L : Nat → R) (h : ∀ i, i < n → L i = L (i + 1)) : L 0 = L n := by
  suffices H : ∀ m, m ≤ n → L 0 = L m from H n (Nat.le_refl _)
  intro m
  induction m with
  | zero => exact fun _ => rfl
  | succ m ih => exact fun hm => (ih (by omega)).trans (h m (by omega))
theorem rd_get {xs : List Int} {j : Nat} (h : j < xs.length) : rd xs (j : Int) = xs[j] := by simp [rd, List.getD_eq_getElem?_getD, List.getElem?_eq_getElem h]
theorem rd_at {xs : List Int} {i : Int} (h0 : 0 ≤ i) (h1 : i < xs.length) : xs[i.toNat]? = some (rd xs i) := by
  have h : i.toNat < xs.length := by omega
  simp [rd, List.getD_eq_getElem?_getD, List.getElem?_eq_getElem h]
theorem rd_mem {xs : List Int} {i : Int} (h0 : 0 ≤ i) (h1 : i < xs.length) : rd xs i ∈ xs := List.mem_of_getElem? (rd_at h0 h1)
theorem ext_rd {xs ys : List Int} (hl : xs.length = ys.length) (h : ∀ i : Int, 0 ≤ i → i < xs.length → rd xs i = rd ys i) : xs = ys := by
  apply List.ext_getElem hl
  intro i h1 h2
  have := h i (by omega) (by omega)
  simpa [rd, List.getD_eq_getElem?_getD, List.getElem?_eq_getElem h1, List.getElem?_eq_getElem h2] using this
theorem row_get {g : List (List Int)} {j : Nat} (h : j < g.length) : row g (j : Int) = g[j] := by simp [row, List.getD_eq_getElem?_getD, List.getElem?_eq_getElem h]
theorem row_mem {g : List (List Int)} {a : Int} (h0 : 0 ≤ a) (h1 : a < g.length) : row g a ∈ g := by
  have h : a.toNat < g.length := by omega
  unfold row
  rw [List.getD_eq_getElem?_getD, List.getElem?_eq_getElem h]
  exact List.getElem_mem h
theorem mem_row {g : List (List Int)} {r : List Int} (h : r ∈ g) : ∃ i : Int, 0 ≤ i ∧ i < g.length ∧ row g i = r := by
  obtain ⟨i, hi, rfl⟩ := List.mem_iff_getElem.1 h
  exact ⟨i, by omega, by omega, row_get hi⟩
theorem ext_row {xs ys : List (List Int)} (hl : xs.length = ys.length) (h : ∀ i : Int, 0 ≤ i → i < xs.length → row xs i = row ys i) : xs = ys := by
  apply List.ext_getElem hl
  intro i h1 h2
  have := h i (by omega) (by omega)
  rwa [row_get h1, row_get h2] at this
def AllIn (n : Int) (xs : List Int) : Prop := ∀ i : Int, 0 ≤ i → i < xs.length → 0 ≤ rd xs i ∧ rd xs i < n
theorem allIn_two {n x y : Int} (h0 : 0 ≤ x) (h1 : x < n) (h2 : 0 ≤ y) (h3 : y < n) : AllIn n [x, y] := by
  intro i i0 i1
  have : i = 0 ∨ i = 1 := by simp at i1; omega
  rcases this with rfl | rfl <;> simp [rd, *]
theorem AllIn.mem {n : Int} {xs : List Int} (h : AllIn n xs) {x : Int} (hx : x ∈ xs) : 0 ≤ x ∧ x < n := by
  obtain ⟨i, hi, rfl⟩ := List.mem_iff_getElem.1 hx
  have := h i (by omega) (by omega)
  rwa [rd_get hi] at this
theorem allIn_of {n : Int} {xs : List Int} (h : ∀ x ∈ xs, 0 ≤ x ∧ x < n) : AllIn n xs := fun i i0 i1 => h _ (rd_mem i0 i1)
theorem AllIn.drop {n : Int} {xs : List Int} (h : AllIn n xs) (j : Nat) : AllIn n (xs.drop j) := allIn_of fun x hx => h.mem (List.mem_of_mem_drop hx)
theorem AllIn.take {n : Int} {xs : List Int} (h : AllIn n xs) (j : Nat) : AllIn n (xs.take j) := allIn_of fun x hx => h.mem (List.mem_of_mem_take hx)
theorem AllIn.append {n : Int} {xs ys : List Int} (h : AllIn n xs) (k : AllIn n ys) : AllIn n (xs ++ ys) := allIn_of fun x hx => by
  rcases List.mem_append.1 hx with h' | h'
  · exact h.mem h'
  · exact k.mem h'
theorem tmod_nn {a m : Int} (h : 0 ≤ a) : Int.tmod a m = a % m := Int.tmod_eq_emod_of_nonneg h
end Go.Proofs.YtacipknfhoadoaaDoor.V
set_option linter.unusedVariables false
set_option linter.unusedSimpArgs false
set_option maxHeartbeats 2000000
set_option maxRecDepth 20000
namespace Go.Proofs.YtacipknfhoadoaaDoor.V
open Go.RowKit Go.Proofs.YtacipknfhoadoaaDoor.D Go.Proofs.YtacipknfhoadoaaDoor.P
theorem copy_step {α : Type} (xs : List α) (d : α) (m : Nat) (hm : m < xs.length) :
    (xs.take m ++ List.replicate (xs.length - m) d).set m xs[m] = xs.take (m + 1) ++ List.replicate (xs.length - (m + 1)) d := by
  have h1 : (xs.take m).length = m := by rw [List.length_take]; omega
  rw [List.set_append, if_neg (by omega), h1, Nat.sub_self]
  rw [show xs.length - m = (xs.length - (m + 1)) + 1 by omega, List.replicate_succ, List.set_cons_zero]
  rw [List.take_succ_eq_append_getElem hm, List.append_assoc]; rfl
theorem copy_len {α : Type} (xs : List α) (d : α) (m : Nat) (hm : m ≤ xs.length) : (xs.take m ++ List.replicate (xs.length - m) d).length = xs.length := by
  rw [List.length_append, List.length_take, List.length_replicate]; omega
theorem toInt64S (xs : List Int) (hl : xs.length ≤ 1048576) : laws_toInt64S.f xs = some xs := by
  rw [laws_toInt64S.f_eq, Int.toNat_natCast]
  (with_reducible repeat (first | refine go_pos (by first | assumption | omega | rfl | exact B_pos (by omega)) ?_ | refine go_neg (by first | assumption | omega | decide | exact B_not (by omega)) ?_ | refine go_bind (by first | assumption) ?_ | dsimp only))
  have := up xs.length (fun m => laws_toInt64S.l0 xs (m : Int) (xs.take m ++ List.replicate (xs.length - m) 0)) (fun m hm => by
    have hw : wrapI ((m : Int) + 1) = ((m + 1 : Nat) : Int) := by rw [w64 (by omega) (by omega)]; omega
    have l1 := copy_len xs (0 : Int) m (by omega)
    rw [← copy_step xs 0 m hm, laws_toInt64S.l0_eq, hw, Int.toNat_natCast, rd_get hm]
    ((with_reducible repeat (first | refine go_pos (by first | assumption | omega | rfl | exact B_pos (by omega)) ?_ | refine go_neg (by first | assumption | omega | decide | exact B_not (by omega)) ?_ | refine go_bind (by first | assumption) ?_ | dsimp only)); first | done | (with_reducible rfl) | simp (disch := omega) only [w64] | (show False; done)))
  simp only [List.take_zero, List.nil_append, Nat.sub_zero, List.take_length, Nat.sub_self, List.replicate_zero, List.append_nil, Int.natCast_zero] at this
  rw [this, laws_toInt64S.l0_eq]
  ((with_reducible repeat (first | refine go_pos (by first | assumption | omega | rfl | exact B_pos (by omega)) ?_ | refine go_neg (by first | assumption | omega | decide | exact B_not (by omega)) ?_ | refine go_bind (by first | assumption) ?_ | dsimp only)); first | done | (with_reducible rfl) | simp (disch := omega) only [w64] | (show False; done))
theorem toInt64SS (g : List (List Int)) (hl : g.length ≤ 1048576) (hr : ∀ r ∈ g, r.length ≤ 1048576) : laws_toInt64SS.f g = some g := by
  rw [laws_toInt64SS.f_eq, Int.toNat_natCast]
  (with_reducible repeat (first | refine go_pos (by first | assumption | omega | rfl | exact B_pos (by omega)) ?_ | refine go_neg (by first | assumption | omega | decide | exact B_not (by omega)) ?_ | refine go_bind (by first | assumption) ?_ | dsimp only))
  have := up g.length (fun m => laws_toInt64SS.l0 g (m : Int) (g.take m ++ List.replicate (g.length - m) [])) (fun m hm => by
    have hw : wrapI ((m : Int) + 1) = ((m + 1 : Nat) : Int) := by rw [w64 (by omega) (by omega)]; omega
    have l1 := copy_len g ([] : List Int) m (by omega)
    have ht := toInt64S g[m] (hr _ (List.getElem_mem hm))
    rw [← copy_step g [] m hm, laws_toInt64SS.l0_eq, hw, Int.toNat_natCast, row_get hm]
    ((with_reducible repeat (first | refine go_pos (by first | assumption | omega | rfl | exact B_pos (by omega)) ?_ | refine go_neg (by first | assumption | omega | decide | exact B_not (by omega)) ?_ | refine go_bind (by first | assumption) ?_ | dsimp only)); first | done | (with_reducible rfl) | simp (disch := omega) only [w64] | (show False; done)))
  simp only [List.take_zero, List.nil_append, Nat.sub_zero, List.take_length, Nat.sub_self, List.replicate_zero, List.append_nil, Int.natCast_zero] at this
  rw [this, laws_toInt64SS.l0_eq]
  ((with_reducible repeat (first | refine go_pos (by first | assumption | omega | rfl | exact B_pos (by omega)) ?_ | refine go_neg (by first | assumption | omega | decide | exact B_not (by omega)) ?_ | refine go_bind (by first | assumption) ?_ | dsimp only)); first | done | (with_reducible rfl) | simp (disch := omega) only [w64] | (show False; done))
theorem toGroup (g : List (List Int)) (hl : g.length ≤ 1048576) (hr : ∀ r ∈ g, r.length ≤ 1048576) : laws_toGroup.f g = some g := by
  rw [laws_toGroup.f_eq]; ((with_reducible repeat (first | refine go_pos (by first | assumption | omega | rfl | exact B_pos (by omega)) ?_ | refine go_neg (by first | assumption | omega | decide | exact B_not (by omega)) ?_ | refine go_bind (by first | assumption | exact toInt64SS _ hl hr) ?_ | dsimp only)); first | done | (with_reducible rfl) | simp (disch := omega) only [w64] | (show False; done))
theorem toModule (m : Int) (u : List Int) (hl : u.length ≤ 1048576) : laws_toModule.f m u = some (m, u) := by
  rw [laws_toModule.f_eq]; ((with_reducible repeat (first | refine go_pos (by first | assumption | omega | rfl | exact B_pos (by omega)) ?_ | refine go_neg (by first | assumption | omega | decide | exact B_not (by omega)) ?_ | refine go_bind (by first | assumption | exact toInt64S _ hl) ?_ | dsimp only)); first | done | (with_reducible rfl) | simp (disch := omega) only [w64] | (show False; done))
theorem eqInt64S (xs ys : List Int) (hl : xs.length ≤ maxLen) : laws_eqInt64S.f xs ys = some (B (xs = ys)) := by
  have hm := maxLen_le
  rw [laws_eqInt64S.f_eq]
  by_cases h : (xs.length : Int) = ys.length
  rotate_left
  · rw [B_neg fun e => h (by rw [e])]
    ((with_reducible repeat (first | refine go_pos (by first | assumption | omega | rfl | exact B_pos (by omega)) ?_ | refine go_neg (by first | assumption | omega | decide | exact B_not (by omega)) ?_ | refine go_bind (by first | assumption) ?_ | dsimp only)); first | done | (with_reducible rfl) | simp (disch := omega) only [w64] | (show False; done))
  (with_reducible repeat (first | refine go_pos (by first | assumption | omega | rfl | exact B_pos (by omega)) ?_ | refine go_neg (by first | assumption | omega | decide | exact B_not (by omega)) ?_ | refine go_bind (by first | assumption) ?_ | dsimp only))
  rw [B_congr (show xs = ys ↔ ∀ i : Int, 0 ≤ i → i < xs.length → rd xs i = rd ys i from ⟨fun e i _ _ => by rw [e], fun e => ext_rd (by omega) e⟩)]
  refine scanT xs.length (fun i => laws_eqInt64S.l0 xs ys i) (fun i => rd xs i = rd ys i) (fun i i0 i1 _ => ?_) (fun _ => by (rw [laws_eqInt64S.l0_eq]); ((with_reducible repeat (first | refine go_pos (by first | assumption | omega | rfl | exact B_pos (by omega)) ?_ | refine go_neg (by first | assumption | omega | decide | exact B_not (by omega)) ?_ | refine go_bind (by first | assumption) ?_ | dsimp only)); first | done | (with_reducible rfl) | simp (disch := omega) only [w64] | (show False; done)))
  refine ⟨fun h => ?_, fun h => ?_⟩ <;> (rw [laws_eqInt64S.l0_eq]) <;> ((with_reducible repeat (first | refine go_pos (by first | assumption | omega | rfl | exact B_pos (by omega)) ?_ | refine go_neg (by first | assumption | omega | decide | exact B_not (by omega)) ?_ | refine go_bind (by first | assumption) ?_ | dsimp only)); first | done | (with_reducible rfl) | simp (disch := omega) only [w64] | (show False; done))
theorem eqInt64SS (xs ys : List (List Int)) (hl : xs.length ≤ maxLen) (hr : ∀ r ∈ xs, r.length ≤ maxLen) : laws_eqInt64SS.f xs ys = some (B (xs = ys)) := by
  have hm := maxLen_le
  rw [laws_eqInt64SS.f_eq]
  by_cases h : (xs.length : Int) = ys.length
  rotate_left
  · rw [B_neg fun e => h (by rw [e])]
    ((with_reducible repeat (first | refine go_pos (by first | assumption | omega | rfl | exact B_pos (by omega)) ?_ | refine go_neg (by first | assumption | omega | decide | exact B_not (by omega)) ?_ | refine go_bind (by first | assumption) ?_ | dsimp only)); first | done | (with_reducible rfl) | simp (disch := omega) only [w64] | (show False; done))
  (with_reducible repeat (first | refine go_pos (by first | assumption | omega | rfl | exact B_pos (by omega)) ?_ | refine go_neg (by first | assumption | omega | decide | exact B_not (by omega)) ?_ | refine go_bind (by first | assumption) ?_ | dsimp only))
  rw [B_congr (show xs = ys ↔ ∀ i : Int, 0 ≤ i → i < xs.length → row xs i = row ys i from ⟨fun e i _ _ => by rw [e], fun e => ext_row (by omega) e⟩)]
  refine scanT xs.length (fun i => laws_eqInt64SS.l0 xs ys i) (fun i => row xs i = row ys i) (fun i i0 i1 _ => ?_) (fun _ => by (rw [laws_eqInt64SS.l0_eq]); ((with_reducible repeat (first | refine go_pos (by first | assumption | omega | rfl | exact B_pos (by omega)) ?_ | refine go_neg (by first | assumption | omega | decide | exact B_not (by omega)) ?_ | refine go_bind (by first | assumption) ?_ | dsimp only)); first | done | (with_reducible rfl) | simp (disch := omega) only [w64] | (show False; done)))
  have he := eqInt64S (row xs i) (row ys i) (hr _ (row_mem i0 i1))
  refine ⟨fun h => ?_, fun h => ?_⟩
  · rw [B_pos h] at he
    (rw [laws_eqInt64SS.l0_eq])
    ((with_reducible repeat (first | refine go_pos (by first | assumption | omega | rfl | exact B_pos (by omega)) ?_ | refine go_neg (by first | assumption | omega | decide | exact B_not (by omega)) ?_ | refine go_bind (by first | assumption) ?_ | dsimp only)); first | done | (with_reducible rfl) | simp (disch := omega) only [w64] | (show False; done))
  · rw [B_neg h] at he
    (rw [laws_eqInt64SS.l0_eq])
    ((with_reducible repeat (first | refine go_pos (by first | assumption | omega | rfl | exact B_pos (by omega)) ?_ | refine go_neg (by first | assumption | omega | decide | exact B_not (by omega)) ?_ | refine go_bind (by first | assumption) ?_ | dsimp only)); first | done | (with_reducible rfl) | simp (disch := omega) only [w64] | (show False; done))
theorem eqGroup (xs ys : List (List Int)) (hl : xs.length ≤ maxLen) (hr : ∀ r ∈ xs, r.length ≤ maxLen) : laws_eqGroup.f xs ys = some (B (xs = ys)) := by
  have he := eqInt64SS xs ys hl hr
  rw [laws_eqGroup.f_eq, he]
  by_cases h : xs = ys
  · rw [B_pos h]; rfl
  · rw [B_neg h]; rfl
theorem eqModule (m n : Int) (u v : List Int) (hl : u.length ≤ maxLen) : laws_eqModule.f m u n v = some (B (m = n ∧ u = v)) := by
  have he := eqInt64S u v hl
  rw [laws_eqModule.f_eq]
  by_cases h : m = n ∧ u = v
  · rw [B_pos h.2] at he; rw [B_pos h]; ((with_reducible repeat (first | refine go_pos (by first | assumption | omega | rfl | exact B_pos (by omega)) ?_ | refine go_neg (by first | assumption | omega | decide | exact B_not (by omega)) ?_ | refine go_bind (by first | assumption) ?_ | dsimp only)); first | done | (with_reducible rfl) | simp (disch := omega) only [w64] | (show False; done))
  · rw [B_neg h]
    by_cases h1 : m = n
    · rw [B_neg fun k => h ⟨h1, k⟩] at he; ((with_reducible repeat (first | refine go_pos (by first | assumption | omega | rfl | exact B_pos (by omega)) ?_ | refine go_neg (by first | assumption | omega | decide | exact B_not (by omega)) ?_ | refine go_bind (by first | assumption) ?_ | dsimp only)); first | done | (with_reducible rfl) | simp (disch := omega) only [w64] | (show False; done))
    · ((with_reducible repeat (first | refine go_pos (by first | assumption | omega | rfl | exact B_pos (by omega)) ?_ | refine go_neg (by first | assumption | omega | decide | exact B_not (by omega)) ?_ | refine go_bind (by first | assumption) ?_ | dsimp only)); first | done | (with_reducible rfl) | simp (disch := omega) only [w64] | (show False; done))
theorem same_Group (xs : List (List Int)) (hl : xs.length ≤ maxLen) (hr : ∀ r ∈ xs, r.length ≤ maxLen) : laws_eqGroup.f xs xs = some true := by rw [eqGroup xs xs hl hr, B_pos rfl]
theorem same_Module (m : Int) (u : List Int) (hl : u.length ≤ maxLen) : laws_eqModule.f m u m u = some true := by rw [eqModule m m u u hl, B_pos ⟨rfl, rfl⟩]
theorem szInt64S (xs : List Int) (left : Int) (hl : xs.length ≤ maxLen) (l0 : 0 ≤ left) (l1 : left ≤ 1048576) :
    ∃ t, laws_szInt64S.f xs left = some t ∧ (t < 0 ∨ (0 ≤ t ∧ t ≤ 1048576 ∧ xs.length ≤ 1048576)) := by
  have hm := maxLen_le
  rw [laws_szInt64S.f_eq, w64 (by omega) (by omega)]
  by_cases h : left - (xs.length : Int) < 0
  · exact ⟨_, if_pos h, .inl (by omega)⟩
  · exact ⟨_, if_neg h, .inr (by omega)⟩
theorem szInt64SS (g : List (List Int)) (left : Int) (hl : g.length ≤ maxLen) (hr : ∀ r ∈ g, r.length ≤ maxLen) (l0 : 0 ≤ left) (l1 : left ≤ 1048576) :
    ∃ t, laws_szInt64SS.f g left = some t ∧ (t < 0 ∨ (0 ≤ t ∧ t ≤ 1048576 ∧ g.length ≤ 1048576 ∧ ∀ r ∈ g, r.length ≤ 1048576)) := by
  have hm := maxLen_le
  rw [laws_szInt64SS.f_eq, w64 (by omega) (by omega)]
  by_cases h : left - (g.length : Int) < 0
  · exact ⟨_, if_pos h, .inl (by omega)⟩
  rw [if_neg h]
  have H : ∀ d m : Nat, m + d = g.length → ∀ s : Int, 0 ≤ s → s ≤ 1048576 → (∀ j, j < m → (row g j).length ≤ 1048576) → ∃ t, laws_szInt64SS.l0 g s (m : Int) = some t ∧ (t < 0 ∨ (0 ≤ t ∧ t ≤ 1048576 ∧ g.length ≤ 1048576 ∧ ∀ r ∈ g, r.length ≤ 1048576)) := by
    intro d
    induction d with
    | zero =>
      intro m hd s s0 s1 hs
      obtain rfl : m = g.length := by omega
      refine ⟨s, by (rw [laws_szInt64SS.l0_eq]); ((with_reducible repeat (first | refine go_pos (by first | assumption | omega | rfl | exact B_pos (by omega)) ?_ | refine go_neg (by first | assumption | omega | decide | exact B_not (by omega)) ?_ | refine go_bind (by first | assumption) ?_ | dsimp only)); first | done | (with_reducible rfl) | simp (disch := omega) only [w64] | (show False; done)), .inr ⟨s0, s1, by omega, fun r hr' => ?_⟩⟩
      obtain ⟨i, i0, i1, rfl⟩ := mem_row hr'
      have := hs i.toNat (by omega)
      rwa [show ((i.toNat : Nat) : Int) = i by omega] at this
    | succ d ih =>
      intro m hd s s0 s1 hs
      obtain ⟨t, ht, h⟩ := szInt64S (row g m) s (hr _ (row_mem (by omega) (by omega))) s0 s1
      have hw : wrapI ((m : Int) + 1) = ((m + 1 : Nat) : Int) := by rw [w64 (by omega) (by omega)]; omega
      rcases h with h | ⟨h0, h1, h2⟩
      · refine ⟨-1, ?_, .inl (by omega)⟩
        (rw [laws_szInt64SS.l0_eq])
        ((with_reducible repeat (first | refine go_pos (by first | assumption | omega | rfl | exact B_pos (by omega)) ?_ | refine go_neg (by first | assumption | omega | decide | exact B_not (by omega)) ?_ | refine go_bind (by first | assumption) ?_ | dsimp only)); first | done | (with_reducible rfl) | simp (disch := omega) only [w64] | (show False; done))
      · obtain ⟨t', ht', h'⟩ := ih (m + 1) (by omega) t h0 h1 (fun j hj => by
          by_cases e : j = m
          · rw [e]; exact h2
          · exact hs j (by omega))
        refine ⟨t', ?_, h'⟩
        (rw [laws_szInt64SS.l0_eq, hw])
        (with_reducible repeat (first | refine go_pos (by first | assumption | omega | rfl | exact B_pos (by omega)) ?_ | refine go_neg (by first | assumption | omega | decide | exact B_not (by omega)) ?_ | refine go_bind (by first | assumption) ?_ | dsimp only))
        exact ht'
  have := H g.length 0 (by omega) (left - g.length) (by omega) (by omega) (fun j hj => by omega)
  exact this
theorem szGroup (g : List (List Int)) (left : Int) (hl : g.length ≤ maxLen) (hr : ∀ r ∈ g, r.length ≤ maxLen) (l0 : 0 ≤ left) (l1 : left ≤ 1048576) :
    ∃ t, laws_szGroup.f g left = some t ∧ (t < 0 ∨ (0 ≤ t ∧ t ≤ 1048576 ∧ g.length ≤ 1048576 ∧ ∀ r ∈ g, r.length ≤ 1048576)) := by
  obtain ⟨t, ht, h⟩ := szInt64SS g left hl hr l0 l1
  rw [laws_szGroup.f_eq]
  rcases h with h | h
  · exact ⟨-1, by ((with_reducible repeat (first | refine go_pos (by first | assumption | omega | rfl | exact B_pos (by omega)) ?_ | refine go_neg (by first | assumption | omega | decide | exact B_not (by omega)) ?_ | refine go_bind (by first | assumption) ?_ | dsimp only)); first | done | (with_reducible rfl) | simp (disch := omega) only [w64] | (show False; done)), .inl (by omega)⟩
  · have := h.1
    exact ⟨t, by ((with_reducible repeat (first | refine go_pos (by first | assumption | omega | rfl | exact B_pos (by omega)) ?_ | refine go_neg (by first | assumption | omega | decide | exact B_not (by omega)) ?_ | refine go_bind (by first | assumption) ?_ | dsimp only)); first | done | (with_reducible rfl) | simp (disch := omega) only [w64] | (show False; done)), .inr h⟩
theorem szModule (m : Int) (u : List Int) (left : Int) (hl : u.length ≤ maxLen) (l0 : 0 ≤ left) (l1 : left ≤ 1048576) :
    ∃ t, laws_szModule.f m u left = some t ∧ (t < 0 ∨ (0 ≤ t ∧ t ≤ 1048576 ∧ u.length ≤ 1048576)) := by
  obtain ⟨t, ht, h⟩ := szInt64S u left hl l0 l1
  rw [laws_szModule.f_eq]
  rcases h with h | h
  · exact ⟨-1, by ((with_reducible repeat (first | refine go_pos (by first | assumption | omega | rfl | exact B_pos (by omega)) ?_ | refine go_neg (by first | assumption | omega | decide | exact B_not (by omega)) ?_ | refine go_bind (by first | assumption) ?_ | dsimp only)); first | done | (with_reducible rfl) | simp (disch := omega) only [w64] | (show False; done)), .inl (by omega)⟩
  · have := h.1
    exact ⟨t, by ((with_reducible repeat (first | refine go_pos (by first | assumption | omega | rfl | exact B_pos (by omega)) ?_ | refine go_neg (by first | assumption | omega | decide | exact B_not (by omega)) ?_ | refine go_bind (by first | assumption) ?_ | dsimp only)); first | done | (with_reducible rfl) | simp (disch := omega) only [w64] | (show False; done)), .inr h⟩
def MkS (a : Int) (n : Nat) : List Int := (List.range n).map fun (i : Nat) => a + (i : Int)
theorem MkS_length (a : Int) (n : Nat) : (MkS a n).length = n := by simp [MkS]
theorem MkS_rd {a : Int} {n : Nat} {i : Int} (h0 : 0 ≤ i) (h1 : i < n) : rd (MkS a n) i = a + i := by
  have h : i.toNat < n := by omega
  simp [rd, MkS, List.getD_eq_getElem?_getD, h]
  omega
theorem MkS_step (a : Int) (xs : List Int) (m : Nat) (hm : m < xs.length) : (MkS a m ++ xs.drop m).set m (a + m) = MkS a (m + 1) ++ xs.drop (m + 1) := by
  rw [List.set_append, if_neg (by rw [MkS_length]; omega), MkS_length, Nat.sub_self, List.drop_eq_getElem_cons hm, List.set_cons_zero]
  simp [MkS, List.range_succ]
theorem markS (xs : List Int) (a : Int) (h0 : 0 ≤ a) (h1 : a + xs.length ≤ 4611686018427387904) : laws_markInt64S.f xs a = some (a + xs.length, MkS a xs.length) := by
  rw [laws_markInt64S.f_eq]
  have := up xs.length (fun m => laws_markInt64S.l0 (a + (m : Int)) (m : Int) (MkS a m ++ xs.drop m)) (fun m hm => by
    have hw : wrapI ((m : Int) + 1) = ((m + 1 : Nat) : Int) := by rw [w64 (by omega) (by omega)]; omega
    have hw2 : wrapI (a + (m : Int) + 1) = a + ((m + 1 : Nat) : Int) := by rw [w64 (by omega) (by omega)]; omega
    have l1 : (MkS a m ++ xs.drop m).length = xs.length := by rw [List.length_append, MkS_length, List.length_drop]; omega
    rw [← MkS_step a xs m hm, laws_markInt64S.l0_eq, hw, hw2, Int.toNat_natCast]
    ((with_reducible repeat (first | refine go_pos (by first | assumption | omega | rfl | exact B_pos (by omega)) ?_ | refine go_neg (by first | assumption | omega | decide | exact B_not (by omega)) ?_ | refine go_bind (by first | assumption) ?_ | dsimp only)); first | done | (with_reducible rfl) | simp (disch := omega) only [w64] | (show False; done)))
  simp only [Int.natCast_zero, Int.add_zero, List.drop_zero, List.drop_length, List.append_nil, show MkS a 0 = [] from rfl, List.nil_append] at this
  have hl := MkS_length a xs.length
  rw [this, laws_markInt64S.l0_eq]
  ((with_reducible repeat (first | refine go_pos (by first | assumption | omega | rfl | exact B_pos (by omega)) ?_ | refine go_neg (by first | assumption | omega | decide | exact B_not (by omega)) ?_ | refine go_bind (by first | assumption) ?_ | dsimp only)); first | done | (with_reducible rfl) | simp (disch := omega) only [w64] | (show False; done))
theorem heldS (a : Int) (n : Nat) (h0 : 0 ≤ a) (h1 : a + n ≤ 4611686018427387904) : laws_heldInt64S.f (MkS a n) a = some (a + n) := by
  rw [laws_heldInt64S.f_eq]
  have hl := MkS_length a n
  have := up n (fun m => laws_heldInt64S.l0 (MkS a n) (a + (m : Int)) (m : Int)) (fun m hm => by
    have hw : wrapI ((m : Int) + 1) = ((m + 1 : Nat) : Int) := by rw [w64 (by omega) (by omega)]; omega
    have hw2 : wrapI (a + (m : Int) + 1) = a + ((m + 1 : Nat) : Int) := by rw [w64 (by omega) (by omega)]; omega
    have e := MkS_rd (a := a) (n := n) (i := m) (by omega) (by omega)
    rw [laws_heldInt64S.l0_eq, hw, hw2]
    ((with_reducible repeat (first | refine go_pos (by first | assumption | omega | rfl | exact B_pos (by omega)) ?_ | refine go_neg (by first | assumption | omega | decide | exact B_not (by omega)) ?_ | refine go_bind (by first | assumption) ?_ | dsimp only)); first | done | (with_reducible rfl) | simp (disch := omega) only [w64] | (show False; done)))
  simp only [Int.natCast_zero, Int.add_zero] at this
  rw [this, laws_heldInt64S.l0_eq]
  ((with_reducible repeat (first | refine go_pos (by first | assumption | omega | rfl | exact B_pos (by omega)) ?_ | refine go_neg (by first | assumption | omega | decide | exact B_not (by omega)) ?_ | refine go_bind (by first | assumption) ?_ | dsimp only)); first | done | (with_reducible rfl) | simp (disch := omega) only [w64] | (show False; done))
def tot : List (List Int) → Nat
  | [] => 0
  | r :: g => r.length + tot g
def MkSS (a : Int) : List (List Int) → List (List Int)
  | [] => []
  | r :: g => MkS a r.length :: MkSS (a + r.length) g
theorem tot_le (b : Nat) (g : List (List Int)) (h : ∀ r ∈ g, r.length ≤ b) : tot g ≤ g.length * b := by
  induction g with
  | nil => simp [tot]
  | cons r g ih =>
    have h1 := ih fun r hr => h r (List.mem_cons_of_mem _ hr)
    have h2 := h r (List.mem_cons_self ..)
    rw [List.length_cons, Nat.succ_mul, tot]
    omega
theorem tot_small {g : List (List Int)} (h1 : g.length ≤ 1048576) (h2 : ∀ r ∈ g, r.length ≤ 1048576) : tot g ≤ 1099511627776 :=
  Nat.le_trans (tot_le 1048576 g h2) (Nat.mul_le_mul_right 1048576 h1)
theorem markSS (g : List (List Int)) (a : Int) (h0 : 0 ≤ a) (h1 : a + tot g ≤ 4611686018427387904) (hl : g.length ≤ 4611686018427387904) : laws_markInt64SS.f g a = some (a + tot g, MkSS a g) := by
  rw [laws_markInt64SS.f_eq]
  suffices H : ∀ (g done : List (List Int)) (b : Int), 0 ≤ b → b + tot g ≤ 4611686018427387904 → done.length + g.length ≤ 4611686018427387904 → laws_markInt64SS.l0 b (done.length : Int) (done ++ g) = some (b + tot g, done ++ MkSS b g) from by
    simpa using H g [] a h0 h1 (by simpa using hl)
  intro g
  induction g with
  | nil =>
    intro done b b0 b1 hd
    rw [laws_markInt64SS.l0_eq, List.append_nil]
    have : b + ((tot [] : Nat) : Int) = b := by simp [tot]
    rw [this, MkSS, List.append_nil]
    ((with_reducible repeat (first | refine go_pos (by first | assumption | omega | rfl | exact B_pos (by omega)) ?_ | refine go_neg (by first | assumption | omega | decide | exact B_not (by omega)) ?_ | refine go_bind (by first | assumption) ?_ | dsimp only)); first | done | (with_reducible rfl) | simp (disch := omega) only [w64] | (show False; done))
  | cons r g ih =>
    intro done b b0 b1 hd
    simp only [tot, List.length_cons] at b1 hd
    have m1 : (done ++ r :: g).length = done.length + g.length + 1 := by rw [List.length_append, List.length_cons]; omega
    have hw : wrapI ((done.length : Int) + 1) = (((done ++ [MkS b r.length]).length : Nat) : Int) := by
      rw [w64 (by omega) (by omega), List.length_append, List.length_singleton]; omega
    have e : row (done ++ r :: g) (done.length : Int) = r := by simp [row, List.getD_eq_getElem?_getD]
    have e2 : (done ++ r :: g).set done.length (MkS b r.length) = (done ++ [MkS b r.length]) ++ g := by
      rw [List.set_append, if_neg (by omega), Nat.sub_self, List.set_cons_zero]; simp
    have hm := markS r b b0 (by omega)
    rw [laws_markInt64SS.l0_eq, hw, e, Int.toNat_natCast]
    (with_reducible repeat (first | refine go_pos (by first | assumption | omega | rfl | exact B_pos (by omega)) ?_ | refine go_neg (by first | assumption | omega | decide | exact B_not (by omega)) ?_ | refine go_bind (by first | assumption) ?_ | dsimp only))
    have := ih (done ++ [MkS b r.length]) (b + r.length) (by omega) (by omega) (by rw [List.length_append, List.length_singleton]; omega)
    rw [e2, this]
    simp only [MkSS, tot, List.append_assoc, List.singleton_append, Int.natCast_add, Int.add_assoc]
theorem markGroup (g : List (List Int)) (a : Int) (h0 : 0 ≤ a) (h1 : a + tot g ≤ 4611686018427387904) (hl : g.length ≤ 4611686018427387904) : laws_markGroup.f g a = some (a + tot g, MkSS a g) := by
  have := markSS g a h0 h1 hl
  rw [laws_markGroup.f_eq]; ((with_reducible repeat (first | refine go_pos (by first | assumption | omega | rfl | exact B_pos (by omega)) ?_ | refine go_neg (by first | assumption | omega | decide | exact B_not (by omega)) ?_ | refine go_bind (by first | assumption) ?_ | dsimp only)); first | done | (with_reducible rfl) | simp (disch := omega) only [w64] | (show False; done))
theorem markModule (m : Int) (xs : List Int) (a : Int) (h0 : 0 ≤ a) (h1 : a + xs.length ≤ 4611686018427387904) : laws_markModule.f m xs a = some (a + xs.length, MkS a xs.length) := by
  have := markS xs a h0 h1
  rw [laws_markModule.f_eq]; ((with_reducible repeat (first | refine go_pos (by first | assumption | omega | rfl | exact B_pos (by omega)) ?_ | refine go_neg (by first | assumption | omega | decide | exact B_not (by omega)) ?_ | refine go_bind (by first | assumption) ?_ | dsimp only)); first | done | (with_reducible rfl) | simp (disch := omega) only [w64] | (show False; done))
end Go.Proofs.YtacipknfhoadoaaDoor.V
set_option linter.unusedVariables false
namespace Go.Proofs.YtacipknfhoadoaaDoor.P
open Go Go.RowKit Go.Proofs.YtacipknfhoadoaaDoor.D
end Go.Proofs.YtacipknfhoadoaaDoor.P
set_option linter.unusedVariables false
namespace Go.Proofs.YtacipknfhoadoaaDoor.P
open Go Go.RowKit Go.Proofs.YtacipknfhoadoaaDoor.D
end Go.Proofs.YtacipknfhoadoaaDoor.P
set_option linter.unusedVariables false
set_option linter.unusedSimpArgs false
set_option maxHeartbeats 2000000
namespace Go.Proofs.YtacipknfhoadoaaDoor.V
open Go.RowKit Go.Proofs.YtacipknfhoadoaaDoor.D Go.Proofs.YtacipknfhoadoaaDoor.P
theorem eqCochain (m n : Int) (u v : List Int) (hl : u.length ≤ maxLen) : laws_eqCochain.f m u n v = some (B (m = n ∧ u = v)) := by
  have he := eqInt64S u v hl
  rw [laws_eqCochain.f_eq]
  by_cases h : m = n ∧ u = v
  · rw [B_pos h.2] at he; rw [B_pos h]; ((with_reducible repeat (first | refine go_pos (by first | assumption | omega | rfl | exact B_pos (by omega)) ?_ | refine go_neg (by first | assumption | omega | decide | exact B_not (by omega)) ?_ | refine go_bind (by first | assumption) ?_ | dsimp only)); first | done | (with_reducible rfl) | simp (disch := omega) only [w64] | (show False; done))
  · rw [B_neg h]
    by_cases h1 : m = n
    · rw [B_neg fun k => h ⟨h1, k⟩] at he; ((with_reducible repeat (first | refine go_pos (by first | assumption | omega | rfl | exact B_pos (by omega)) ?_ | refine go_neg (by first | assumption | omega | decide | exact B_not (by omega)) ?_ | refine go_bind (by first | assumption) ?_ | dsimp only)); first | done | (with_reducible rfl) | simp (disch := omega) only [w64] | (show False; done))
    · ((with_reducible repeat (first | refine go_pos (by first | assumption | omega | rfl | exact B_pos (by omega)) ?_ | refine go_neg (by first | assumption | omega | decide | exact B_not (by omega)) ?_ | refine go_bind (by first | assumption) ?_ | dsimp only)); first | done | (with_reducible rfl) | simp (disch := omega) only [w64] | (show False; done))
theorem same_Cochain (m : Int) (u : List Int) (hl : u.length ≤ maxLen) : laws_eqCochain.f m u m u = some true := by rw [eqCochain m m u u hl, B_pos ⟨rfl, rfl⟩]
theorem markCochain (m : Int) (xs : List Int) (a : Int) (h0 : 0 ≤ a) (h1 : a + xs.length ≤ 4611686018427387904) : laws_markCochain.f m xs a = some (a + xs.length, MkS a xs.length) := by
  have := markS xs a h0 h1
  rw [laws_markCochain.f_eq]; ((with_reducible repeat (first | refine go_pos (by first | assumption | omega | rfl | exact B_pos (by omega)) ?_ | refine go_neg (by first | assumption | omega | decide | exact B_not (by omega)) ?_ | refine go_bind (by first | assumption) ?_ | dsimp only)); first | done | (with_reducible rfl) | simp (disch := omega) only [w64] | (show False; done))
theorem heldCochain (m : Int) (a : Int) (n : Nat) (h0 : 0 ≤ a) (h1 : a + n ≤ 4611686018427387904) : laws_heldCochain.f m (MkS a n) a = some (a + n) := by
  have := heldS a n h0 h1
  rw [laws_heldCochain.f_eq]; ((with_reducible repeat (first | refine go_pos (by first | assumption | omega | rfl | exact B_pos (by omega)) ?_ | refine go_neg (by first | assumption | omega | decide | exact B_not (by omega)) ?_ | refine go_bind (by first | assumption) ?_ | dsimp only)); first | done | (with_reducible rfl) | simp (disch := omega) only [w64] | (show False; done))
end Go.Proofs.YtacipknfhoadoaaDoor.V
set_option linter.unusedVariables false
namespace Go.Proofs.YtacipknfhoadoaaDoor.D
open Go Go.RowKit
end Go.Proofs.YtacipknfhoadoaaDoor.D
set_option linter.unusedVariables false
set_option linter.unusedSimpArgs false
namespace Go.Proofs.YtacipknfhoadoaaDoor.D
open Go Go.RowKit
end Go.Proofs.YtacipknfhoadoaaDoor.D
namespace Go.Proofs.YtacipknfhoadoaaDoor.D
noncomputable def fuel : Nat := Classical.choose (⟨64, rfl⟩ : ∃ n, n = 64)
end Go.Proofs.YtacipknfhoadoaaDoor.D
set_option linter.unusedVariables false
namespace Go.Proofs.YtacipknfhoadoaaDoor.P
open Go Go.RowKit Go.Proofs.YtacipknfhoadoaaDoor.D
end Go.Proofs.YtacipknfhoadoaaDoor.P
set_option linter.unusedVariables false
namespace Go.Proofs.YtacipknfhoadoaaDoor.P
open Go Go.RowKit Go.Proofs.YtacipknfhoadoaaDoor.D
end Go.Proofs.YtacipknfhoadoaaDoor.P
set_option linter.unusedVariables false
namespace Go.Proofs.YtacipknfhoadoaaDoor.P
open Go Go.RowKit Go.Proofs.YtacipknfhoadoaaDoor.D
noncomputable def istrconv_small.E : Env := { tt := TT, con := [], frz := [], rows := [], live := [], n := 15, pin := 0, nils := [] }
noncomputable def istrconv_small.fn : D.Fn := { body := Tryd.f80.body.getD .skip, res := Tryd.f80.results.toList, ins := [.one (.v (.int .i64))], outs := [.one (.v .str)] }
def istrconv_small.enc (y : lsd (flats istrconv_small.fn.outs) × lsd (ios istrconv_small.fn.ins)) : ByteArray := y.1.1
noncomputable def istrconv_small.f (a0 : Int) : Option ByteArray := denF istrconv_small.E istrconv_small.fn istrconv_small.enc (a0, ())
set_option maxRecDepth 100000 in
theorem istrconv_small.f_eq (a0 : Int) : istrconv_small.f a0 = if a0 < 10 then (if 0 ≤ a0 then (if a0 ≤ wrapI (a0 + 1) then (if wrapI (a0 + 1) ≤ ((⟨#[48, 49, 50, 51, 52, 53, 54, 55, 56, 57, 97, 98, 99, 100, 101, 102, 103, 104, 105, 106, 107, 108, 109, 110, 111, 112, 113, 114, 115, 116, 117, 118, 119, 120, 121, 122]⟩ : ByteArray).size : Int) then (some ((⟨#[48, 49, 50, 51, 52, 53, 54, 55, 56, 57, 97, 98, 99, 100, 101, 102, 103, 104, 105, 106, 107, 108, 109, 110, 111, 112, 113, 114, 115, 116, 117, 118, 119, 120, 121, 122]⟩ : ByteArray).extract (a0 : Int).toNat (wrapI (a0 + 1) : Int).toNat)) else none) else none) else none) else (if 0 ≤ wrapI (a0 * 2) then (if wrapI (a0 * 2) ≤ wrapI ((wrapI (a0 * 2)) + 2) then (if wrapI ((wrapI (a0 * 2)) + 2) ≤ ((⟨List.toArray (List.append (List.append ([48, 48, 48, 49, 48, 50, 48, 51, 48, 52, 48, 53, 48, 54, 48, 55, 48, 56, 48, 57, 49, 48, 49, 49, 49, 50, 49, 51, 49, 52, 49, 53, 49, 54, 49, 55, 49, 56, 49, 57, 50, 48, 50, 49, 50, 50, 50, 51, 50, 52] : List UInt8) ([50, 53, 50, 54, 50, 55, 50, 56, 50, 57, 51, 48, 51, 49, 51, 50, 51, 51, 51, 52, 51, 53, 51, 54, 51, 55, 51, 56, 51, 57, 52, 48, 52, 49, 52, 50, 52, 51, 52, 52, 52, 53, 52, 54, 52, 55, 52, 56, 52, 57] : List UInt8)) (List.append ([53, 48, 53, 49, 53, 50, 53, 51, 53, 52, 53, 53, 53, 54, 53, 55, 53, 56, 53, 57, 54, 48, 54, 49, 54, 50, 54, 51, 54, 52, 54, 53, 54, 54, 54, 55, 54, 56, 54, 57, 55, 48, 55, 49, 55, 50, 55, 51, 55, 52] : List UInt8) ([55, 53, 55, 54, 55, 55, 55, 56, 55, 57, 56, 48, 56, 49, 56, 50, 56, 51, 56, 52, 56, 53, 56, 54, 56, 55, 56, 56, 56, 57, 57, 48, 57, 49, 57, 50, 57, 51, 57, 52, 57, 53, 57, 54, 57, 55, 57, 56, 57, 57] : List UInt8)))⟩ : ByteArray).size : Int) then (some ((⟨List.toArray (List.append (List.append ([48, 48, 48, 49, 48, 50, 48, 51, 48, 52, 48, 53, 48, 54, 48, 55, 48, 56, 48, 57, 49, 48, 49, 49, 49, 50, 49, 51, 49, 52, 49, 53, 49, 54, 49, 55, 49, 56, 49, 57, 50, 48, 50, 49, 50, 50, 50, 51, 50, 52] : List UInt8) ([50, 53, 50, 54, 50, 55, 50, 56, 50, 57, 51, 48, 51, 49, 51, 50, 51, 51, 51, 52, 51, 53, 51, 54, 51, 55, 51, 56, 51, 57, 52, 48, 52, 49, 52, 50, 52, 51, 52, 52, 52, 53, 52, 54, 52, 55, 52, 56, 52, 57] : List UInt8)) (List.append ([53, 48, 53, 49, 53, 50, 53, 51, 53, 52, 53, 53, 53, 54, 53, 55, 53, 56, 53, 57, 54, 48, 54, 49, 54, 50, 54, 51, 54, 52, 54, 53, 54, 54, 54, 55, 54, 56, 54, 57, 55, 48, 55, 49, 55, 50, 55, 51, 55, 52] : List UInt8) ([55, 53, 55, 54, 55, 55, 55, 56, 55, 57, 56, 48, 56, 49, 56, 50, 56, 51, 56, 52, 56, 53, 56, 54, 56, 55, 56, 56, 56, 57, 57, 48, 57, 49, 57, 50, 57, 51, 57, 52, 57, 53, 57, 54, 57, 55, 57, 56, 57, 57] : List UInt8)))⟩ : ByteArray).extract (wrapI (a0 * 2) : Int).toNat (wrapI ((wrapI (a0 * 2)) + 2) : Int).toNat)) else none) else none) else none) := by kernel_rfl
noncomputable def istrconv_small.con : Con := ⟨istrconv_small.fn.ins, istrconv_small.fn.outs, ByteArray, fun x => istrconv_small.f x.1, fun r => ((r, ()), (()))⟩
theorem istrconv_small.valid : Valid Tryd.prog 80 istrconv_small.con := fn_valid (f := istrconv_small.fn) (E := istrconv_small.E) (enc := istrconv_small.enc) ⟨ttOk, conNil⟩ (Checked.mixed Tryd.checked) ⟨Tryd.func80, by kernel_rfl, by kernel_rfl, by kernel_rfl, by kernel_rfl, by decide, by kernel_rfl, by kernel_rfl⟩ (fun _ => rfl)
end Go.Proofs.YtacipknfhoadoaaDoor.P
set_option linter.unusedVariables false
namespace Go.Proofs.YtacipknfhoadoaaDoor.P
open Go Go.RowKit Go.Proofs.YtacipknfhoadoaaDoor.D
noncomputable def istrconv_FormatInt.E : Env := { tt := TT, con := [(80, istrconv_small.con)], frz := [], rows := [], live := [], n := 54, pin := 0, nils := [] }
noncomputable def istrconv_FormatInt.fn : D.Fn := { body := Tryd.f70.body.getD .skip, res := Tryd.f70.results.toList, ins := [.one (.v (.int .i64)), .one (.v (.int .i64))], outs := [.one (.v .str)] }
def istrconv_FormatInt.enc (y : lsd (flats istrconv_FormatInt.fn.outs) × lsd (ios istrconv_FormatInt.fn.ins)) : ByteArray := y.1.1
noncomputable def istrconv_FormatInt.f (a0 : Int) (a1 : Int) : Option ByteArray := denF istrconv_FormatInt.E istrconv_FormatInt.fn istrconv_FormatInt.enc (a0, a1, ())
set_option maxRecDepth 100000 in
theorem istrconv_FormatInt.f_eq (a0 : Int) (a1 : Int) : istrconv_FormatInt.f a0 a1 = if a1 = 10 then (if 0 ≤ a0 then (if a0 < 100 then ((istrconv_small.f a0).bind fun t19 => some t19) else none) else none) else none := by kernel_rfl
noncomputable def istrconv_FormatInt.con : Con := ⟨istrconv_FormatInt.fn.ins, istrconv_FormatInt.fn.outs, ByteArray, fun x => istrconv_FormatInt.f x.1 x.2.1, fun r => ((r, ()), (()))⟩
theorem istrconv_FormatInt.valid : Valid Tryd.prog 70 istrconv_FormatInt.con := fn_valid (f := istrconv_FormatInt.fn) (E := istrconv_FormatInt.E) (enc := istrconv_FormatInt.enc) ⟨ttOk, (conCons istrconv_small.valid conNil)⟩ (Checked.mixed Tryd.checked) ⟨Tryd.func70, by kernel_rfl, by kernel_rfl, by kernel_rfl, by kernel_rfl, by decide, by kernel_rfl, by kernel_rfl⟩ (fun _ => rfl)
end Go.Proofs.YtacipknfhoadoaaDoor.P
set_option linter.unusedVariables false
namespace Go.Proofs.YtacipknfhoadoaaDoor.P
open Go Go.RowKit Go.Proofs.YtacipknfhoadoaaDoor.D
end Go.Proofs.YtacipknfhoadoaaDoor.P
set_option linter.unusedVariables false
namespace Go.Proofs.YtacipknfhoadoaaDoor.P
open Go Go.RowKit Go.Proofs.YtacipknfhoadoaaDoor.D
end Go.Proofs.YtacipknfhoadoaaDoor.P
