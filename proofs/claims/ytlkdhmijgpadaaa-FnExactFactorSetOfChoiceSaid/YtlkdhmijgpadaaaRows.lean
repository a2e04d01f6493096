/-
  No cell of these rows narrows 'for every input' (looked for: loops, veiled, ifaces, maps, wideKeys, modest, calm, conditions, laid).
  DERIVED. THE GIVEN ROWS OF THIS SEAT. 6 by the template 'for every input the law returns true; each argument reads behind the call as it read before'; 0 by the template 'total and deterministic' (their statements: YtlkdhmijgpadaaaTotals.lean).
  GIVEN WITH THE SEED: the statements are not yours to turn. If you find one false, say at which input.
  Laid BY PROGRAM, IN A SANDBOX (cutbox-rows.mjs): the forced cells as the released guide's own fill.sh prints them over the translation f4368d137af5e347… (all of the seat's roots in one cut). By AI agents, Wed Nov 11 2026. No macro, syntax, notation, axiom, sorry.
-/
import Derived.Test.YtlkdhmijgpadaaaChecked
import GoSem.Claim
import GoSem.ClaimJoined
import GoSem.ClaimMapViews
import Derived.JoinedTies
import Derived.KernelRfl
namespace Go.Proofs.Ytlkdhmijgpadaaa
/- THE CELL 'sum', in the pinned program and in every row, IS THE sha256 OF THE DUMP (.gsa) THAT YtlkdhmijgpadaaaProg.lean LOADS. Nothing in Lean hashes anything: it is a label: what it is worth is what the hold of that sum in a sandbox is worth. -/
noncomputable def Try.pinned : Pinned := { name := "ytlkdhmijgpadaaa", sum := "f4368d137af5e34750c07d2cf53ccde184a55739852fb06f20706d8a88acd4f4", checked := Try.checked }
namespace Rows
def none {H : Type} : Left H := { results := [], args := [] }

/-- 'laws.FnExactOrdersOfExtension': WHATEVER THE INPUT: true; the input reads as it did. -/
def fnExactOrdersOfExtensionSpec : ChangeSpec := { name := "fnExactOrdersOfExtension", fn := fun _ => fun
  | [d1, d2, d3] => { results := [.lit (.bool true)], args := [d1, d2, d3] }
  | _ => none }
def fnExactOrdersOfExtensionRow : OpenClaim := { program := "ytlkdhmijgpadaaa", sum := "f4368d137af5e34750c07d2cf53ccde184a55739852fb06f20706d8a88acd4f4", func := "loop.example/g01363/laws.FnExactOrdersOfExtension", spec := "fnExactOrdersOfExtension", unfollowed := true, recurses := true, apart := false }
def FnExactOrdersOfExtensionSaid : Prop := fnExactOrdersOfExtensionRow.holds Try.pinned (OpenSpec.ofChange fnExactOrdersOfExtensionSpec)

/-- ITS FALSE NEIGHBOUR: 'it returns false'. Refute it at one input. -/
def fnExactOrdersOfExtensionWrong : ChangeSpec := { name := "fnExactOrdersOfExtension", fn := fun _ => fun
  | [d1, d2, d3] => { results := [.lit (.bool false)], args := [d1, d2, d3] }
  | _ => none }
def FnExactOrdersOfExtensionWrongFalsely : Prop := fnExactOrdersOfExtensionRow.holds Try.pinned (OpenSpec.ofChange fnExactOrdersOfExtensionWrong)

/-- 'laws.FnExactOrderOfCohomology': WHATEVER THE INPUT: true; the input reads as it did. -/
def fnExactOrderOfCohomologySpec : ChangeSpec := { name := "fnExactOrderOfCohomology", fn := fun _ => fun
  | [d1, d2, d3] => { results := [.lit (.bool true)], args := [d1, d2, d3] }
  | _ => none }
def fnExactOrderOfCohomologyRow : OpenClaim := { program := "ytlkdhmijgpadaaa", sum := "f4368d137af5e34750c07d2cf53ccde184a55739852fb06f20706d8a88acd4f4", func := "loop.example/g01363/laws.FnExactOrderOfCohomology", spec := "fnExactOrderOfCohomology", unfollowed := true, recurses := true, apart := false }
def FnExactOrderOfCohomologySaid : Prop := fnExactOrderOfCohomologyRow.holds Try.pinned (OpenSpec.ofChange fnExactOrderOfCohomologySpec)

/-- ITS FALSE NEIGHBOUR: 'it returns false'. Refute it at one input. -/
def fnExactOrderOfCohomologyWrong : ChangeSpec := { name := "fnExactOrderOfCohomology", fn := fun _ => fun
  | [d1, d2, d3] => { results := [.lit (.bool false)], args := [d1, d2, d3] }
  | _ => none }
def FnExactOrderOfCohomologyWrongFalsely : Prop := fnExactOrderOfCohomologyRow.holds Try.pinned (OpenSpec.ofChange fnExactOrderOfCohomologyWrong)

/-- 'laws.FnExactModuleOfChoice': WHATEVER THE INPUT: true; the input reads as it did. -/
def fnExactModuleOfChoiceSpec : ChangeSpec := { name := "fnExactModuleOfChoice", fn := fun _ => fun
  | [d1, d2] => { results := [.lit (.bool true)], args := [d1, d2] }
  | _ => none }
def fnExactModuleOfChoiceRow : OpenClaim := { program := "ytlkdhmijgpadaaa", sum := "f4368d137af5e34750c07d2cf53ccde184a55739852fb06f20706d8a88acd4f4", func := "loop.example/g01363/laws.FnExactModuleOfChoice", spec := "fnExactModuleOfChoice", unfollowed := true, recurses := true, apart := false }
def FnExactModuleOfChoiceSaid : Prop := fnExactModuleOfChoiceRow.holds Try.pinned (OpenSpec.ofChange fnExactModuleOfChoiceSpec)

/-- ITS FALSE NEIGHBOUR: 'it returns false'. Refute it at one input. -/
def fnExactModuleOfChoiceWrong : ChangeSpec := { name := "fnExactModuleOfChoice", fn := fun _ => fun
  | [d1, d2] => { results := [.lit (.bool false)], args := [d1, d2] }
  | _ => none }
def FnExactModuleOfChoiceWrongFalsely : Prop := fnExactModuleOfChoiceRow.holds Try.pinned (OpenSpec.ofChange fnExactModuleOfChoiceWrong)

/-- 'laws.FnExactFactorSetOfChoice': WHATEVER THE INPUT: true; the input reads as it did. -/
def fnExactFactorSetOfChoiceSpec : ChangeSpec := { name := "fnExactFactorSetOfChoice", fn := fun _ => fun
  | [d1, d2] => { results := [.lit (.bool true)], args := [d1, d2] }
  | _ => none }
def fnExactFactorSetOfChoiceRow : OpenClaim := { program := "ytlkdhmijgpadaaa", sum := "f4368d137af5e34750c07d2cf53ccde184a55739852fb06f20706d8a88acd4f4", func := "loop.example/g01363/laws.FnExactFactorSetOfChoice", spec := "fnExactFactorSetOfChoice", unfollowed := true, recurses := true, apart := false }
def FnExactFactorSetOfChoiceSaid : Prop := fnExactFactorSetOfChoiceRow.holds Try.pinned (OpenSpec.ofChange fnExactFactorSetOfChoiceSpec)

/-- ITS FALSE NEIGHBOUR: 'it returns false'. Refute it at one input. -/
def fnExactFactorSetOfChoiceWrong : ChangeSpec := { name := "fnExactFactorSetOfChoice", fn := fun _ => fun
  | [d1, d2] => { results := [.lit (.bool false)], args := [d1, d2] }
  | _ => none }
def FnExactFactorSetOfChoiceWrongFalsely : Prop := fnExactFactorSetOfChoiceRow.holds Try.pinned (OpenSpec.ofChange fnExactFactorSetOfChoiceWrong)

/-- 'laws.FnExactCrossedMaps': WHATEVER THE INPUT: true; the input reads as it did. -/
def fnExactCrossedMapsSpec : ChangeSpec := { name := "fnExactCrossedMaps", fn := fun _ => fun
  | [d1, d2] => { results := [.lit (.bool true)], args := [d1, d2] }
  | _ => none }
def fnExactCrossedMapsRow : OpenClaim := { program := "ytlkdhmijgpadaaa", sum := "f4368d137af5e34750c07d2cf53ccde184a55739852fb06f20706d8a88acd4f4", func := "loop.example/g01363/laws.FnExactCrossedMaps", spec := "fnExactCrossedMaps", unfollowed := true, recurses := true, apart := false }
def FnExactCrossedMapsSaid : Prop := fnExactCrossedMapsRow.holds Try.pinned (OpenSpec.ofChange fnExactCrossedMapsSpec)

/-- ITS FALSE NEIGHBOUR: 'it returns false'. Refute it at one input. -/
def fnExactCrossedMapsWrong : ChangeSpec := { name := "fnExactCrossedMaps", fn := fun _ => fun
  | [d1, d2] => { results := [.lit (.bool false)], args := [d1, d2] }
  | _ => none }
def FnExactCrossedMapsWrongFalsely : Prop := fnExactCrossedMapsRow.holds Try.pinned (OpenSpec.ofChange fnExactCrossedMapsWrong)

/-- 'laws.FnExactCrossedClasses': WHATEVER THE INPUT: true; the input reads as it did. -/
def fnExactCrossedClassesSpec : ChangeSpec := { name := "fnExactCrossedClasses", fn := fun _ => fun
  | [d1, d2] => { results := [.lit (.bool true)], args := [d1, d2] }
  | _ => none }
def fnExactCrossedClassesRow : OpenClaim := { program := "ytlkdhmijgpadaaa", sum := "f4368d137af5e34750c07d2cf53ccde184a55739852fb06f20706d8a88acd4f4", func := "loop.example/g01363/laws.FnExactCrossedClasses", spec := "fnExactCrossedClasses", unfollowed := true, recurses := true, apart := false }
def FnExactCrossedClassesSaid : Prop := fnExactCrossedClassesRow.holds Try.pinned (OpenSpec.ofChange fnExactCrossedClassesSpec)

/-- ITS FALSE NEIGHBOUR: 'it returns false'. Refute it at one input. -/
def fnExactCrossedClassesWrong : ChangeSpec := { name := "fnExactCrossedClasses", fn := fun _ => fun
  | [d1, d2] => { results := [.lit (.bool false)], args := [d1, d2] }
  | _ => none }
def FnExactCrossedClassesWrongFalsely : Prop := fnExactCrossedClassesRow.holds Try.pinned (OpenSpec.ofChange fnExactCrossedClassesWrong)

/- THE SECOND FORM. 'bulk': how many values and letters a reading holds, each counted each time it is reached (what is shared counts as often as it is met; a slice's spare places count too). A statement '..UptoSaid' is the law's where the arguments, and the package variables that the reading takes, are together of bulk at most 1048576: NARROWER than '..Said'. Prove '..Said' where nothing that the law and all that it calls make is longer than what came in: it says more and counts as full. Else prove '..UptoSaid'. A law counts once. -/
mutual
def uptoBulk {H : Type} : DataW H → Nat
  | .lit (.string bytes) => bytes.length + 1
  | .lit _ => 1
  | .nil => 1
  | .ptr d => uptoBulk d + 1
  | .slice elems spare => uptoBulkAll elems + uptoBulkAll spare + 1
  | .agg parts => uptoBulkAll parts + 1
  | .iface _ d => uptoBulk d + 1
  | .map entries => uptoBulkEntries entries + 1
  | .held _ => 1
def uptoBulkAll {H : Type} : List (DataW H) → Nat
  | [] => 0
  | d :: r => uptoBulk d + uptoBulkAll r
def uptoBulkEntries {H : Type} : List (Lit × DataW H) → Nat
  | [] => 0
  | x :: r => uptoBulkEntry x + uptoBulkEntries r
def uptoBulkEntry {H : Type} : Lit × DataW H → Nat
  | (.string bytes, d) => bytes.length + uptoBulk d + 1
  | (_, d) => uptoBulk d + 1
 end
def uptoSmall : (H : Type) → List (DataW H) → Bool := fun _ ds => decide (uptoBulkAll ds ≤ 1048576)
def OpenSpec.upto (s : _root_.Go.ChangeSpec) : _root_.Go.OpenSpec := { _root_.Go.OpenSpec.ofChange s with cond := some uptoSmall }

/-- 'laws.FnExactOrdersOfExtension', WHERE WHAT IT READS IS OF BULK AT MOST 1048576: true; the input reads as it did. -/
def fnExactOrdersOfExtensionUptoRow : OpenClaim := { program := "ytlkdhmijgpadaaa", sum := "f4368d137af5e34750c07d2cf53ccde184a55739852fb06f20706d8a88acd4f4", func := "loop.example/g01363/laws.FnExactOrdersOfExtension", spec := "fnExactOrdersOfExtension", unfollowed := true, recurses := true, apart := false, narrowed := true }
def FnExactOrdersOfExtensionUptoSaid : Prop := fnExactOrdersOfExtensionUptoRow.holds Try.pinned (OpenSpec.upto fnExactOrdersOfExtensionSpec)

/-- 'laws.FnExactOrderOfCohomology', WHERE WHAT IT READS IS OF BULK AT MOST 1048576: true; the input reads as it did. -/
def fnExactOrderOfCohomologyUptoRow : OpenClaim := { program := "ytlkdhmijgpadaaa", sum := "f4368d137af5e34750c07d2cf53ccde184a55739852fb06f20706d8a88acd4f4", func := "loop.example/g01363/laws.FnExactOrderOfCohomology", spec := "fnExactOrderOfCohomology", unfollowed := true, recurses := true, apart := false, narrowed := true }
def FnExactOrderOfCohomologyUptoSaid : Prop := fnExactOrderOfCohomologyUptoRow.holds Try.pinned (OpenSpec.upto fnExactOrderOfCohomologySpec)

/-- 'laws.FnExactModuleOfChoice', WHERE WHAT IT READS IS OF BULK AT MOST 1048576: true; the input reads as it did. -/
def fnExactModuleOfChoiceUptoRow : OpenClaim := { program := "ytlkdhmijgpadaaa", sum := "f4368d137af5e34750c07d2cf53ccde184a55739852fb06f20706d8a88acd4f4", func := "loop.example/g01363/laws.FnExactModuleOfChoice", spec := "fnExactModuleOfChoice", unfollowed := true, recurses := true, apart := false, narrowed := true }
def FnExactModuleOfChoiceUptoSaid : Prop := fnExactModuleOfChoiceUptoRow.holds Try.pinned (OpenSpec.upto fnExactModuleOfChoiceSpec)

/-- 'laws.FnExactFactorSetOfChoice', WHERE WHAT IT READS IS OF BULK AT MOST 1048576: true; the input reads as it did. -/
def fnExactFactorSetOfChoiceUptoRow : OpenClaim := { program := "ytlkdhmijgpadaaa", sum := "f4368d137af5e34750c07d2cf53ccde184a55739852fb06f20706d8a88acd4f4", func := "loop.example/g01363/laws.FnExactFactorSetOfChoice", spec := "fnExactFactorSetOfChoice", unfollowed := true, recurses := true, apart := false, narrowed := true }
def FnExactFactorSetOfChoiceUptoSaid : Prop := fnExactFactorSetOfChoiceUptoRow.holds Try.pinned (OpenSpec.upto fnExactFactorSetOfChoiceSpec)

/-- 'laws.FnExactCrossedMaps', WHERE WHAT IT READS IS OF BULK AT MOST 1048576: true; the input reads as it did. -/
def fnExactCrossedMapsUptoRow : OpenClaim := { program := "ytlkdhmijgpadaaa", sum := "f4368d137af5e34750c07d2cf53ccde184a55739852fb06f20706d8a88acd4f4", func := "loop.example/g01363/laws.FnExactCrossedMaps", spec := "fnExactCrossedMaps", unfollowed := true, recurses := true, apart := false, narrowed := true }
def FnExactCrossedMapsUptoSaid : Prop := fnExactCrossedMapsUptoRow.holds Try.pinned (OpenSpec.upto fnExactCrossedMapsSpec)

/-- 'laws.FnExactCrossedClasses', WHERE WHAT IT READS IS OF BULK AT MOST 1048576: true; the input reads as it did. -/
def fnExactCrossedClassesUptoRow : OpenClaim := { program := "ytlkdhmijgpadaaa", sum := "f4368d137af5e34750c07d2cf53ccde184a55739852fb06f20706d8a88acd4f4", func := "loop.example/g01363/laws.FnExactCrossedClasses", spec := "fnExactCrossedClasses", unfollowed := true, recurses := true, apart := false, narrowed := true }
def FnExactCrossedClassesUptoSaid : Prop := fnExactCrossedClassesUptoRow.holds Try.pinned (OpenSpec.upto fnExactCrossedClassesSpec)

end Rows
end Go.Proofs.Ytlkdhmijgpadaaa
