/-
  No cell of these rows narrows 'for every input' (looked for: loops, veiled, ifaces, maps, wideKeys, modest, calm, conditions, laid).
  DERIVED. THE GIVEN ROWS OF THIS SEAT. 12 by the template 'for every input the law returns true; each argument reads behind the call as it read before'; 0 by the template 'total and deterministic' (their statements: YtpppnoliogdkiaaTotals.lean).
  GIVEN WITH THE SEED: the statements are not yours to turn. If you find one false, say at which input.
  Laid BY PROGRAM, IN A SANDBOX (cutbox-rows.mjs): the forced cells as the released guide's own fill.sh prints them over the translation 0fc2e34d0463c79a… (all of the seat's roots in one cut). By AI agents, Wed Nov 11 2026. No macro, syntax, notation, axiom, sorry.
-/
import Derived.Test.YtpppnoliogdkiaaChecked
import GoSem.Claim
import GoSem.ClaimJoined
import GoSem.ClaimMapViews
import Derived.JoinedTies
import Derived.KernelRfl
namespace Go.Proofs.Ytpppnoliogdkiaa
/- THE CELL 'sum', in the pinned program and in every row, IS THE sha256 OF THE DUMP (.gsa) THAT YtpppnoliogdkiaaProg.lean LOADS. Nothing in Lean hashes anything: it is a label: what it is worth is what the hold of that sum in a sandbox is worth. -/
noncomputable def Try.pinned : Pinned := { name := "ytpppnoliogdkiaa", sum := "0fc2e34d0463c79ad6125f9b7eb717ca1abb414c3eabdc50c5df865888c21302", checked := Try.checked }
namespace Rows
def none {H : Type} : Left H := { results := [], args := [] }

/-- 'laws.FnExactBoundingSteps': WHATEVER THE INPUT: true; the input reads as it did. -/
def fnExactBoundingStepsSpec : ChangeSpec := { name := "fnExactBoundingSteps", fn := fun _ => fun
  | [d1, d2, d3] => { results := [.lit (.bool true)], args := [d1, d2, d3] }
  | _ => none }
def fnExactBoundingStepsRow : OpenClaim := { program := "ytpppnoliogdkiaa", sum := "0fc2e34d0463c79ad6125f9b7eb717ca1abb414c3eabdc50c5df865888c21302", func := "loop.example/g01363/laws.FnExactBoundingSteps", spec := "fnExactBoundingSteps", unfollowed := true, recurses := true, apart := false }
def FnExactBoundingStepsSaid : Prop := fnExactBoundingStepsRow.holds Try.pinned (OpenSpec.ofChange fnExactBoundingStepsSpec)

/-- ITS FALSE NEIGHBOUR: 'it returns false'. Refute it at one input. -/
def fnExactBoundingStepsWrong : ChangeSpec := { name := "fnExactBoundingSteps", fn := fun _ => fun
  | [d1, d2, d3] => { results := [.lit (.bool false)], args := [d1, d2, d3] }
  | _ => none }
def FnExactBoundingStepsWrongFalsely : Prop := fnExactBoundingStepsRow.holds Try.pinned (OpenSpec.ofChange fnExactBoundingStepsWrong)

/-- 'laws.FnExactSplits': WHATEVER THE INPUT: true; the input reads as it did. -/
def fnExactSplitsSpec : ChangeSpec := { name := "fnExactSplits", fn := fun _ => fun
  | [d1, d2, d3] => { results := [.lit (.bool true)], args := [d1, d2, d3] }
  | _ => none }
def fnExactSplitsRow : OpenClaim := { program := "ytpppnoliogdkiaa", sum := "0fc2e34d0463c79ad6125f9b7eb717ca1abb414c3eabdc50c5df865888c21302", func := "loop.example/g01363/laws.FnExactSplits", spec := "fnExactSplits", unfollowed := true, recurses := true, apart := false }
def FnExactSplitsSaid : Prop := fnExactSplitsRow.holds Try.pinned (OpenSpec.ofChange fnExactSplitsSpec)

/-- ITS FALSE NEIGHBOUR: 'it returns false'. Refute it at one input. -/
def fnExactSplitsWrong : ChangeSpec := { name := "fnExactSplits", fn := fun _ => fun
  | [d1, d2, d3] => { results := [.lit (.bool false)], args := [d1, d2, d3] }
  | _ => none }
def FnExactSplitsWrongFalsely : Prop := fnExactSplitsRow.holds Try.pinned (OpenSpec.ofChange fnExactSplitsWrong)

/-- 'laws.FnExactCocycleSteps': WHATEVER THE INPUT: true; the input reads as it did. -/
def fnExactCocycleStepsSpec : ChangeSpec := { name := "fnExactCocycleSteps", fn := fun _ => fun
  | [d1, d2, d3] => { results := [.lit (.bool true)], args := [d1, d2, d3] }
  | _ => none }
def fnExactCocycleStepsRow : OpenClaim := { program := "ytpppnoliogdkiaa", sum := "0fc2e34d0463c79ad6125f9b7eb717ca1abb414c3eabdc50c5df865888c21302", func := "loop.example/g01363/laws.FnExactCocycleSteps", spec := "fnExactCocycleSteps", unfollowed := true, recurses := true, apart := false }
def FnExactCocycleStepsSaid : Prop := fnExactCocycleStepsRow.holds Try.pinned (OpenSpec.ofChange fnExactCocycleStepsSpec)

/-- ITS FALSE NEIGHBOUR: 'it returns false'. Refute it at one input. -/
def fnExactCocycleStepsWrong : ChangeSpec := { name := "fnExactCocycleSteps", fn := fun _ => fun
  | [d1, d2, d3] => { results := [.lit (.bool false)], args := [d1, d2, d3] }
  | _ => none }
def FnExactCocycleStepsWrongFalsely : Prop := fnExactCocycleStepsRow.holds Try.pinned (OpenSpec.ofChange fnExactCocycleStepsWrong)

/-- 'laws.FnExactFirstSection': WHATEVER THE INPUT: true; the input reads as it did. -/
def fnExactFirstSectionSpec : ChangeSpec := { name := "fnExactFirstSection", fn := fun _ => fun
  | [d1, d2, d3] => { results := [.lit (.bool true)], args := [d1, d2, d3] }
  | _ => none }
def fnExactFirstSectionRow : OpenClaim := { program := "ytpppnoliogdkiaa", sum := "0fc2e34d0463c79ad6125f9b7eb717ca1abb414c3eabdc50c5df865888c21302", func := "loop.example/g01363/laws.FnExactFirstSection", spec := "fnExactFirstSection", unfollowed := true, recurses := true, apart := false }
def FnExactFirstSectionSaid : Prop := fnExactFirstSectionRow.holds Try.pinned (OpenSpec.ofChange fnExactFirstSectionSpec)

/-- ITS FALSE NEIGHBOUR: 'it returns false'. Refute it at one input. -/
def fnExactFirstSectionWrong : ChangeSpec := { name := "fnExactFirstSection", fn := fun _ => fun
  | [d1, d2, d3] => { results := [.lit (.bool false)], args := [d1, d2, d3] }
  | _ => none }
def FnExactFirstSectionWrongFalsely : Prop := fnExactFirstSectionRow.holds Try.pinned (OpenSpec.ofChange fnExactFirstSectionWrong)

/-- 'laws.FnExactIsBounding': WHATEVER THE INPUT: true; the input reads as it did. -/
def fnExactIsBoundingSpec : ChangeSpec := { name := "fnExactIsBounding", fn := fun _ => fun
  | [d1, d2, d3] => { results := [.lit (.bool true)], args := [d1, d2, d3] }
  | _ => none }
def fnExactIsBoundingRow : OpenClaim := { program := "ytpppnoliogdkiaa", sum := "0fc2e34d0463c79ad6125f9b7eb717ca1abb414c3eabdc50c5df865888c21302", func := "loop.example/g01363/laws.FnExactIsBounding", spec := "fnExactIsBounding", unfollowed := true, recurses := true, apart := false }
def FnExactIsBoundingSaid : Prop := fnExactIsBoundingRow.holds Try.pinned (OpenSpec.ofChange fnExactIsBoundingSpec)

/-- ITS FALSE NEIGHBOUR: 'it returns false'. Refute it at one input. -/
def fnExactIsBoundingWrong : ChangeSpec := { name := "fnExactIsBounding", fn := fun _ => fun
  | [d1, d2, d3] => { results := [.lit (.bool false)], args := [d1, d2, d3] }
  | _ => none }
def FnExactIsBoundingWrongFalsely : Prop := fnExactIsBoundingRow.holds Try.pinned (OpenSpec.ofChange fnExactIsBoundingWrong)

/-- 'laws.FnExactOrderOfClass': WHATEVER THE INPUT: true; the input reads as it did. -/
def fnExactOrderOfClassSpec : ChangeSpec := { name := "fnExactOrderOfClass", fn := fun _ => fun
  | [d1, d2, d3] => { results := [.lit (.bool true)], args := [d1, d2, d3] }
  | _ => none }
def fnExactOrderOfClassRow : OpenClaim := { program := "ytpppnoliogdkiaa", sum := "0fc2e34d0463c79ad6125f9b7eb717ca1abb414c3eabdc50c5df865888c21302", func := "loop.example/g01363/laws.FnExactOrderOfClass", spec := "fnExactOrderOfClass", unfollowed := true, recurses := true, apart := false }
def FnExactOrderOfClassSaid : Prop := fnExactOrderOfClassRow.holds Try.pinned (OpenSpec.ofChange fnExactOrderOfClassSpec)

/-- ITS FALSE NEIGHBOUR: 'it returns false'. Refute it at one input. -/
def fnExactOrderOfClassWrong : ChangeSpec := { name := "fnExactOrderOfClass", fn := fun _ => fun
  | [d1, d2, d3] => { results := [.lit (.bool false)], args := [d1, d2, d3] }
  | _ => none }
def FnExactOrderOfClassWrongFalsely : Prop := fnExactOrderOfClassRow.holds Try.pinned (OpenSpec.ofChange fnExactOrderOfClassWrong)

/-- 'laws.FnExactAreCohomologous': WHATEVER THE INPUT: true; the input reads as it did. -/
def fnExactAreCohomologousSpec : ChangeSpec := { name := "fnExactAreCohomologous", fn := fun _ => fun
  | [d1, d2, d3, d4] => { results := [.lit (.bool true)], args := [d1, d2, d3, d4] }
  | _ => none }
def fnExactAreCohomologousRow : OpenClaim := { program := "ytpppnoliogdkiaa", sum := "0fc2e34d0463c79ad6125f9b7eb717ca1abb414c3eabdc50c5df865888c21302", func := "loop.example/g01363/laws.FnExactAreCohomologous", spec := "fnExactAreCohomologous", unfollowed := true, recurses := true, apart := false }
def FnExactAreCohomologousSaid : Prop := fnExactAreCohomologousRow.holds Try.pinned (OpenSpec.ofChange fnExactAreCohomologousSpec)

/-- ITS FALSE NEIGHBOUR: 'it returns false'. Refute it at one input. -/
def fnExactAreCohomologousWrong : ChangeSpec := { name := "fnExactAreCohomologous", fn := fun _ => fun
  | [d1, d2, d3, d4] => { results := [.lit (.bool false)], args := [d1, d2, d3, d4] }
  | _ => none }
def FnExactAreCohomologousWrongFalsely : Prop := fnExactAreCohomologousRow.holds Try.pinned (OpenSpec.ofChange fnExactAreCohomologousWrong)

/-- 'laws.FnExactLeastCocycle': WHATEVER THE INPUT: true; the input reads as it did. -/
def fnExactLeastCocycleSpec : ChangeSpec := { name := "fnExactLeastCocycle", fn := fun _ => fun
  | [d1, d2, d3] => { results := [.lit (.bool true)], args := [d1, d2, d3] }
  | _ => none }
def fnExactLeastCocycleRow : OpenClaim := { program := "ytpppnoliogdkiaa", sum := "0fc2e34d0463c79ad6125f9b7eb717ca1abb414c3eabdc50c5df865888c21302", func := "loop.example/g01363/laws.FnExactLeastCocycle", spec := "fnExactLeastCocycle", unfollowed := true, recurses := true, apart := false }
def FnExactLeastCocycleSaid : Prop := fnExactLeastCocycleRow.holds Try.pinned (OpenSpec.ofChange fnExactLeastCocycleSpec)

/-- ITS FALSE NEIGHBOUR: 'it returns false'. Refute it at one input. -/
def fnExactLeastCocycleWrong : ChangeSpec := { name := "fnExactLeastCocycle", fn := fun _ => fun
  | [d1, d2, d3] => { results := [.lit (.bool false)], args := [d1, d2, d3] }
  | _ => none }
def FnExactLeastCocycleWrongFalsely : Prop := fnExactLeastCocycleRow.holds Try.pinned (OpenSpec.ofChange fnExactLeastCocycleWrong)

/-- 'laws.FnExactLeastBounded': WHATEVER THE INPUT: true; the input reads as it did. -/
def fnExactLeastBoundedSpec : ChangeSpec := { name := "fnExactLeastBounded", fn := fun _ => fun
  | [d1, d2, d3] => { results := [.lit (.bool true)], args := [d1, d2, d3] }
  | _ => none }
def fnExactLeastBoundedRow : OpenClaim := { program := "ytpppnoliogdkiaa", sum := "0fc2e34d0463c79ad6125f9b7eb717ca1abb414c3eabdc50c5df865888c21302", func := "loop.example/g01363/laws.FnExactLeastBounded", spec := "fnExactLeastBounded", unfollowed := true, recurses := true, apart := false }
def FnExactLeastBoundedSaid : Prop := fnExactLeastBoundedRow.holds Try.pinned (OpenSpec.ofChange fnExactLeastBoundedSpec)

/-- ITS FALSE NEIGHBOUR: 'it returns false'. Refute it at one input. -/
def fnExactLeastBoundedWrong : ChangeSpec := { name := "fnExactLeastBounded", fn := fun _ => fun
  | [d1, d2, d3] => { results := [.lit (.bool false)], args := [d1, d2, d3] }
  | _ => none }
def FnExactLeastBoundedWrongFalsely : Prop := fnExactLeastBoundedRow.holds Try.pinned (OpenSpec.ofChange fnExactLeastBoundedWrong)

/-- 'laws.FnTop': WHATEVER THE INPUT: true; the input reads as it did. -/
def fnTopSpec : ChangeSpec := { name := "fnTop", fn := fun _ => fun
  | [d] => { results := [.lit (.bool true)], args := [d] }
  | _ => none }
def fnTopRow : OpenClaim := { program := "ytpppnoliogdkiaa", sum := "0fc2e34d0463c79ad6125f9b7eb717ca1abb414c3eabdc50c5df865888c21302", func := "loop.example/g01363/laws.FnTop", spec := "fnTop", unfollowed := true, recurses := true, apart := false }
def FnTopSaid : Prop := fnTopRow.holds Try.pinned (OpenSpec.ofChange fnTopSpec)

/-- ITS FALSE NEIGHBOUR: 'it returns false'. Refute it at one input. -/
def fnTopWrong : ChangeSpec := { name := "fnTop", fn := fun _ => fun
  | [d] => { results := [.lit (.bool false)], args := [d] }
  | _ => none }
def FnTopWrongFalsely : Prop := fnTopRow.holds Try.pinned (OpenSpec.ofChange fnTopWrong)

/-- 'laws.FnExactPrincipalMaps': WHATEVER THE INPUT: true; the input reads as it did. -/
def fnExactPrincipalMapsSpec : ChangeSpec := { name := "fnExactPrincipalMaps", fn := fun _ => fun
  | [d1, d2] => { results := [.lit (.bool true)], args := [d1, d2] }
  | _ => none }
def fnExactPrincipalMapsRow : OpenClaim := { program := "ytpppnoliogdkiaa", sum := "0fc2e34d0463c79ad6125f9b7eb717ca1abb414c3eabdc50c5df865888c21302", func := "loop.example/g01363/laws.FnExactPrincipalMaps", spec := "fnExactPrincipalMaps", unfollowed := true, recurses := true, apart := false }
def FnExactPrincipalMapsSaid : Prop := fnExactPrincipalMapsRow.holds Try.pinned (OpenSpec.ofChange fnExactPrincipalMapsSpec)

/-- ITS FALSE NEIGHBOUR: 'it returns false'. Refute it at one input. -/
def fnExactPrincipalMapsWrong : ChangeSpec := { name := "fnExactPrincipalMaps", fn := fun _ => fun
  | [d1, d2] => { results := [.lit (.bool false)], args := [d1, d2] }
  | _ => none }
def FnExactPrincipalMapsWrongFalsely : Prop := fnExactPrincipalMapsRow.holds Try.pinned (OpenSpec.ofChange fnExactPrincipalMapsWrong)

/-- 'laws.FnExactClassOfCrossed': WHATEVER THE INPUT: true; the input reads as it did. -/
def fnExactClassOfCrossedSpec : ChangeSpec := { name := "fnExactClassOfCrossed", fn := fun _ => fun
  | [d1, d2, d3] => { results := [.lit (.bool true)], args := [d1, d2, d3] }
  | _ => none }
def fnExactClassOfCrossedRow : OpenClaim := { program := "ytpppnoliogdkiaa", sum := "0fc2e34d0463c79ad6125f9b7eb717ca1abb414c3eabdc50c5df865888c21302", func := "loop.example/g01363/laws.FnExactClassOfCrossed", spec := "fnExactClassOfCrossed", unfollowed := true, recurses := true, apart := false }
def FnExactClassOfCrossedSaid : Prop := fnExactClassOfCrossedRow.holds Try.pinned (OpenSpec.ofChange fnExactClassOfCrossedSpec)

/-- ITS FALSE NEIGHBOUR: 'it returns false'. Refute it at one input. -/
def fnExactClassOfCrossedWrong : ChangeSpec := { name := "fnExactClassOfCrossed", fn := fun _ => fun
  | [d1, d2, d3] => { results := [.lit (.bool false)], args := [d1, d2, d3] }
  | _ => none }
def FnExactClassOfCrossedWrongFalsely : Prop := fnExactClassOfCrossedRow.holds Try.pinned (OpenSpec.ofChange fnExactClassOfCrossedWrong)

/- THE SECOND FORM. 'bulk': how many values and letters a reading holds, each counted each time it is reached (what is shared counts as often as it is met; a slice's spare places count too). A statement '..UptoSaid' is the law's where the arguments, and the package variables that the reading takes, are together of bulk at most 1048576: NARROWER than '..Said'. Prove '..Said' where nothing that the law and all that it calls make is longer than what came in: it says more and counts as full. Else prove '..UptoSaid'. A law counts once. -/
mutual
def uptoBulk {H : Type} : DataW H → Nat
  | .lit (.string bytes) => bytes.length + 1
  | .lit _ => 1
  | .nil => 1
  | .ptr d => uptoBulk d + 1
  | .slice elems spare => uptoBulkAll elems + uptoBulkAll spare + 1
  | .agg parts => uptoBulkAll parts + 1
  | .iface _ d => uptoBulk d + 1
  | .map entries => uptoBulkEntries entries + 1
  | .held _ => 1
def uptoBulkAll {H : Type} : List (DataW H) → Nat
  | [] => 0
  | d :: r => uptoBulk d + uptoBulkAll r
def uptoBulkEntries {H : Type} : List (Lit × DataW H) → Nat
  | [] => 0
  | x :: r => uptoBulkEntry x + uptoBulkEntries r
def uptoBulkEntry {H : Type} : Lit × DataW H → Nat
  | (.string bytes, d) => bytes.length + uptoBulk d + 1
  | (_, d) => uptoBulk d + 1
 end
def uptoSmall : (H : Type) → List (DataW H) → Bool := fun _ ds => decide (uptoBulkAll ds ≤ 1048576)
def OpenSpec.upto (s : _root_.Go.ChangeSpec) : _root_.Go.OpenSpec := { _root_.Go.OpenSpec.ofChange s with cond := some uptoSmall }

/-- 'laws.FnExactBoundingSteps', WHERE WHAT IT READS IS OF BULK AT MOST 1048576: true; the input reads as it did. -/
def fnExactBoundingStepsUptoRow : OpenClaim := { program := "ytpppnoliogdkiaa", sum := "0fc2e34d0463c79ad6125f9b7eb717ca1abb414c3eabdc50c5df865888c21302", func := "loop.example/g01363/laws.FnExactBoundingSteps", spec := "fnExactBoundingSteps", unfollowed := true, recurses := true, apart := false, narrowed := true }
def FnExactBoundingStepsUptoSaid : Prop := fnExactBoundingStepsUptoRow.holds Try.pinned (OpenSpec.upto fnExactBoundingStepsSpec)

/-- 'laws.FnExactSplits', WHERE WHAT IT READS IS OF BULK AT MOST 1048576: true; the input reads as it did. -/
def fnExactSplitsUptoRow : OpenClaim := { program := "ytpppnoliogdkiaa", sum := "0fc2e34d0463c79ad6125f9b7eb717ca1abb414c3eabdc50c5df865888c21302", func := "loop.example/g01363/laws.FnExactSplits", spec := "fnExactSplits", unfollowed := true, recurses := true, apart := false, narrowed := true }
def FnExactSplitsUptoSaid : Prop := fnExactSplitsUptoRow.holds Try.pinned (OpenSpec.upto fnExactSplitsSpec)

/-- 'laws.FnExactCocycleSteps', WHERE WHAT IT READS IS OF BULK AT MOST 1048576: true; the input reads as it did. -/
def fnExactCocycleStepsUptoRow : OpenClaim := { program := "ytpppnoliogdkiaa", sum := "0fc2e34d0463c79ad6125f9b7eb717ca1abb414c3eabdc50c5df865888c21302", func := "loop.example/g01363/laws.FnExactCocycleSteps", spec := "fnExactCocycleSteps", unfollowed := true, recurses := true, apart := false, narrowed := true }
def FnExactCocycleStepsUptoSaid : Prop := fnExactCocycleStepsUptoRow.holds Try.pinned (OpenSpec.upto fnExactCocycleStepsSpec)

/-- 'laws.FnExactFirstSection', WHERE WHAT IT READS IS OF BULK AT MOST 1048576: true; the input reads as it did. -/
def fnExactFirstSectionUptoRow : OpenClaim := { program := "ytpppnoliogdkiaa", sum := "0fc2e34d0463c79ad6125f9b7eb717ca1abb414c3eabdc50c5df865888c21302", func := "loop.example/g01363/laws.FnExactFirstSection", spec := "fnExactFirstSection", unfollowed := true, recurses := true, apart := false, narrowed := true }
def FnExactFirstSectionUptoSaid : Prop := fnExactFirstSectionUptoRow.holds Try.pinned (OpenSpec.upto fnExactFirstSectionSpec)

/-- 'laws.FnExactIsBounding', WHERE WHAT IT READS IS OF BULK AT MOST 1048576: true; the input reads as it did. -/
def fnExactIsBoundingUptoRow : OpenClaim := { program := "ytpppnoliogdkiaa", sum := "0fc2e34d0463c79ad6125f9b7eb717ca1abb414c3eabdc50c5df865888c21302", func := "loop.example/g01363/laws.FnExactIsBounding", spec := "fnExactIsBounding", unfollowed := true, recurses := true, apart := false, narrowed := true }
def FnExactIsBoundingUptoSaid : Prop := fnExactIsBoundingUptoRow.holds Try.pinned (OpenSpec.upto fnExactIsBoundingSpec)

/-- 'laws.FnExactOrderOfClass', WHERE WHAT IT READS IS OF BULK AT MOST 1048576: true; the input reads as it did. -/
def fnExactOrderOfClassUptoRow : OpenClaim := { program := "ytpppnoliogdkiaa", sum := "0fc2e34d0463c79ad6125f9b7eb717ca1abb414c3eabdc50c5df865888c21302", func := "loop.example/g01363/laws.FnExactOrderOfClass", spec := "fnExactOrderOfClass", unfollowed := true, recurses := true, apart := false, narrowed := true }
def FnExactOrderOfClassUptoSaid : Prop := fnExactOrderOfClassUptoRow.holds Try.pinned (OpenSpec.upto fnExactOrderOfClassSpec)

/-- 'laws.FnExactAreCohomologous', WHERE WHAT IT READS IS OF BULK AT MOST 1048576: true; the input reads as it did. -/
def fnExactAreCohomologousUptoRow : OpenClaim := { program := "ytpppnoliogdkiaa", sum := "0fc2e34d0463c79ad6125f9b7eb717ca1abb414c3eabdc50c5df865888c21302", func := "loop.example/g01363/laws.FnExactAreCohomologous", spec := "fnExactAreCohomologous", unfollowed := true, recurses := true, apart := false, narrowed := true }
def FnExactAreCohomologousUptoSaid : Prop := fnExactAreCohomologousUptoRow.holds Try.pinned (OpenSpec.upto fnExactAreCohomologousSpec)

/-- 'laws.FnExactLeastCocycle', WHERE WHAT IT READS IS OF BULK AT MOST 1048576: true; the input reads as it did. -/
def fnExactLeastCocycleUptoRow : OpenClaim := { program := "ytpppnoliogdkiaa", sum := "0fc2e34d0463c79ad6125f9b7eb717ca1abb414c3eabdc50c5df865888c21302", func := "loop.example/g01363/laws.FnExactLeastCocycle", spec := "fnExactLeastCocycle", unfollowed := true, recurses := true, apart := false, narrowed := true }
def FnExactLeastCocycleUptoSaid : Prop := fnExactLeastCocycleUptoRow.holds Try.pinned (OpenSpec.upto fnExactLeastCocycleSpec)

/-- 'laws.FnExactLeastBounded', WHERE WHAT IT READS IS OF BULK AT MOST 1048576: true; the input reads as it did. -/
def fnExactLeastBoundedUptoRow : OpenClaim := { program := "ytpppnoliogdkiaa", sum := "0fc2e34d0463c79ad6125f9b7eb717ca1abb414c3eabdc50c5df865888c21302", func := "loop.example/g01363/laws.FnExactLeastBounded", spec := "fnExactLeastBounded", unfollowed := true, recurses := true, apart := false, narrowed := true }
def FnExactLeastBoundedUptoSaid : Prop := fnExactLeastBoundedUptoRow.holds Try.pinned (OpenSpec.upto fnExactLeastBoundedSpec)

/-- 'laws.FnTop', WHERE WHAT IT READS IS OF BULK AT MOST 1048576: true; the input reads as it did. -/
def fnTopUptoRow : OpenClaim := { program := "ytpppnoliogdkiaa", sum := "0fc2e34d0463c79ad6125f9b7eb717ca1abb414c3eabdc50c5df865888c21302", func := "loop.example/g01363/laws.FnTop", spec := "fnTop", unfollowed := true, recurses := true, apart := false, narrowed := true }
def FnTopUptoSaid : Prop := fnTopUptoRow.holds Try.pinned (OpenSpec.upto fnTopSpec)

/-- 'laws.FnExactPrincipalMaps', WHERE WHAT IT READS IS OF BULK AT MOST 1048576: true; the input reads as it did. -/
def fnExactPrincipalMapsUptoRow : OpenClaim := { program := "ytpppnoliogdkiaa", sum := "0fc2e34d0463c79ad6125f9b7eb717ca1abb414c3eabdc50c5df865888c21302", func := "loop.example/g01363/laws.FnExactPrincipalMaps", spec := "fnExactPrincipalMaps", unfollowed := true, recurses := true, apart := false, narrowed := true }
def FnExactPrincipalMapsUptoSaid : Prop := fnExactPrincipalMapsUptoRow.holds Try.pinned (OpenSpec.upto fnExactPrincipalMapsSpec)

/-- 'laws.FnExactClassOfCrossed', WHERE WHAT IT READS IS OF BULK AT MOST 1048576: true; the input reads as it did. -/
def fnExactClassOfCrossedUptoRow : OpenClaim := { program := "ytpppnoliogdkiaa", sum := "0fc2e34d0463c79ad6125f9b7eb717ca1abb414c3eabdc50c5df865888c21302", func := "loop.example/g01363/laws.FnExactClassOfCrossed", spec := "fnExactClassOfCrossed", unfollowed := true, recurses := true, apart := false, narrowed := true }
def FnExactClassOfCrossedUptoSaid : Prop := fnExactClassOfCrossedUptoRow.holds Try.pinned (OpenSpec.upto fnExactClassOfCrossedSpec)

end Rows
end Go.Proofs.Ytpppnoliogdkiaa
