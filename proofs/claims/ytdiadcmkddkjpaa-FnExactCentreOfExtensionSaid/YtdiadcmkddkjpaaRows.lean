/-
  No cell of these rows narrows 'for every input' (looked for: loops, veiled, ifaces, maps, wideKeys, modest, calm, conditions, laid).
  DERIVED. THE GIVEN ROWS OF THIS SEAT. 10 by the template 'for every input the law returns true; each argument reads behind the call as it read before'; 0 by the template 'total and deterministic' (their statements: YtdiadcmkddkjpaaTotals.lean).
  GIVEN WITH THE SEED: the statements are not yours to turn. If you find one false, say at which input.
  Laid BY PROGRAM, IN A SANDBOX (cutbox-rows.mjs): the forced cells as the released guide's own fill.sh prints them over the translation 3c9201139f60e0ac… (all of the seat's roots in one cut). By AI agents, Wed Nov 11 2026. No macro, syntax, notation, axiom, sorry.
-/
import Derived.Test.YtdiadcmkddkjpaaChecked
import GoSem.Claim
import GoSem.ClaimJoined
import GoSem.ClaimMapViews
import Derived.JoinedTies
import Derived.KernelRfl
namespace Go.Proofs.Ytdiadcmkddkjpaa
/- THE CELL 'sum', in the pinned program and in every row, IS THE sha256 OF THE DUMP (.gsa) THAT YtdiadcmkddkjpaaProg.lean LOADS. Nothing in Lean hashes anything: it is a label: what it is worth is what the hold of that sum in a sandbox is worth. -/
noncomputable def Try.pinned : Pinned := { name := "ytdiadcmkddkjpaa", sum := "3c9201139f60e0ac3684c60a712c2c99fe26f7bd4d39728754271cec7ad9dc6f", checked := Try.checked }
namespace Rows
def none {H : Type} : Left H := { results := [], args := [] }

/-- 'laws.FnExactComplementOf': WHATEVER THE INPUT: true; the input reads as it did. -/
def fnExactComplementOfSpec : ChangeSpec := { name := "fnExactComplementOf", fn := fun _ => fun
  | [d1, d2, d3] => { results := [.lit (.bool true)], args := [d1, d2, d3] }
  | _ => none }
def fnExactComplementOfRow : OpenClaim := { program := "ytdiadcmkddkjpaa", sum := "3c9201139f60e0ac3684c60a712c2c99fe26f7bd4d39728754271cec7ad9dc6f", func := "loop.example/g01363/laws.FnExactComplementOf", spec := "fnExactComplementOf", apart := false }
def FnExactComplementOfSaid : Prop := fnExactComplementOfRow.holds Try.pinned (OpenSpec.ofChange fnExactComplementOfSpec)

/-- ITS FALSE NEIGHBOUR: 'it returns false'. Refute it at one input. -/
def fnExactComplementOfWrong : ChangeSpec := { name := "fnExactComplementOf", fn := fun _ => fun
  | [d1, d2, d3] => { results := [.lit (.bool false)], args := [d1, d2, d3] }
  | _ => none }
def FnExactComplementOfWrongFalsely : Prop := fnExactComplementOfRow.holds Try.pinned (OpenSpec.ofChange fnExactComplementOfWrong)

/-- 'laws.FnExactKernelOfCrossed': WHATEVER THE INPUT: true; the input reads as it did. -/
def fnExactKernelOfCrossedSpec : ChangeSpec := { name := "fnExactKernelOfCrossed", fn := fun _ => fun
  | [d1, d2, d3] => { results := [.lit (.bool true)], args := [d1, d2, d3] }
  | _ => none }
def fnExactKernelOfCrossedRow : OpenClaim := { program := "ytdiadcmkddkjpaa", sum := "3c9201139f60e0ac3684c60a712c2c99fe26f7bd4d39728754271cec7ad9dc6f", func := "loop.example/g01363/laws.FnExactKernelOfCrossed", spec := "fnExactKernelOfCrossed", unfollowed := true, recurses := true, apart := false }
def FnExactKernelOfCrossedSaid : Prop := fnExactKernelOfCrossedRow.holds Try.pinned (OpenSpec.ofChange fnExactKernelOfCrossedSpec)

/-- ITS FALSE NEIGHBOUR: 'it returns false'. Refute it at one input. -/
def fnExactKernelOfCrossedWrong : ChangeSpec := { name := "fnExactKernelOfCrossed", fn := fun _ => fun
  | [d1, d2, d3] => { results := [.lit (.bool false)], args := [d1, d2, d3] }
  | _ => none }
def FnExactKernelOfCrossedWrongFalsely : Prop := fnExactKernelOfCrossedRow.holds Try.pinned (OpenSpec.ofChange fnExactKernelOfCrossedWrong)

/-- 'laws.FnExactMoveCochain': WHATEVER THE INPUT: true; the input reads as it did. -/
def fnExactMoveCochainSpec : ChangeSpec := { name := "fnExactMoveCochain", fn := fun _ => fun
  | [d1, d2, d3, d4] => { results := [.lit (.bool true)], args := [d1, d2, d3, d4] }
  | _ => none }
def fnExactMoveCochainRow : OpenClaim := { program := "ytdiadcmkddkjpaa", sum := "3c9201139f60e0ac3684c60a712c2c99fe26f7bd4d39728754271cec7ad9dc6f", func := "loop.example/g01363/laws.FnExactMoveCochain", spec := "fnExactMoveCochain", unfollowed := true, recurses := true, apart := false }
def FnExactMoveCochainSaid : Prop := fnExactMoveCochainRow.holds Try.pinned (OpenSpec.ofChange fnExactMoveCochainSpec)

/-- ITS FALSE NEIGHBOUR: 'it returns false'. Refute it at one input. -/
def fnExactMoveCochainWrong : ChangeSpec := { name := "fnExactMoveCochain", fn := fun _ => fun
  | [d1, d2, d3, d4] => { results := [.lit (.bool false)], args := [d1, d2, d3, d4] }
  | _ => none }
def FnExactMoveCochainWrongFalsely : Prop := fnExactMoveCochainRow.holds Try.pinned (OpenSpec.ofChange fnExactMoveCochainWrong)

/-- 'laws.FnExactPullBack': WHATEVER THE INPUT: true; the input reads as it did. -/
def fnExactPullBackSpec : ChangeSpec := { name := "fnExactPullBack", fn := fun _ => fun
  | [d1, d2, d3, d4, d5] => { results := [.lit (.bool true)], args := [d1, d2, d3, d4, d5] }
  | _ => none }
def fnExactPullBackRow : OpenClaim := { program := "ytdiadcmkddkjpaa", sum := "3c9201139f60e0ac3684c60a712c2c99fe26f7bd4d39728754271cec7ad9dc6f", func := "loop.example/g01363/laws.FnExactPullBack", spec := "fnExactPullBack", unfollowed := true, recurses := true, apart := false }
def FnExactPullBackSaid : Prop := fnExactPullBackRow.holds Try.pinned (OpenSpec.ofChange fnExactPullBackSpec)

/-- ITS FALSE NEIGHBOUR: 'it returns false'. Refute it at one input. -/
def fnExactPullBackWrong : ChangeSpec := { name := "fnExactPullBack", fn := fun _ => fun
  | [d1, d2, d3, d4, d5] => { results := [.lit (.bool false)], args := [d1, d2, d3, d4, d5] }
  | _ => none }
def FnExactPullBackWrongFalsely : Prop := fnExactPullBackRow.holds Try.pinned (OpenSpec.ofChange fnExactPullBackWrong)

/-- 'laws.FnExactExtensionTable': WHATEVER THE INPUT: true; the input reads as it did. -/
def fnExactExtensionTableSpec : ChangeSpec := { name := "fnExactExtensionTable", fn := fun _ => fun
  | [d1, d2, d3] => { results := [.lit (.bool true)], args := [d1, d2, d3] }
  | _ => none }
def fnExactExtensionTableRow : OpenClaim := { program := "ytdiadcmkddkjpaa", sum := "3c9201139f60e0ac3684c60a712c2c99fe26f7bd4d39728754271cec7ad9dc6f", func := "loop.example/g01363/laws.FnExactExtensionTable", spec := "fnExactExtensionTable", unfollowed := true, recurses := true, apart := false }
def FnExactExtensionTableSaid : Prop := fnExactExtensionTableRow.holds Try.pinned (OpenSpec.ofChange fnExactExtensionTableSpec)

/-- ITS FALSE NEIGHBOUR: 'it returns false'. Refute it at one input. -/
def fnExactExtensionTableWrong : ChangeSpec := { name := "fnExactExtensionTable", fn := fun _ => fun
  | [d1, d2, d3] => { results := [.lit (.bool false)], args := [d1, d2, d3] }
  | _ => none }
def FnExactExtensionTableWrongFalsely : Prop := fnExactExtensionTableRow.holds Try.pinned (OpenSpec.ofChange fnExactExtensionTableWrong)

/-- 'laws.FnExactExtensionGroup': WHATEVER THE INPUT: true; the input reads as it did. -/
def fnExactExtensionGroupSpec : ChangeSpec := { name := "fnExactExtensionGroup", fn := fun _ => fun
  | [d1, d2, d3] => { results := [.lit (.bool true)], args := [d1, d2, d3] }
  | _ => none }
def fnExactExtensionGroupRow : OpenClaim := { program := "ytdiadcmkddkjpaa", sum := "3c9201139f60e0ac3684c60a712c2c99fe26f7bd4d39728754271cec7ad9dc6f", func := "loop.example/g01363/laws.FnExactExtensionGroup", spec := "fnExactExtensionGroup", unfollowed := true, recurses := true, apart := false }
def FnExactExtensionGroupSaid : Prop := fnExactExtensionGroupRow.holds Try.pinned (OpenSpec.ofChange fnExactExtensionGroupSpec)

/-- ITS FALSE NEIGHBOUR: 'it returns false'. Refute it at one input. -/
def fnExactExtensionGroupWrong : ChangeSpec := { name := "fnExactExtensionGroup", fn := fun _ => fun
  | [d1, d2, d3] => { results := [.lit (.bool false)], args := [d1, d2, d3] }
  | _ => none }
def FnExactExtensionGroupWrongFalsely : Prop := fnExactExtensionGroupRow.holds Try.pinned (OpenSpec.ofChange fnExactExtensionGroupWrong)

/-- 'laws.FnExactOrdersOfExtension': WHATEVER THE INPUT: true; the input reads as it did. -/
def fnExactOrdersOfExtensionSpec : ChangeSpec := { name := "fnExactOrdersOfExtension", fn := fun _ => fun
  | [d1, d2, d3] => { results := [.lit (.bool true)], args := [d1, d2, d3] }
  | _ => none }
def fnExactOrdersOfExtensionRow : OpenClaim := { program := "ytdiadcmkddkjpaa", sum := "3c9201139f60e0ac3684c60a712c2c99fe26f7bd4d39728754271cec7ad9dc6f", func := "loop.example/g01363/laws.FnExactOrdersOfExtension", spec := "fnExactOrdersOfExtension", unfollowed := true, recurses := true, apart := false }
def FnExactOrdersOfExtensionSaid : Prop := fnExactOrdersOfExtensionRow.holds Try.pinned (OpenSpec.ofChange fnExactOrdersOfExtensionSpec)

/-- ITS FALSE NEIGHBOUR: 'it returns false'. Refute it at one input. -/
def fnExactOrdersOfExtensionWrong : ChangeSpec := { name := "fnExactOrdersOfExtension", fn := fun _ => fun
  | [d1, d2, d3] => { results := [.lit (.bool false)], args := [d1, d2, d3] }
  | _ => none }
def FnExactOrdersOfExtensionWrongFalsely : Prop := fnExactOrdersOfExtensionRow.holds Try.pinned (OpenSpec.ofChange fnExactOrdersOfExtensionWrong)

/-- 'laws.FnExactCentreOfExtension': WHATEVER THE INPUT: true; the input reads as it did. -/
def fnExactCentreOfExtensionSpec : ChangeSpec := { name := "fnExactCentreOfExtension", fn := fun _ => fun
  | [d1, d2, d3] => { results := [.lit (.bool true)], args := [d1, d2, d3] }
  | _ => none }
def fnExactCentreOfExtensionRow : OpenClaim := { program := "ytdiadcmkddkjpaa", sum := "3c9201139f60e0ac3684c60a712c2c99fe26f7bd4d39728754271cec7ad9dc6f", func := "loop.example/g01363/laws.FnExactCentreOfExtension", spec := "fnExactCentreOfExtension", unfollowed := true, recurses := true, apart := false }
def FnExactCentreOfExtensionSaid : Prop := fnExactCentreOfExtensionRow.holds Try.pinned (OpenSpec.ofChange fnExactCentreOfExtensionSpec)

/-- ITS FALSE NEIGHBOUR: 'it returns false'. Refute it at one input. -/
def fnExactCentreOfExtensionWrong : ChangeSpec := { name := "fnExactCentreOfExtension", fn := fun _ => fun
  | [d1, d2, d3] => { results := [.lit (.bool false)], args := [d1, d2, d3] }
  | _ => none }
def FnExactCentreOfExtensionWrongFalsely : Prop := fnExactCentreOfExtensionRow.holds Try.pinned (OpenSpec.ofChange fnExactCentreOfExtensionWrong)

/-- 'laws.FnExactClassesOf': WHATEVER THE INPUT: true; the input reads as it did. -/
def fnExactClassesOfSpec : ChangeSpec := { name := "fnExactClassesOf", fn := fun _ => fun
  | [d] => { results := [.lit (.bool true)], args := [d] }
  | _ => none }
def fnExactClassesOfRow : OpenClaim := { program := "ytdiadcmkddkjpaa", sum := "3c9201139f60e0ac3684c60a712c2c99fe26f7bd4d39728754271cec7ad9dc6f", func := "loop.example/g01363/laws.FnExactClassesOf", spec := "fnExactClassesOf", recurses := true, apart := false }
def FnExactClassesOfSaid : Prop := fnExactClassesOfRow.holds Try.pinned (OpenSpec.ofChange fnExactClassesOfSpec)

/-- ITS FALSE NEIGHBOUR: 'it returns false'. Refute it at one input. -/
def fnExactClassesOfWrong : ChangeSpec := { name := "fnExactClassesOf", fn := fun _ => fun
  | [d] => { results := [.lit (.bool false)], args := [d] }
  | _ => none }
def FnExactClassesOfWrongFalsely : Prop := fnExactClassesOfRow.holds Try.pinned (OpenSpec.ofChange fnExactClassesOfWrong)

/-- 'laws.FnExactConjugateComplement': WHATEVER THE INPUT: true; the input reads as it did. -/
def fnExactConjugateComplementSpec : ChangeSpec := { name := "fnExactConjugateComplement", fn := fun _ => fun
  | [d1, d2, d3, d4] => { results := [.lit (.bool true)], args := [d1, d2, d3, d4] }
  | _ => none }
def fnExactConjugateComplementRow : OpenClaim := { program := "ytdiadcmkddkjpaa", sum := "3c9201139f60e0ac3684c60a712c2c99fe26f7bd4d39728754271cec7ad9dc6f", func := "loop.example/g01363/laws.FnExactConjugateComplement", spec := "fnExactConjugateComplement", unfollowed := true, recurses := true, apart := false }
def FnExactConjugateComplementSaid : Prop := fnExactConjugateComplementRow.holds Try.pinned (OpenSpec.ofChange fnExactConjugateComplementSpec)

/-- ITS FALSE NEIGHBOUR: 'it returns false'. Refute it at one input. -/
def fnExactConjugateComplementWrong : ChangeSpec := { name := "fnExactConjugateComplement", fn := fun _ => fun
  | [d1, d2, d3, d4] => { results := [.lit (.bool false)], args := [d1, d2, d3, d4] }
  | _ => none }
def FnExactConjugateComplementWrongFalsely : Prop := fnExactConjugateComplementRow.holds Try.pinned (OpenSpec.ofChange fnExactConjugateComplementWrong)

/- THE SECOND FORM. 'bulk': how many values and letters a reading holds, each counted each time it is reached (what is shared counts as often as it is met; a slice's spare places count too). A statement '..UptoSaid' is the law's where the arguments, and the package variables that the reading takes, are together of bulk at most 1048576: NARROWER than '..Said'. Prove '..Said' where nothing that the law and all that it calls make is longer than what came in: it says more and counts as full. Else prove '..UptoSaid'. A law counts once. -/
mutual
def uptoBulk {H : Type} : DataW H → Nat
  | .lit (.string bytes) => bytes.length + 1
  | .lit _ => 1
  | .nil => 1
  | .ptr d => uptoBulk d + 1
  | .slice elems spare => uptoBulkAll elems + uptoBulkAll spare + 1
  | .agg parts => uptoBulkAll parts + 1
  | .iface _ d => uptoBulk d + 1
  | .map entries => uptoBulkEntries entries + 1
  | .held _ => 1
def uptoBulkAll {H : Type} : List (DataW H) → Nat
  | [] => 0
  | d :: r => uptoBulk d + uptoBulkAll r
def uptoBulkEntries {H : Type} : List (Lit × DataW H) → Nat
  | [] => 0
  | x :: r => uptoBulkEntry x + uptoBulkEntries r
def uptoBulkEntry {H : Type} : Lit × DataW H → Nat
  | (.string bytes, d) => bytes.length + uptoBulk d + 1
  | (_, d) => uptoBulk d + 1
 end
def uptoSmall : (H : Type) → List (DataW H) → Bool := fun _ ds => decide (uptoBulkAll ds ≤ 1048576)
def OpenSpec.upto (s : _root_.Go.ChangeSpec) : _root_.Go.OpenSpec := { _root_.Go.OpenSpec.ofChange s with cond := some uptoSmall }

/-- 'laws.FnExactComplementOf', WHERE WHAT IT READS IS OF BULK AT MOST 1048576: true; the input reads as it did. -/
def fnExactComplementOfUptoRow : OpenClaim := { program := "ytdiadcmkddkjpaa", sum := "3c9201139f60e0ac3684c60a712c2c99fe26f7bd4d39728754271cec7ad9dc6f", func := "loop.example/g01363/laws.FnExactComplementOf", spec := "fnExactComplementOf", apart := false, narrowed := true }
def FnExactComplementOfUptoSaid : Prop := fnExactComplementOfUptoRow.holds Try.pinned (OpenSpec.upto fnExactComplementOfSpec)

/-- 'laws.FnExactKernelOfCrossed', WHERE WHAT IT READS IS OF BULK AT MOST 1048576: true; the input reads as it did. -/
def fnExactKernelOfCrossedUptoRow : OpenClaim := { program := "ytdiadcmkddkjpaa", sum := "3c9201139f60e0ac3684c60a712c2c99fe26f7bd4d39728754271cec7ad9dc6f", func := "loop.example/g01363/laws.FnExactKernelOfCrossed", spec := "fnExactKernelOfCrossed", unfollowed := true, recurses := true, apart := false, narrowed := true }
def FnExactKernelOfCrossedUptoSaid : Prop := fnExactKernelOfCrossedUptoRow.holds Try.pinned (OpenSpec.upto fnExactKernelOfCrossedSpec)

/-- 'laws.FnExactMoveCochain', WHERE WHAT IT READS IS OF BULK AT MOST 1048576: true; the input reads as it did. -/
def fnExactMoveCochainUptoRow : OpenClaim := { program := "ytdiadcmkddkjpaa", sum := "3c9201139f60e0ac3684c60a712c2c99fe26f7bd4d39728754271cec7ad9dc6f", func := "loop.example/g01363/laws.FnExactMoveCochain", spec := "fnExactMoveCochain", unfollowed := true, recurses := true, apart := false, narrowed := true }
def FnExactMoveCochainUptoSaid : Prop := fnExactMoveCochainUptoRow.holds Try.pinned (OpenSpec.upto fnExactMoveCochainSpec)

/-- 'laws.FnExactPullBack', WHERE WHAT IT READS IS OF BULK AT MOST 1048576: true; the input reads as it did. -/
def fnExactPullBackUptoRow : OpenClaim := { program := "ytdiadcmkddkjpaa", sum := "3c9201139f60e0ac3684c60a712c2c99fe26f7bd4d39728754271cec7ad9dc6f", func := "loop.example/g01363/laws.FnExactPullBack", spec := "fnExactPullBack", unfollowed := true, recurses := true, apart := false, narrowed := true }
def FnExactPullBackUptoSaid : Prop := fnExactPullBackUptoRow.holds Try.pinned (OpenSpec.upto fnExactPullBackSpec)

/-- 'laws.FnExactExtensionTable', WHERE WHAT IT READS IS OF BULK AT MOST 1048576: true; the input reads as it did. -/
def fnExactExtensionTableUptoRow : OpenClaim := { program := "ytdiadcmkddkjpaa", sum := "3c9201139f60e0ac3684c60a712c2c99fe26f7bd4d39728754271cec7ad9dc6f", func := "loop.example/g01363/laws.FnExactExtensionTable", spec := "fnExactExtensionTable", unfollowed := true, recurses := true, apart := false, narrowed := true }
def FnExactExtensionTableUptoSaid : Prop := fnExactExtensionTableUptoRow.holds Try.pinned (OpenSpec.upto fnExactExtensionTableSpec)

/-- 'laws.FnExactExtensionGroup', WHERE WHAT IT READS IS OF BULK AT MOST 1048576: true; the input reads as it did. -/
def fnExactExtensionGroupUptoRow : OpenClaim := { program := "ytdiadcmkddkjpaa", sum := "3c9201139f60e0ac3684c60a712c2c99fe26f7bd4d39728754271cec7ad9dc6f", func := "loop.example/g01363/laws.FnExactExtensionGroup", spec := "fnExactExtensionGroup", unfollowed := true, recurses := true, apart := false, narrowed := true }
def FnExactExtensionGroupUptoSaid : Prop := fnExactExtensionGroupUptoRow.holds Try.pinned (OpenSpec.upto fnExactExtensionGroupSpec)

/-- 'laws.FnExactOrdersOfExtension', WHERE WHAT IT READS IS OF BULK AT MOST 1048576: true; the input reads as it did. -/
def fnExactOrdersOfExtensionUptoRow : OpenClaim := { program := "ytdiadcmkddkjpaa", sum := "3c9201139f60e0ac3684c60a712c2c99fe26f7bd4d39728754271cec7ad9dc6f", func := "loop.example/g01363/laws.FnExactOrdersOfExtension", spec := "fnExactOrdersOfExtension", unfollowed := true, recurses := true, apart := false, narrowed := true }
def FnExactOrdersOfExtensionUptoSaid : Prop := fnExactOrdersOfExtensionUptoRow.holds Try.pinned (OpenSpec.upto fnExactOrdersOfExtensionSpec)

/-- 'laws.FnExactCentreOfExtension', WHERE WHAT IT READS IS OF BULK AT MOST 1048576: true; the input reads as it did. -/
def fnExactCentreOfExtensionUptoRow : OpenClaim := { program := "ytdiadcmkddkjpaa", sum := "3c9201139f60e0ac3684c60a712c2c99fe26f7bd4d39728754271cec7ad9dc6f", func := "loop.example/g01363/laws.FnExactCentreOfExtension", spec := "fnExactCentreOfExtension", unfollowed := true, recurses := true, apart := false, narrowed := true }
def FnExactCentreOfExtensionUptoSaid : Prop := fnExactCentreOfExtensionUptoRow.holds Try.pinned (OpenSpec.upto fnExactCentreOfExtensionSpec)

/-- 'laws.FnExactClassesOf', WHERE WHAT IT READS IS OF BULK AT MOST 1048576: true; the input reads as it did. -/
def fnExactClassesOfUptoRow : OpenClaim := { program := "ytdiadcmkddkjpaa", sum := "3c9201139f60e0ac3684c60a712c2c99fe26f7bd4d39728754271cec7ad9dc6f", func := "loop.example/g01363/laws.FnExactClassesOf", spec := "fnExactClassesOf", recurses := true, apart := false, narrowed := true }
def FnExactClassesOfUptoSaid : Prop := fnExactClassesOfUptoRow.holds Try.pinned (OpenSpec.upto fnExactClassesOfSpec)

/-- 'laws.FnExactConjugateComplement', WHERE WHAT IT READS IS OF BULK AT MOST 1048576: true; the input reads as it did. -/
def fnExactConjugateComplementUptoRow : OpenClaim := { program := "ytdiadcmkddkjpaa", sum := "3c9201139f60e0ac3684c60a712c2c99fe26f7bd4d39728754271cec7ad9dc6f", func := "loop.example/g01363/laws.FnExactConjugateComplement", spec := "fnExactConjugateComplement", unfollowed := true, recurses := true, apart := false, narrowed := true }
def FnExactConjugateComplementUptoSaid : Prop := fnExactConjugateComplementUptoRow.holds Try.pinned (OpenSpec.upto fnExactConjugateComplementSpec)

end Rows
end Go.Proofs.Ytdiadcmkddkjpaa
