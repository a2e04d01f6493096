/-
  No cell of these rows narrows 'for every input' (looked for: loops, veiled, ifaces, maps, wideKeys, modest, calm, conditions, laid).
  DERIVED. THE GIVEN ROWS OF THIS SEAT. 4 by the template 'for every input the law returns true; each argument reads behind the call as it read before'; 0 by the template 'total and deterministic' (their statements: YthmcpmnhdbeahaaGreatTotals.lean).
  GIVEN WITH THE SEED: the statements are not yours to turn. If you find one false, say at which input.
  Laid BY PROGRAM, IN A SANDBOX (cutbox-rows.mjs): the forced cells as the released guide's own fill.sh prints them over the translation 186c6c307f38a321… (all of the seat's roots in one cut). By AI agents, Wed Nov 11 2026. No macro, syntax, notation, axiom, sorry.
-/
import Derived.Test.YthmcpmnhdbeahaaGreatChecked
import GoSem.Claim
import GoSem.ClaimJoined
import GoSem.ClaimMapViews
import Derived.JoinedTies
import Derived.KernelRfl
namespace Go.Proofs.YthmcpmnhdbeahaaGreat
/- THE CELL 'sum', in the pinned program and in every row, IS THE sha256 OF THE DUMP (.gsa) THAT YthmcpmnhdbeahaaGreatProg.lean LOADS. Nothing in Lean hashes anything: it is a label: what it is worth is what the hold of that sum in a sandbox is worth. -/
noncomputable def Tryz.pinned : Pinned := { name := "ythmcpmnhdbeahaagreat", sum := "186c6c307f38a321dde4997eadf2f66f303b3a9047e6d251561dd44a2ec16517", checked := Tryz.checked }
namespace Rows
def none {H : Type} : Left H := { results := [], args := [] }

/-- 'laws.FnPairs': WHATEVER THE INPUT: true; the input reads as it did. -/
def fnPairsSpec : ChangeSpec := { name := "fnPairs", fn := fun _ => fun
  | [d] => { results := [.lit (.bool true)], args := [d] }
  | _ => none }
def fnPairsRow : OpenClaim := { program := "ythmcpmnhdbeahaagreat", sum := "186c6c307f38a321dde4997eadf2f66f303b3a9047e6d251561dd44a2ec16517", func := "loop.example/g01363/laws.FnPairs", spec := "fnPairs", unfollowed := true, recurses := true, apart := false }
def FnPairsSaid : Prop := fnPairsRow.holds Tryz.pinned (OpenSpec.ofChange fnPairsSpec)

/-- ITS FALSE NEIGHBOUR: 'it returns false'. Refute it at one input. -/
def fnPairsWrong : ChangeSpec := { name := "fnPairs", fn := fun _ => fun
  | [d] => { results := [.lit (.bool false)], args := [d] }
  | _ => none }
def FnPairsWrongFalsely : Prop := fnPairsRow.holds Tryz.pinned (OpenSpec.ofChange fnPairsWrong)

/-- 'laws.FnCrossedMaps': WHATEVER THE INPUT: true; the input reads as it did. -/
def fnCrossedMapsSpec : ChangeSpec := { name := "fnCrossedMaps", fn := fun _ => fun
  | [d] => { results := [.lit (.bool true)], args := [d] }
  | _ => none }
def fnCrossedMapsRow : OpenClaim := { program := "ythmcpmnhdbeahaagreat", sum := "186c6c307f38a321dde4997eadf2f66f303b3a9047e6d251561dd44a2ec16517", func := "loop.example/g01363/laws.FnCrossedMaps", spec := "fnCrossedMaps", unfollowed := true, recurses := true, apart := false }
def FnCrossedMapsSaid : Prop := fnCrossedMapsRow.holds Tryz.pinned (OpenSpec.ofChange fnCrossedMapsSpec)

/-- ITS FALSE NEIGHBOUR: 'it returns false'. Refute it at one input. -/
def fnCrossedMapsWrong : ChangeSpec := { name := "fnCrossedMaps", fn := fun _ => fun
  | [d] => { results := [.lit (.bool false)], args := [d] }
  | _ => none }
def FnCrossedMapsWrongFalsely : Prop := fnCrossedMapsRow.holds Tryz.pinned (OpenSpec.ofChange fnCrossedMapsWrong)

/-- 'laws.FnExtensions': WHATEVER THE INPUT: true; the input reads as it did. -/
def fnExtensionsSpec : ChangeSpec := { name := "fnExtensions", fn := fun _ => fun
  | [d] => { results := [.lit (.bool true)], args := [d] }
  | _ => none }
def fnExtensionsRow : OpenClaim := { program := "ythmcpmnhdbeahaagreat", sum := "186c6c307f38a321dde4997eadf2f66f303b3a9047e6d251561dd44a2ec16517", func := "loop.example/g01363/laws.FnExtensions", spec := "fnExtensions", unfollowed := true, recurses := true, apart := false }
def FnExtensionsSaid : Prop := fnExtensionsRow.holds Tryz.pinned (OpenSpec.ofChange fnExtensionsSpec)

/-- ITS FALSE NEIGHBOUR: 'it returns false'. Refute it at one input. -/
def fnExtensionsWrong : ChangeSpec := { name := "fnExtensions", fn := fun _ => fun
  | [d] => { results := [.lit (.bool false)], args := [d] }
  | _ => none }
def FnExtensionsWrongFalsely : Prop := fnExtensionsRow.holds Tryz.pinned (OpenSpec.ofChange fnExtensionsWrong)

/-- 'laws.FnFixed': WHATEVER THE INPUT: true; the input reads as it did. -/
def fnFixedSpec : ChangeSpec := { name := "fnFixed", fn := fun _ => fun
  | [d] => { results := [.lit (.bool true)], args := [d] }
  | _ => none }
def fnFixedRow : OpenClaim := { program := "ythmcpmnhdbeahaagreat", sum := "186c6c307f38a321dde4997eadf2f66f303b3a9047e6d251561dd44a2ec16517", func := "loop.example/g01363/laws.FnFixed", spec := "fnFixed", unfollowed := true, recurses := true, apart := false }
def FnFixedSaid : Prop := fnFixedRow.holds Tryz.pinned (OpenSpec.ofChange fnFixedSpec)

/-- ITS FALSE NEIGHBOUR: 'it returns false'. Refute it at one input. -/
def fnFixedWrong : ChangeSpec := { name := "fnFixed", fn := fun _ => fun
  | [d] => { results := [.lit (.bool false)], args := [d] }
  | _ => none }
def FnFixedWrongFalsely : Prop := fnFixedRow.holds Tryz.pinned (OpenSpec.ofChange fnFixedWrong)

/- THE SECOND FORM. 'bulk': how many values and letters a reading holds, each counted each time it is reached (what is shared counts as often as it is met; a slice's spare places count too). A statement '..UptoSaid' is the law's where the arguments, and the package variables that the reading takes, are together of bulk at most 1048576: NARROWER than '..Said'. Prove '..Said' where nothing that the law and all that it calls make is longer than what came in: it says more and counts as full. Else prove '..UptoSaid'. A law counts once. -/
mutual
def uptoBulk {H : Type} : DataW H → Nat
  | .lit (.string bytes) => bytes.length + 1
  | .lit _ => 1
  | .nil => 1
  | .ptr d => uptoBulk d + 1
  | .slice elems spare => uptoBulkAll elems + uptoBulkAll spare + 1
  | .agg parts => uptoBulkAll parts + 1
  | .iface _ d => uptoBulk d + 1
  | .map entries => uptoBulkEntries entries + 1
  | .held _ => 1
def uptoBulkAll {H : Type} : List (DataW H) → Nat
  | [] => 0
  | d :: r => uptoBulk d + uptoBulkAll r
def uptoBulkEntries {H : Type} : List (Lit × DataW H) → Nat
  | [] => 0
  | x :: r => uptoBulkEntry x + uptoBulkEntries r
def uptoBulkEntry {H : Type} : Lit × DataW H → Nat
  | (.string bytes, d) => bytes.length + uptoBulk d + 1
  | (_, d) => uptoBulk d + 1
 end
def uptoSmall : (H : Type) → List (DataW H) → Bool := fun _ ds => decide (uptoBulkAll ds ≤ 1048576)
def OpenSpec.upto (s : _root_.Go.ChangeSpec) : _root_.Go.OpenSpec := { _root_.Go.OpenSpec.ofChange s with cond := some uptoSmall }

/-- 'laws.FnPairs', WHERE WHAT IT READS IS OF BULK AT MOST 1048576: true; the input reads as it did. -/
def fnPairsUptoRow : OpenClaim := { program := "ythmcpmnhdbeahaagreat", sum := "186c6c307f38a321dde4997eadf2f66f303b3a9047e6d251561dd44a2ec16517", func := "loop.example/g01363/laws.FnPairs", spec := "fnPairs", unfollowed := true, recurses := true, apart := false, narrowed := true }
def FnPairsUptoSaid : Prop := fnPairsUptoRow.holds Tryz.pinned (OpenSpec.upto fnPairsSpec)

/-- 'laws.FnCrossedMaps', WHERE WHAT IT READS IS OF BULK AT MOST 1048576: true; the input reads as it did. -/
def fnCrossedMapsUptoRow : OpenClaim := { program := "ythmcpmnhdbeahaagreat", sum := "186c6c307f38a321dde4997eadf2f66f303b3a9047e6d251561dd44a2ec16517", func := "loop.example/g01363/laws.FnCrossedMaps", spec := "fnCrossedMaps", unfollowed := true, recurses := true, apart := false, narrowed := true }
def FnCrossedMapsUptoSaid : Prop := fnCrossedMapsUptoRow.holds Tryz.pinned (OpenSpec.upto fnCrossedMapsSpec)

/-- 'laws.FnExtensions', WHERE WHAT IT READS IS OF BULK AT MOST 1048576: true; the input reads as it did. -/
def fnExtensionsUptoRow : OpenClaim := { program := "ythmcpmnhdbeahaagreat", sum := "186c6c307f38a321dde4997eadf2f66f303b3a9047e6d251561dd44a2ec16517", func := "loop.example/g01363/laws.FnExtensions", spec := "fnExtensions", unfollowed := true, recurses := true, apart := false, narrowed := true }
def FnExtensionsUptoSaid : Prop := fnExtensionsUptoRow.holds Tryz.pinned (OpenSpec.upto fnExtensionsSpec)

/-- 'laws.FnFixed', WHERE WHAT IT READS IS OF BULK AT MOST 1048576: true; the input reads as it did. -/
def fnFixedUptoRow : OpenClaim := { program := "ythmcpmnhdbeahaagreat", sum := "186c6c307f38a321dde4997eadf2f66f303b3a9047e6d251561dd44a2ec16517", func := "loop.example/g01363/laws.FnFixed", spec := "fnFixed", unfollowed := true, recurses := true, apart := false, narrowed := true }
def FnFixedUptoSaid : Prop := fnFixedUptoRow.holds Tryz.pinned (OpenSpec.upto fnFixedSpec)

end Rows
end Go.Proofs.YthmcpmnhdbeahaaGreat
