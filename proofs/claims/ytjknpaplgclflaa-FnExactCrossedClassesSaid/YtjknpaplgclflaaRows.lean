/-
  No cell of these rows narrows 'for every input' (looked for: loops, veiled, ifaces, maps, wideKeys, modest, calm, conditions, laid).
  DERIVED. THE GIVEN ROWS OF THIS SEAT. 3 by the template 'for every input the law returns true; each argument reads behind the call as it read before'; 0 by the template 'total and deterministic' (their statements: YtjknpaplgclflaaTotals.lean).
  GIVEN WITH THE SEED: the statements are not yours to turn. If you find one false, say at which input.
  Laid BY PROGRAM, IN A SANDBOX (cutbox-rows.mjs): the forced cells as the released guide's own fill.sh prints them over the translation be4ccde344ebaf73… (all of the seat's roots in one cut). By AI agents, Wed Nov 11 2026. No macro, syntax, notation, axiom, sorry.
-/
import Derived.Test.YtjknpaplgclflaaChecked
import GoSem.Claim
import GoSem.ClaimJoined
import GoSem.ClaimMapViews
import Derived.JoinedTies
import Derived.KernelRfl
namespace Go.Proofs.Ytjknpaplgclflaa
/- THE CELL 'sum', in the pinned program and in every row, IS THE sha256 OF THE DUMP (.gsa) THAT YtjknpaplgclflaaProg.lean LOADS. Nothing in Lean hashes anything: it is a label: what it is worth is what the hold of that sum in a sandbox is worth. -/
noncomputable def Try.pinned : Pinned := { name := "ytjknpaplgclflaa", sum := "be4ccde344ebaf73ce4e46c96e6764c53123c412745790fac3918276abcaf0d9", checked := Try.checked }
namespace Rows
def none {H : Type} : Left H := { results := [], args := [] }

/-- 'laws.FnExactPrincipalMaps': WHATEVER THE INPUT: true; the input reads as it did. -/
def fnExactPrincipalMapsSpec : ChangeSpec := { name := "fnExactPrincipalMaps", fn := fun _ => fun
  | [d1, d2] => { results := [.lit (.bool true)], args := [d1, d2] }
  | _ => none }
def fnExactPrincipalMapsRow : OpenClaim := { program := "ytjknpaplgclflaa", sum := "be4ccde344ebaf73ce4e46c96e6764c53123c412745790fac3918276abcaf0d9", func := "loop.example/g01363/laws.FnExactPrincipalMaps", spec := "fnExactPrincipalMaps", unfollowed := true, recurses := true, apart := false }
def FnExactPrincipalMapsSaid : Prop := fnExactPrincipalMapsRow.holds Try.pinned (OpenSpec.ofChange fnExactPrincipalMapsSpec)

/-- ITS FALSE NEIGHBOUR: 'it returns false'. Refute it at one input. -/
def fnExactPrincipalMapsWrong : ChangeSpec := { name := "fnExactPrincipalMaps", fn := fun _ => fun
  | [d1, d2] => { results := [.lit (.bool false)], args := [d1, d2] }
  | _ => none }
def FnExactPrincipalMapsWrongFalsely : Prop := fnExactPrincipalMapsRow.holds Try.pinned (OpenSpec.ofChange fnExactPrincipalMapsWrong)

/-- 'laws.FnExactCrossedMaps': WHATEVER THE INPUT: true; the input reads as it did. -/
def fnExactCrossedMapsSpec : ChangeSpec := { name := "fnExactCrossedMaps", fn := fun _ => fun
  | [d1, d2] => { results := [.lit (.bool true)], args := [d1, d2] }
  | _ => none }
def fnExactCrossedMapsRow : OpenClaim := { program := "ytjknpaplgclflaa", sum := "be4ccde344ebaf73ce4e46c96e6764c53123c412745790fac3918276abcaf0d9", func := "loop.example/g01363/laws.FnExactCrossedMaps", spec := "fnExactCrossedMaps", unfollowed := true, recurses := true, apart := false }
def FnExactCrossedMapsSaid : Prop := fnExactCrossedMapsRow.holds Try.pinned (OpenSpec.ofChange fnExactCrossedMapsSpec)

/-- ITS FALSE NEIGHBOUR: 'it returns false'. Refute it at one input. -/
def fnExactCrossedMapsWrong : ChangeSpec := { name := "fnExactCrossedMaps", fn := fun _ => fun
  | [d1, d2] => { results := [.lit (.bool false)], args := [d1, d2] }
  | _ => none }
def FnExactCrossedMapsWrongFalsely : Prop := fnExactCrossedMapsRow.holds Try.pinned (OpenSpec.ofChange fnExactCrossedMapsWrong)

/-- 'laws.FnExactCrossedClasses': WHATEVER THE INPUT: true; the input reads as it did. -/
def fnExactCrossedClassesSpec : ChangeSpec := { name := "fnExactCrossedClasses", fn := fun _ => fun
  | [d1, d2] => { results := [.lit (.bool true)], args := [d1, d2] }
  | _ => none }
def fnExactCrossedClassesRow : OpenClaim := { program := "ytjknpaplgclflaa", sum := "be4ccde344ebaf73ce4e46c96e6764c53123c412745790fac3918276abcaf0d9", func := "loop.example/g01363/laws.FnExactCrossedClasses", spec := "fnExactCrossedClasses", unfollowed := true, recurses := true, apart := false }
def FnExactCrossedClassesSaid : Prop := fnExactCrossedClassesRow.holds Try.pinned (OpenSpec.ofChange fnExactCrossedClassesSpec)

/-- ITS FALSE NEIGHBOUR: 'it returns false'. Refute it at one input. -/
def fnExactCrossedClassesWrong : ChangeSpec := { name := "fnExactCrossedClasses", fn := fun _ => fun
  | [d1, d2] => { results := [.lit (.bool false)], args := [d1, d2] }
  | _ => none }
def FnExactCrossedClassesWrongFalsely : Prop := fnExactCrossedClassesRow.holds Try.pinned (OpenSpec.ofChange fnExactCrossedClassesWrong)

/- THE SECOND FORM. 'bulk': how many values and letters a reading holds, each counted each time it is reached (what is shared counts as often as it is met; a slice's spare places count too). A statement '..UptoSaid' is the law's where the arguments, and the package variables that the reading takes, are together of bulk at most 1048576: NARROWER than '..Said'. Prove '..Said' where nothing that the law and all that it calls make is longer than what came in: it says more and counts as full. Else prove '..UptoSaid'. A law counts once. -/
mutual
def uptoBulk {H : Type} : DataW H → Nat
  | .lit (.string bytes) => bytes.length + 1
  | .lit _ => 1
  | .nil => 1
  | .ptr d => uptoBulk d + 1
  | .slice elems spare => uptoBulkAll elems + uptoBulkAll spare + 1
  | .agg parts => uptoBulkAll parts + 1
  | .iface _ d => uptoBulk d + 1
  | .map entries => uptoBulkEntries entries + 1
  | .held _ => 1
def uptoBulkAll {H : Type} : List (DataW H) → Nat
  | [] => 0
  | d :: r => uptoBulk d + uptoBulkAll r
def uptoBulkEntries {H : Type} : List (Lit × DataW H) → Nat
  | [] => 0
  | x :: r => uptoBulkEntry x + uptoBulkEntries r
def uptoBulkEntry {H : Type} : Lit × DataW H → Nat
  | (.string bytes, d) => bytes.length + uptoBulk d + 1
  | (_, d) => uptoBulk d + 1
 end
def uptoSmall : (H : Type) → List (DataW H) → Bool := fun _ ds => decide (uptoBulkAll ds ≤ 1048576)
def OpenSpec.upto (s : _root_.Go.ChangeSpec) : _root_.Go.OpenSpec := { _root_.Go.OpenSpec.ofChange s with cond := some uptoSmall }

/-- 'laws.FnExactPrincipalMaps', WHERE WHAT IT READS IS OF BULK AT MOST 1048576: true; the input reads as it did. -/
def fnExactPrincipalMapsUptoRow : OpenClaim := { program := "ytjknpaplgclflaa", sum := "be4ccde344ebaf73ce4e46c96e6764c53123c412745790fac3918276abcaf0d9", func := "loop.example/g01363/laws.FnExactPrincipalMaps", spec := "fnExactPrincipalMaps", unfollowed := true, recurses := true, apart := false, narrowed := true }
def FnExactPrincipalMapsUptoSaid : Prop := fnExactPrincipalMapsUptoRow.holds Try.pinned (OpenSpec.upto fnExactPrincipalMapsSpec)

/-- 'laws.FnExactCrossedMaps', WHERE WHAT IT READS IS OF BULK AT MOST 1048576: true; the input reads as it did. -/
def fnExactCrossedMapsUptoRow : OpenClaim := { program := "ytjknpaplgclflaa", sum := "be4ccde344ebaf73ce4e46c96e6764c53123c412745790fac3918276abcaf0d9", func := "loop.example/g01363/laws.FnExactCrossedMaps", spec := "fnExactCrossedMaps", unfollowed := true, recurses := true, apart := false, narrowed := true }
def FnExactCrossedMapsUptoSaid : Prop := fnExactCrossedMapsUptoRow.holds Try.pinned (OpenSpec.upto fnExactCrossedMapsSpec)

/-- 'laws.FnExactCrossedClasses', WHERE WHAT IT READS IS OF BULK AT MOST 1048576: true; the input reads as it did. -/
def fnExactCrossedClassesUptoRow : OpenClaim := { program := "ytjknpaplgclflaa", sum := "be4ccde344ebaf73ce4e46c96e6764c53123c412745790fac3918276abcaf0d9", func := "loop.example/g01363/laws.FnExactCrossedClasses", spec := "fnExactCrossedClasses", unfollowed := true, recurses := true, apart := false, narrowed := true }
def FnExactCrossedClassesUptoSaid : Prop := fnExactCrossedClassesUptoRow.holds Try.pinned (OpenSpec.upto fnExactCrossedClassesSpec)

end Rows
end Go.Proofs.Ytjknpaplgclflaa
