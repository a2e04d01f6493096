/-
  No cell of these rows narrows 'for every input' (looked for: loops, veiled, ifaces, maps, wideKeys, modest, calm, conditions, laid).
  DERIVED. THE GIVEN ROWS OF THIS SEAT. 6 by the template 'for every input the law returns true; each argument reads behind the call as it read before'; 0 by the template 'total and deterministic' (their statements: YtfablaokggnioaaTotals.lean).
  GIVEN WITH THE SEED: the statements are not yours to turn. If you find one false, say at which input.
  Laid BY PROGRAM, IN A SANDBOX (cutbox-rows.mjs): the forced cells as the released guide's own fill.sh prints them over the translation 1babb842599751d7… (all of the seat's roots in one cut). By AI agents, Wed Nov 11 2026. No macro, syntax, notation, axiom, sorry.
-/
import Derived.Test.YtfablaokggnioaaChecked
import GoSem.Claim
import GoSem.ClaimJoined
import GoSem.ClaimMapViews
import Derived.JoinedTies
import Derived.KernelRfl
namespace Go.Proofs.Ytfablaokggnioaa
/- THE CELL 'sum', in the pinned program and in every row, IS THE sha256 OF THE DUMP (.gsa) THAT YtfablaokggnioaaProg.lean LOADS. Nothing in Lean hashes anything: it is a label: what it is worth is what the hold of that sum in a sandbox is worth. -/
noncomputable def Try.pinned : Pinned := { name := "ytfablaokggnioaa", sum := "1babb842599751d7e4aba886bc81e749bca5f4abf985086f6c1183f94660b218", checked := Try.checked }
namespace Rows
def none {H : Type} : Left H := { results := [], args := [] }

/-- 'laws.FnExactPairProduct': WHATEVER THE INPUT: true; the input reads as it did. -/
def fnExactPairProductSpec : ChangeSpec := { name := "fnExactPairProduct", fn := fun _ => fun
  | [d1, d2, d3, d4] => { results := [.lit (.bool true)], args := [d1, d2, d3, d4] }
  | _ => none }
def fnExactPairProductRow : OpenClaim := { program := "ytfablaokggnioaa", sum := "1babb842599751d7e4aba886bc81e749bca5f4abf985086f6c1183f94660b218", func := "loop.example/g01363/laws.FnExactPairProduct", spec := "fnExactPairProduct", apart := false }
def FnExactPairProductSaid : Prop := fnExactPairProductRow.holds Try.pinned (OpenSpec.ofChange fnExactPairProductSpec)

/-- ITS FALSE NEIGHBOUR: 'it returns false'. Refute it at one input. -/
def fnExactPairProductWrong : ChangeSpec := { name := "fnExactPairProduct", fn := fun _ => fun
  | [d1, d2, d3, d4] => { results := [.lit (.bool false)], args := [d1, d2, d3, d4] }
  | _ => none }
def FnExactPairProductWrongFalsely : Prop := fnExactPairProductRow.holds Try.pinned (OpenSpec.ofChange fnExactPairProductWrong)

/-- 'laws.FnExactPairInverse': WHATEVER THE INPUT: true; the input reads as it did. -/
def fnExactPairInverseSpec : ChangeSpec := { name := "fnExactPairInverse", fn := fun _ => fun
  | [d1, d2, d3] => { results := [.lit (.bool true)], args := [d1, d2, d3] }
  | _ => none }
def fnExactPairInverseRow : OpenClaim := { program := "ytfablaokggnioaa", sum := "1babb842599751d7e4aba886bc81e749bca5f4abf985086f6c1183f94660b218", func := "loop.example/g01363/laws.FnExactPairInverse", spec := "fnExactPairInverse", apart := false }
def FnExactPairInverseSaid : Prop := fnExactPairInverseRow.holds Try.pinned (OpenSpec.ofChange fnExactPairInverseSpec)

/-- ITS FALSE NEIGHBOUR: 'it returns false'. Refute it at one input. -/
def fnExactPairInverseWrong : ChangeSpec := { name := "fnExactPairInverse", fn := fun _ => fun
  | [d1, d2, d3] => { results := [.lit (.bool false)], args := [d1, d2, d3] }
  | _ => none }
def FnExactPairInverseWrongFalsely : Prop := fnExactPairInverseRow.holds Try.pinned (OpenSpec.ofChange fnExactPairInverseWrong)

/-- 'laws.FnExactPairOrder': WHATEVER THE INPUT: true; the input reads as it did. -/
def fnExactPairOrderSpec : ChangeSpec := { name := "fnExactPairOrder", fn := fun _ => fun
  | [d1, d2, d3] => { results := [.lit (.bool true)], args := [d1, d2, d3] }
  | _ => none }
def fnExactPairOrderRow : OpenClaim := { program := "ytfablaokggnioaa", sum := "1babb842599751d7e4aba886bc81e749bca5f4abf985086f6c1183f94660b218", func := "loop.example/g01363/laws.FnExactPairOrder", spec := "fnExactPairOrder", apart := false }
def FnExactPairOrderSaid : Prop := fnExactPairOrderRow.holds Try.pinned (OpenSpec.ofChange fnExactPairOrderSpec)

/-- ITS FALSE NEIGHBOUR: 'it returns false'. Refute it at one input. -/
def fnExactPairOrderWrong : ChangeSpec := { name := "fnExactPairOrder", fn := fun _ => fun
  | [d1, d2, d3] => { results := [.lit (.bool false)], args := [d1, d2, d3] }
  | _ => none }
def FnExactPairOrderWrongFalsely : Prop := fnExactPairOrderRow.holds Try.pinned (OpenSpec.ofChange fnExactPairOrderWrong)

/-- 'laws.FnExactIsCrossed': WHATEVER THE INPUT: true; the input reads as it did. -/
def fnExactIsCrossedSpec : ChangeSpec := { name := "fnExactIsCrossed", fn := fun _ => fun
  | [d1, d2, d3] => { results := [.lit (.bool true)], args := [d1, d2, d3] }
  | _ => none }
def fnExactIsCrossedRow : OpenClaim := { program := "ytfablaokggnioaa", sum := "1babb842599751d7e4aba886bc81e749bca5f4abf985086f6c1183f94660b218", func := "loop.example/g01363/laws.FnExactIsCrossed", spec := "fnExactIsCrossed", apart := false }
def FnExactIsCrossedSaid : Prop := fnExactIsCrossedRow.holds Try.pinned (OpenSpec.ofChange fnExactIsCrossedSpec)

/-- ITS FALSE NEIGHBOUR: 'it returns false'. Refute it at one input. -/
def fnExactIsCrossedWrong : ChangeSpec := { name := "fnExactIsCrossed", fn := fun _ => fun
  | [d1, d2, d3] => { results := [.lit (.bool false)], args := [d1, d2, d3] }
  | _ => none }
def FnExactIsCrossedWrongFalsely : Prop := fnExactIsCrossedRow.holds Try.pinned (OpenSpec.ofChange fnExactIsCrossedWrong)

/-- 'laws.FnExactPrincipalMap': WHATEVER THE INPUT: true; the input reads as it did. -/
def fnExactPrincipalMapSpec : ChangeSpec := { name := "fnExactPrincipalMap", fn := fun _ => fun
  | [d1, d2, d3] => { results := [.lit (.bool true)], args := [d1, d2, d3] }
  | _ => none }
def fnExactPrincipalMapRow : OpenClaim := { program := "ytfablaokggnioaa", sum := "1babb842599751d7e4aba886bc81e749bca5f4abf985086f6c1183f94660b218", func := "loop.example/g01363/laws.FnExactPrincipalMap", spec := "fnExactPrincipalMap", unfollowed := true, recurses := true, apart := false }
def FnExactPrincipalMapSaid : Prop := fnExactPrincipalMapRow.holds Try.pinned (OpenSpec.ofChange fnExactPrincipalMapSpec)

/-- ITS FALSE NEIGHBOUR: 'it returns false'. Refute it at one input. -/
def fnExactPrincipalMapWrong : ChangeSpec := { name := "fnExactPrincipalMap", fn := fun _ => fun
  | [d1, d2, d3] => { results := [.lit (.bool false)], args := [d1, d2, d3] }
  | _ => none }
def FnExactPrincipalMapWrongFalsely : Prop := fnExactPrincipalMapRow.holds Try.pinned (OpenSpec.ofChange fnExactPrincipalMapWrong)

/-- 'laws.FnExactIsComplement': WHATEVER THE INPUT: true; the input reads as it did. -/
def fnExactIsComplementSpec : ChangeSpec := { name := "fnExactIsComplement", fn := fun _ => fun
  | [d1, d2, d3] => { results := [.lit (.bool true)], args := [d1, d2, d3] }
  | _ => none }
def fnExactIsComplementRow : OpenClaim := { program := "ytfablaokggnioaa", sum := "1babb842599751d7e4aba886bc81e749bca5f4abf985086f6c1183f94660b218", func := "loop.example/g01363/laws.FnExactIsComplement", spec := "fnExactIsComplement", apart := false }
def FnExactIsComplementSaid : Prop := fnExactIsComplementRow.holds Try.pinned (OpenSpec.ofChange fnExactIsComplementSpec)

/-- ITS FALSE NEIGHBOUR: 'it returns false'. Refute it at one input. -/
def fnExactIsComplementWrong : ChangeSpec := { name := "fnExactIsComplement", fn := fun _ => fun
  | [d1, d2, d3] => { results := [.lit (.bool false)], args := [d1, d2, d3] }
  | _ => none }
def FnExactIsComplementWrongFalsely : Prop := fnExactIsComplementRow.holds Try.pinned (OpenSpec.ofChange fnExactIsComplementWrong)

/- THE SECOND FORM. 'bulk': how many values and letters a reading holds, each counted each time it is reached (what is shared counts as often as it is met; a slice's spare places count too). A statement '..UptoSaid' is the law's where the arguments, and the package variables that the reading takes, are together of bulk at most 1048576: NARROWER than '..Said'. Prove '..Said' where nothing that the law and all that it calls make is longer than what came in: it says more and counts as full. Else prove '..UptoSaid'. A law counts once. -/
mutual
def uptoBulk {H : Type} : DataW H → Nat
  | .lit (.string bytes) => bytes.length + 1
  | .lit _ => 1
  | .nil => 1
  | .ptr d => uptoBulk d + 1
  | .slice elems spare => uptoBulkAll elems + uptoBulkAll spare + 1
  | .agg parts => uptoBulkAll parts + 1
  | .iface _ d => uptoBulk d + 1
  | .map entries => uptoBulkEntries entries + 1
  | .held _ => 1
def uptoBulkAll {H : Type} : List (DataW H) → Nat
  | [] => 0
  | d :: r => uptoBulk d + uptoBulkAll r
def uptoBulkEntries {H : Type} : List (Lit × DataW H) → Nat
  | [] => 0
  | x :: r => uptoBulkEntry x + uptoBulkEntries r
def uptoBulkEntry {H : Type} : Lit × DataW H → Nat
  | (.string bytes, d) => bytes.length + uptoBulk d + 1
  | (_, d) => uptoBulk d + 1
 end
def uptoSmall : (H : Type) → List (DataW H) → Bool := fun _ ds => decide (uptoBulkAll ds ≤ 1048576)
def OpenSpec.upto (s : _root_.Go.ChangeSpec) : _root_.Go.OpenSpec := { _root_.Go.OpenSpec.ofChange s with cond := some uptoSmall }

/-- 'laws.FnExactPairProduct', WHERE WHAT IT READS IS OF BULK AT MOST 1048576: true; the input reads as it did. -/
def fnExactPairProductUptoRow : OpenClaim := { program := "ytfablaokggnioaa", sum := "1babb842599751d7e4aba886bc81e749bca5f4abf985086f6c1183f94660b218", func := "loop.example/g01363/laws.FnExactPairProduct", spec := "fnExactPairProduct", apart := false, narrowed := true }
def FnExactPairProductUptoSaid : Prop := fnExactPairProductUptoRow.holds Try.pinned (OpenSpec.upto fnExactPairProductSpec)

/-- 'laws.FnExactPairInverse', WHERE WHAT IT READS IS OF BULK AT MOST 1048576: true; the input reads as it did. -/
def fnExactPairInverseUptoRow : OpenClaim := { program := "ytfablaokggnioaa", sum := "1babb842599751d7e4aba886bc81e749bca5f4abf985086f6c1183f94660b218", func := "loop.example/g01363/laws.FnExactPairInverse", spec := "fnExactPairInverse", apart := false, narrowed := true }
def FnExactPairInverseUptoSaid : Prop := fnExactPairInverseUptoRow.holds Try.pinned (OpenSpec.upto fnExactPairInverseSpec)

/-- 'laws.FnExactPairOrder', WHERE WHAT IT READS IS OF BULK AT MOST 1048576: true; the input reads as it did. -/
def fnExactPairOrderUptoRow : OpenClaim := { program := "ytfablaokggnioaa", sum := "1babb842599751d7e4aba886bc81e749bca5f4abf985086f6c1183f94660b218", func := "loop.example/g01363/laws.FnExactPairOrder", spec := "fnExactPairOrder", apart := false, narrowed := true }
def FnExactPairOrderUptoSaid : Prop := fnExactPairOrderUptoRow.holds Try.pinned (OpenSpec.upto fnExactPairOrderSpec)

/-- 'laws.FnExactIsCrossed', WHERE WHAT IT READS IS OF BULK AT MOST 1048576: true; the input reads as it did. -/
def fnExactIsCrossedUptoRow : OpenClaim := { program := "ytfablaokggnioaa", sum := "1babb842599751d7e4aba886bc81e749bca5f4abf985086f6c1183f94660b218", func := "loop.example/g01363/laws.FnExactIsCrossed", spec := "fnExactIsCrossed", apart := false, narrowed := true }
def FnExactIsCrossedUptoSaid : Prop := fnExactIsCrossedUptoRow.holds Try.pinned (OpenSpec.upto fnExactIsCrossedSpec)

/-- 'laws.FnExactPrincipalMap', WHERE WHAT IT READS IS OF BULK AT MOST 1048576: true; the input reads as it did. -/
def fnExactPrincipalMapUptoRow : OpenClaim := { program := "ytfablaokggnioaa", sum := "1babb842599751d7e4aba886bc81e749bca5f4abf985086f6c1183f94660b218", func := "loop.example/g01363/laws.FnExactPrincipalMap", spec := "fnExactPrincipalMap", unfollowed := true, recurses := true, apart := false, narrowed := true }
def FnExactPrincipalMapUptoSaid : Prop := fnExactPrincipalMapUptoRow.holds Try.pinned (OpenSpec.upto fnExactPrincipalMapSpec)

/-- 'laws.FnExactIsComplement', WHERE WHAT IT READS IS OF BULK AT MOST 1048576: true; the input reads as it did. -/
def fnExactIsComplementUptoRow : OpenClaim := { program := "ytfablaokggnioaa", sum := "1babb842599751d7e4aba886bc81e749bca5f4abf985086f6c1183f94660b218", func := "loop.example/g01363/laws.FnExactIsComplement", spec := "fnExactIsComplement", apart := false, narrowed := true }
def FnExactIsComplementUptoSaid : Prop := fnExactIsComplementUptoRow.holds Try.pinned (OpenSpec.upto fnExactIsComplementSpec)

end Rows
end Go.Proofs.Ytfablaokggnioaa
