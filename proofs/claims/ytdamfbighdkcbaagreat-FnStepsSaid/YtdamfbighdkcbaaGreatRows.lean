/-
  No cell of these rows narrows 'for every input' (looked for: loops, veiled, ifaces, maps, wideKeys, modest, calm, conditions, laid).
  DERIVED. THE GIVEN ROWS OF THIS SEAT. 3 by the template 'for every input the law returns true; each argument reads behind the call as it read before'; 0 by the template 'total and deterministic' (their statements: YtdamfbighdkcbaaGreatTotals.lean).
  GIVEN WITH THE SEED: the statements are not yours to turn. If you find one false, say at which input.
  Laid BY PROGRAM, IN A SANDBOX (cutbox-rows.mjs): the forced cells as the released guide's own fill.sh prints them over the translation 1c8318497f160f57… (all of the seat's roots in one cut). By AI agents, Wed Nov 11 2026. No macro, syntax, notation, axiom, sorry.
-/
import Derived.Test.YtdamfbighdkcbaaGreatChecked
import GoSem.Claim
import GoSem.ClaimJoined
import GoSem.ClaimMapViews
import Derived.JoinedTies
import Derived.KernelRfl
namespace Go.Proofs.YtdamfbighdkcbaaGreat
/- THE CELL 'sum', in the pinned program and in every row, IS THE sha256 OF THE DUMP (.gsa) THAT YtdamfbighdkcbaaGreatProg.lean LOADS. Nothing in Lean hashes anything: it is a label: what it is worth is what the hold of that sum in a sandbox is worth. -/
noncomputable def Tryz.pinned : Pinned := { name := "ytdamfbighdkcbaagreat", sum := "1c8318497f160f5737bad0bddb815b8c716b1513d8683eed177e8ab6a8404639", checked := Tryz.checked }
namespace Rows
def none {H : Type} : Left H := { results := [], args := [] }

/-- 'laws.FnExactInvariantsOf': WHATEVER THE INPUT: true; the input reads as it did. -/
def fnExactInvariantsOfSpec : ChangeSpec := { name := "fnExactInvariantsOf", fn := fun _ => fun
  | [d1, d2, d3] => { results := [.lit (.bool true)], args := [d1, d2, d3] }
  | _ => none }
def fnExactInvariantsOfRow : OpenClaim := { program := "ytdamfbighdkcbaagreat", sum := "1c8318497f160f5737bad0bddb815b8c716b1513d8683eed177e8ab6a8404639", func := "loop.example/g01363/laws.FnExactInvariantsOf", spec := "fnExactInvariantsOf", unfollowed := true, recurses := true, apart := false }
def FnExactInvariantsOfSaid : Prop := fnExactInvariantsOfRow.holds Tryz.pinned (OpenSpec.ofChange fnExactInvariantsOfSpec)

/-- ITS FALSE NEIGHBOUR: 'it returns false'. Refute it at one input. -/
def fnExactInvariantsOfWrong : ChangeSpec := { name := "fnExactInvariantsOf", fn := fun _ => fun
  | [d1, d2, d3] => { results := [.lit (.bool false)], args := [d1, d2, d3] }
  | _ => none }
def FnExactInvariantsOfWrongFalsely : Prop := fnExactInvariantsOfRow.holds Tryz.pinned (OpenSpec.ofChange fnExactInvariantsOfWrong)

/-- 'laws.FnSteps': WHATEVER THE INPUT: true; the input reads as it did. -/
def fnStepsSpec : ChangeSpec := { name := "fnSteps", fn := fun _ => fun
  | [d] => { results := [.lit (.bool true)], args := [d] }
  | _ => none }
def fnStepsRow : OpenClaim := { program := "ytdamfbighdkcbaagreat", sum := "1c8318497f160f5737bad0bddb815b8c716b1513d8683eed177e8ab6a8404639", func := "loop.example/g01363/laws.FnSteps", spec := "fnSteps", unfollowed := true, recurses := true, apart := false }
def FnStepsSaid : Prop := fnStepsRow.holds Tryz.pinned (OpenSpec.ofChange fnStepsSpec)

/-- ITS FALSE NEIGHBOUR: 'it returns false'. Refute it at one input. -/
def fnStepsWrong : ChangeSpec := { name := "fnSteps", fn := fun _ => fun
  | [d] => { results := [.lit (.bool false)], args := [d] }
  | _ => none }
def FnStepsWrongFalsely : Prop := fnStepsRow.holds Tryz.pinned (OpenSpec.ofChange fnStepsWrong)

/-- 'laws.FnLeastCocycles': WHATEVER THE INPUT: true; the input reads as it did. -/
def fnLeastCocyclesSpec : ChangeSpec := { name := "fnLeastCocycles", fn := fun _ => fun
  | [d] => { results := [.lit (.bool true)], args := [d] }
  | _ => none }
def fnLeastCocyclesRow : OpenClaim := { program := "ytdamfbighdkcbaagreat", sum := "1c8318497f160f5737bad0bddb815b8c716b1513d8683eed177e8ab6a8404639", func := "loop.example/g01363/laws.FnLeastCocycles", spec := "fnLeastCocycles", unfollowed := true, recurses := true, apart := false }
def FnLeastCocyclesSaid : Prop := fnLeastCocyclesRow.holds Tryz.pinned (OpenSpec.ofChange fnLeastCocyclesSpec)

/-- ITS FALSE NEIGHBOUR: 'it returns false'. Refute it at one input. -/
def fnLeastCocyclesWrong : ChangeSpec := { name := "fnLeastCocycles", fn := fun _ => fun
  | [d] => { results := [.lit (.bool false)], args := [d] }
  | _ => none }
def FnLeastCocyclesWrongFalsely : Prop := fnLeastCocyclesRow.holds Tryz.pinned (OpenSpec.ofChange fnLeastCocyclesWrong)

/- THE SECOND FORM. 'bulk': how many values and letters a reading holds, each counted each time it is reached (what is shared counts as often as it is met; a slice's spare places count too). A statement '..UptoSaid' is the law's where the arguments, and the package variables that the reading takes, are together of bulk at most 1048576: NARROWER than '..Said'. Prove '..Said' where nothing that the law and all that it calls make is longer than what came in: it says more and counts as full. Else prove '..UptoSaid'. A law counts once. -/
mutual
def uptoBulk {H : Type} : DataW H → Nat
  | .lit (.string bytes) => bytes.length + 1
  | .lit _ => 1
  | .nil => 1
  | .ptr d => uptoBulk d + 1
  | .slice elems spare => uptoBulkAll elems + uptoBulkAll spare + 1
  | .agg parts => uptoBulkAll parts + 1
  | .iface _ d => uptoBulk d + 1
  | .map entries => uptoBulkEntries entries + 1
  | .held _ => 1
def uptoBulkAll {H : Type} : List (DataW H) → Nat
  | [] => 0
  | d :: r => uptoBulk d + uptoBulkAll r
def uptoBulkEntries {H : Type} : List (Lit × DataW H) → Nat
  | [] => 0
  | x :: r => uptoBulkEntry x + uptoBulkEntries r
def uptoBulkEntry {H : Type} : Lit × DataW H → Nat
  | (.string bytes, d) => bytes.length + uptoBulk d + 1
  | (_, d) => uptoBulk d + 1
 end
def uptoSmall : (H : Type) → List (DataW H) → Bool := fun _ ds => decide (uptoBulkAll ds ≤ 1048576)
def OpenSpec.upto (s : _root_.Go.ChangeSpec) : _root_.Go.OpenSpec := { _root_.Go.OpenSpec.ofChange s with cond := some uptoSmall }

/-- 'laws.FnExactInvariantsOf', WHERE WHAT IT READS IS OF BULK AT MOST 1048576: true; the input reads as it did. -/
def fnExactInvariantsOfUptoRow : OpenClaim := { program := "ytdamfbighdkcbaagreat", sum := "1c8318497f160f5737bad0bddb815b8c716b1513d8683eed177e8ab6a8404639", func := "loop.example/g01363/laws.FnExactInvariantsOf", spec := "fnExactInvariantsOf", unfollowed := true, recurses := true, apart := false, narrowed := true }
def FnExactInvariantsOfUptoSaid : Prop := fnExactInvariantsOfUptoRow.holds Tryz.pinned (OpenSpec.upto fnExactInvariantsOfSpec)

/-- 'laws.FnSteps', WHERE WHAT IT READS IS OF BULK AT MOST 1048576: true; the input reads as it did. -/
def fnStepsUptoRow : OpenClaim := { program := "ytdamfbighdkcbaagreat", sum := "1c8318497f160f5737bad0bddb815b8c716b1513d8683eed177e8ab6a8404639", func := "loop.example/g01363/laws.FnSteps", spec := "fnSteps", unfollowed := true, recurses := true, apart := false, narrowed := true }
def FnStepsUptoSaid : Prop := fnStepsUptoRow.holds Tryz.pinned (OpenSpec.upto fnStepsSpec)

/-- 'laws.FnLeastCocycles', WHERE WHAT IT READS IS OF BULK AT MOST 1048576: true; the input reads as it did. -/
def fnLeastCocyclesUptoRow : OpenClaim := { program := "ytdamfbighdkcbaagreat", sum := "1c8318497f160f5737bad0bddb815b8c716b1513d8683eed177e8ab6a8404639", func := "loop.example/g01363/laws.FnLeastCocycles", spec := "fnLeastCocycles", unfollowed := true, recurses := true, apart := false, narrowed := true }
def FnLeastCocyclesUptoSaid : Prop := fnLeastCocyclesUptoRow.holds Tryz.pinned (OpenSpec.upto fnLeastCocyclesSpec)

end Rows
end Go.Proofs.YtdamfbighdkcbaaGreat
