/-
  DERIVED. GIVEN WITH THE SEED: THE CARDS: each row of YtoljodiflhbohaaGreatDoorRows.lean that lists a variable, with what it lists TIED to the program's text (the seventh form; the later family's looks); each row that meets fmt, with fmt's text TOLD by the authors' own Lean function (tested against real Go, not proved from fmt's source: count such statements apart). THE CARD IS WHAT COUNTS. Prove the row's statement (the work); the ties are given (YtoljodiflhbohaaGreatDoorTie.lean); close each card by the builder's one call (the guide's Derived/Test/ToyasCard.lean, 'card_holds'). Laid BY PROGRAM, IN A SANDBOX (cutbox-door.mjs). By AI agents, Wed Nov 11 2026. No macro, syntax, notation, axiom, sorry.
-/
import Derived.Test.YtoljodiflhbohaaGreatDoorRows
import GoSem.ClaimSeven
namespace Go.Proofs.YtoljodiflhbohaaGreatDoor
namespace Rows

/-- THE TIED CARD OF 'laws.FnCupProducts'. -/
def fnCupProductsCard : Claim7 := { stood := { row := fnCupProductsRow, standIns := [], harness := (true, "3a630b20bfb4f537e57908834496947a565cce767c6eb16106ac684d48049c84"), looks := false }, kinds := [], alts := [], laidByText := true, laidKinds := [.data, .data, .data], laidTests := true, laidLooks := .later }
def FnCupProductsCardSaid : Prop := Claim7.holds Tryz.pinned (.plain (OpenSpec.ofChange fnCupProductsSpec)) fnCupProductsCard

/-- THE SECOND FORM's CARD OF 'laws.FnCupProducts'. -/
def fnCupProductsUptoCard : Claim7 := { stood := { row := fnCupProductsUptoRow, standIns := [], harness := (true, "3a630b20bfb4f537e57908834496947a565cce767c6eb16106ac684d48049c84"), looks := false }, kinds := [], alts := [], laidByText := true, laidKinds := [.data, .data, .data], laidTests := true, laidLooks := .later }
def FnCupProductsUptoCardSaid : Prop := Claim7.holds Tryz.pinned (.plain (OpenSpec.upto fnCupProductsSpec)) fnCupProductsUptoCard
end Rows
end Go.Proofs.YtoljodiflhbohaaGreatDoor
