/-
  DERIVED. GIVEN WITH THE SEED: THE CARDS: each row of YtacipknfhoadoaaDoorRows.lean that lists a variable, with what it lists TIED to the program's text (the seventh form; the later family's looks); each row that meets fmt, with fmt's text TOLD by the authors' own Lean function (tested against real Go, not proved from fmt's source: count such statements apart). THE CARD IS WHAT COUNTS. Prove the row's statement (the work); the ties are given (YtacipknfhoadoaaDoorTie.lean); close each card by the builder's one call (the guide's Derived/Test/ToyasCard.lean, 'card_holds'). Laid BY PROGRAM, IN A SANDBOX (cutbox-door.mjs). By AI agents, Wed Nov 11 2026. No macro, syntax, notation, axiom, sorry.
-/
import Derived.Test.YtacipknfhoadoaaDoorRows
import GoSem.ClaimSeven
namespace Go.Proofs.YtacipknfhoadoaaDoor
namespace Rows

/-- THE TIED CARD OF 'laws.FnExactCochainText'. -/
def fnExactCochainTextCard : Claim7 := { stood := { row := fnExactCochainTextRow, standIns := [], harness := (true, "ea46356f37aaabb87fc0e735a6e66137ed7da8492c67c6719da53cc43d0e6629"), looks := false }, kinds := [], alts := [], laidByText := true, laidKinds := [.data, .data, .data], laidTests := true, laidLooks := .later }
def FnExactCochainTextCardSaid : Prop := Claim7.holds Tryd.pinned (.plain (OpenSpec.ofChange fnExactCochainTextSpec)) fnExactCochainTextCard

/-- THE TIED CARD OF 'laws.FnExactParseCochain'. -/
def fnExactParseCochainCard : Claim7 := { stood := { row := fnExactParseCochainRow, standIns := [], harness := (true, "ea46356f37aaabb87fc0e735a6e66137ed7da8492c67c6719da53cc43d0e6629"), looks := false }, kinds := [], alts := [], laidByText := true, laidKinds := [.data, .pinned], laidTests := true, laidLooks := .later }
def FnExactParseCochainCardSaid : Prop := Claim7.holds Tryd.pinned (.plain (OpenSpec.ofChange fnExactParseCochainSpec)) fnExactParseCochainCard

/-- THE SECOND FORM's CARD OF 'laws.FnExactCochainText'. -/
def fnExactCochainTextUptoCard : Claim7 := { stood := { row := fnExactCochainTextUptoRow, standIns := [], harness := (true, "ea46356f37aaabb87fc0e735a6e66137ed7da8492c67c6719da53cc43d0e6629"), looks := false }, kinds := [], alts := [], laidByText := true, laidKinds := [.data, .data, .data], laidTests := true, laidLooks := .later }
def FnExactCochainTextUptoCardSaid : Prop := Claim7.holds Tryd.pinned (.plain (OpenSpec.upto fnExactCochainTextSpec)) fnExactCochainTextUptoCard

/-- THE SECOND FORM's CARD OF 'laws.FnExactParseCochain'. -/
def fnExactParseCochainUptoCard : Claim7 := { stood := { row := fnExactParseCochainUptoRow, standIns := [], harness := (true, "ea46356f37aaabb87fc0e735a6e66137ed7da8492c67c6719da53cc43d0e6629"), looks := false }, kinds := [], alts := [], laidByText := true, laidKinds := [.data, .pinned], laidTests := true, laidLooks := .later }
def FnExactParseCochainUptoCardSaid : Prop := Claim7.holds Tryd.pinned (.plain (OpenSpec.upto fnExactParseCochainSpec)) fnExactParseCochainUptoCard
end Rows
end Go.Proofs.YtacipknfhoadoaaDoor
