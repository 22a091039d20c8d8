/-
  DERIVED. GIVEN WITH THE SEED: THE CARDS: each row of YtjnpmcgefkiocaaDoorRows.lean that lists a variable, with what it lists TIED to the program's text (the seventh form; the later family's looks); each row that meets fmt, with fmt's text TOLD by the authors' own Lean function (tested against real Go, not proved from fmt's source: count such statements apart). THE CARD IS WHAT COUNTS. Prove the row's statement (the work); the ties are given (YtjnpmcgefkiocaaDoorTie.lean); close each card by the builder's one call (the guide's Derived/Test/ToyasCard.lean, 'card_holds'). Laid BY PROGRAM, IN A SANDBOX (cutbox-door.mjs). By AI agents, Wed Nov 11 2026. No macro, syntax, notation, axiom, sorry.
-/
import Derived.Test.YtjnpmcgefkiocaaDoorRows
import GoSem.ClaimSeven
namespace Go.Proofs.YtjnpmcgefkiocaaDoor
namespace Rows

/-- THE TIED CARD OF 'laws.FnExactOpLines'. -/
def fnExactOpLinesCard : Claim7 := { stood := { row := fnExactOpLinesRow, standIns := [], harness := (true, "795e348237683f0e060c5d7548076548b163ad9f3babb2fd9093af9d71411e76"), looks := false }, kinds := [], alts := [], laidByText := true, laidKinds := [.data, .data, .data], laidTests := true, laidLooks := .later }
def FnExactOpLinesCardSaid : Prop := Claim7.holds Tryd.pinned (.plain (OpenSpec.ofChange fnExactOpLinesSpec)) fnExactOpLinesCard

/-- THE TIED CARD OF 'laws.FnExactProgLines'. -/
def fnExactProgLinesCard : Claim7 := { stood := { row := fnExactProgLinesRow, standIns := [], harness := (true, "795e348237683f0e060c5d7548076548b163ad9f3babb2fd9093af9d71411e76"), looks := false }, kinds := [], alts := [], laidByText := true, laidKinds := [.data, .data, .data], laidTests := true, laidLooks := .later }
def FnExactProgLinesCardSaid : Prop := Claim7.holds Tryd.pinned (.plain (OpenSpec.ofChange fnExactProgLinesSpec)) fnExactProgLinesCard

/-- THE SECOND FORM's CARD OF 'laws.FnExactOpLines'. -/
def fnExactOpLinesUptoCard : Claim7 := { stood := { row := fnExactOpLinesUptoRow, standIns := [], harness := (true, "795e348237683f0e060c5d7548076548b163ad9f3babb2fd9093af9d71411e76"), looks := false }, kinds := [], alts := [], laidByText := true, laidKinds := [.data, .data, .data], laidTests := true, laidLooks := .later }
def FnExactOpLinesUptoCardSaid : Prop := Claim7.holds Tryd.pinned (.plain (OpenSpec.upto fnExactOpLinesSpec)) fnExactOpLinesUptoCard

/-- THE SECOND FORM's CARD OF 'laws.FnExactProgLines'. -/
def fnExactProgLinesUptoCard : Claim7 := { stood := { row := fnExactProgLinesUptoRow, standIns := [], harness := (true, "795e348237683f0e060c5d7548076548b163ad9f3babb2fd9093af9d71411e76"), looks := false }, kinds := [], alts := [], laidByText := true, laidKinds := [.data, .data, .data], laidTests := true, laidLooks := .later }
def FnExactProgLinesUptoCardSaid : Prop := Claim7.holds Tryd.pinned (.plain (OpenSpec.upto fnExactProgLinesSpec)) fnExactProgLinesUptoCard
end Rows
end Go.Proofs.YtjnpmcgefkiocaaDoor
