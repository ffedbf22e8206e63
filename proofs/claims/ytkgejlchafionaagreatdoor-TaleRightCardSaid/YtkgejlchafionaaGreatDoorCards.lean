/-
  DERIVED. GIVEN WITH THE SEED: THE CARDS: each row of YtkgejlchafionaaGreatDoorRows.lean that lists a variable, with what it lists TIED to the program's text (the seventh form; the later family's looks); each row that meets fmt, with fmt's text TOLD by the authors' own Lean function (tested against real Go, not proved from fmt's source: count such statements apart). THE CARD IS WHAT COUNTS. Prove the row's statement (the work); the ties are given (YtkgejlchafionaaGreatDoorTie.lean); close each card by the builder's one call (the guide's Derived/Test/ToyasCard.lean, 'card_holds'). Laid BY PROGRAM, IN A SANDBOX (cutbox-door.mjs). By AI agents, Wed Nov 11 2026. No macro, syntax, notation, axiom, sorry.
-/
import Derived.Test.YtkgejlchafionaaGreatDoorRows
import GoSem.ClaimSeven
namespace Go.Proofs.YtkgejlchafionaaGreatDoor
namespace Rows

/-- THE TIED CARD OF 'armariumlaw25.TaleFits'. -/
def taleFitsCard : Claim7 := { stood := { row := taleFitsRow, standIns := [], harness := (true, "9ef6830a61f4e1902b4535ec57fd719212812706027f3120193fd303758397a9"), looks := true }, kinds := [], alts := [], laidByText := true, laidKinds := [.data, .data, .data, .data, .sentinel, .sentinel, .pinned, .pinned], laidTests := true, laidLooks := .later }
def TaleFitsCardSaid : Prop := Claim7.holds Tryz.pinned (.plain (OpenSpec.ofChange taleFitsSpec)) taleFitsCard

/-- THE TIED CARD OF 'armariumlaw25.TalePlaces'. -/
def talePlacesCard : Claim7 := { stood := { row := talePlacesRow, standIns := [], harness := (true, "9ef6830a61f4e1902b4535ec57fd719212812706027f3120193fd303758397a9"), looks := true }, kinds := [], alts := [], laidByText := true, laidKinds := [.data, .data, .data, .data, .sentinel, .sentinel, .pinned, .pinned], laidTests := true, laidLooks := .later }
def TalePlacesCardSaid : Prop := Claim7.holds Tryz.pinned (.plain (OpenSpec.ofChange talePlacesSpec)) talePlacesCard

/-- THE TIED CARD OF 'armariumlaw25.TaleRight'. -/
def taleRightCard : Claim7 := { stood := { row := taleRightRow, standIns := [], harness := (true, "9ef6830a61f4e1902b4535ec57fd719212812706027f3120193fd303758397a9"), looks := true }, kinds := [], alts := [], laidByText := true, laidKinds := [.data, .data, .data, .data, .sentinel, .sentinel, .pinned, .pinned], laidTests := true, laidLooks := .later }
def TaleRightCardSaid : Prop := Claim7.holds Tryz.pinned (.plain (OpenSpec.ofChange taleRightSpec)) taleRightCard

/-- THE SECOND FORM's CARD OF 'armariumlaw25.TaleFits'. -/
def taleFitsUptoCard : Claim7 := { stood := { row := taleFitsUptoRow, standIns := [], harness := (true, "9ef6830a61f4e1902b4535ec57fd719212812706027f3120193fd303758397a9"), looks := true }, kinds := [], alts := [], laidByText := true, laidKinds := [.data, .data, .data, .data, .sentinel, .sentinel, .pinned, .pinned], laidTests := true, laidLooks := .later }
def TaleFitsUptoCardSaid : Prop := Claim7.holds Tryz.pinned (.plain (OpenSpec.upto taleFitsSpec)) taleFitsUptoCard

/-- THE SECOND FORM's CARD OF 'armariumlaw25.TalePlaces'. -/
def talePlacesUptoCard : Claim7 := { stood := { row := talePlacesUptoRow, standIns := [], harness := (true, "9ef6830a61f4e1902b4535ec57fd719212812706027f3120193fd303758397a9"), looks := true }, kinds := [], alts := [], laidByText := true, laidKinds := [.data, .data, .data, .data, .sentinel, .sentinel, .pinned, .pinned], laidTests := true, laidLooks := .later }
def TalePlacesUptoCardSaid : Prop := Claim7.holds Tryz.pinned (.plain (OpenSpec.upto talePlacesSpec)) talePlacesUptoCard

/-- THE SECOND FORM's CARD OF 'armariumlaw25.TaleRight'. -/
def taleRightUptoCard : Claim7 := { stood := { row := taleRightUptoRow, standIns := [], harness := (true, "9ef6830a61f4e1902b4535ec57fd719212812706027f3120193fd303758397a9"), looks := true }, kinds := [], alts := [], laidByText := true, laidKinds := [.data, .data, .data, .data, .sentinel, .sentinel, .pinned, .pinned], laidTests := true, laidLooks := .later }
def TaleRightUptoCardSaid : Prop := Claim7.holds Tryz.pinned (.plain (OpenSpec.upto taleRightSpec)) taleRightUptoCard
end Rows
end Go.Proofs.YtkgejlchafionaaGreatDoor
