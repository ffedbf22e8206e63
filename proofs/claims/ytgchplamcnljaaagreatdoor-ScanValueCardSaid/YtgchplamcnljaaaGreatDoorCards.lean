/-
  DERIVED. GIVEN WITH THE SEED: THE CARDS: each row of YtgchplamcnljaaaGreatDoorRows.lean that lists a variable, with what it lists TIED to the program's text (the seventh form; the later family's looks); each row that meets fmt, with fmt's text TOLD by the authors' own Lean function (tested against real Go, not proved from fmt's source: count such statements apart). THE CARD IS WHAT COUNTS. Prove the row's statement (the work); the ties are given (YtgchplamcnljaaaGreatDoorTie.lean); close each card by the builder's one call (the guide's Derived/Test/ToyasCard.lean, 'card_holds'). Laid BY PROGRAM, IN A SANDBOX (cutbox-door.mjs). By AI agents, Wed Nov 11 2026. No macro, syntax, notation, axiom, sorry.
-/
import Derived.Test.YtgchplamcnljaaaGreatDoorRows
import GoSem.ClaimSeven
namespace Go.Proofs.YtgchplamcnljaaaGreatDoor
namespace Rows

/-- THE TIED CARD OF 'armariumlaw15.ScanValue'. -/
def scanValueCard : Claim7 := { stood := { row := scanValueRow, standIns := [], harness := (true, "1116e33b5e5827728fe1d528ef3bde686f041035b1b1ccc5c2d5ef98f4447520"), looks := true }, kinds := [], alts := [], laidByText := true, laidKinds := [.data, .data, .data, .data, .sentinel, .sentinel, .pinned], laidTests := true, laidLooks := .later }
def ScanValueCardSaid : Prop := Claim7.holds Tryz.pinned (.plain (OpenSpec.ofChange scanValueSpec)) scanValueCard

/-- THE SECOND FORM's CARD OF 'armariumlaw15.ScanValue'. -/
def scanValueUptoCard : Claim7 := { stood := { row := scanValueUptoRow, standIns := [], harness := (true, "1116e33b5e5827728fe1d528ef3bde686f041035b1b1ccc5c2d5ef98f4447520"), looks := true }, kinds := [], alts := [], laidByText := true, laidKinds := [.data, .data, .data, .data, .sentinel, .sentinel, .pinned], laidTests := true, laidLooks := .later }
def ScanValueUptoCardSaid : Prop := Claim7.holds Tryz.pinned (.plain (OpenSpec.upto scanValueSpec)) scanValueUptoCard
end Rows
end Go.Proofs.YtgchplamcnljaaaGreatDoor
