/-
  DERIVED. GIVEN WITH THE SEED: THE CARDS: each row of YtldllfocpadkeaaGreatDoorRows.lean that lists a variable, with what it lists TIED to the program's text (the seventh form; the later family's looks); each row that meets fmt, with fmt's text TOLD by the authors' own Lean function (tested against real Go, not proved from fmt's source: count such statements apart). THE CARD IS WHAT COUNTS. Prove the row's statement (the work); the ties are given (YtldllfocpadkeaaGreatDoorTie.lean); close each card by the builder's one call (the guide's Derived/Test/ToyasCard.lean, 'card_holds'). Laid BY PROGRAM, IN A SANDBOX (cutbox-door.mjs). By AI agents, Wed Nov 11 2026. No macro, syntax, notation, axiom, sorry.
-/
import Derived.Test.YtldllfocpadkeaaGreatDoorRows
import GoSem.ClaimSeven
namespace Go.Proofs.YtldllfocpadkeaaGreatDoor
namespace Rows

/-- THE TIED CARD OF 'armariumlaw19.LeafAll'. -/
def leafAllCard : Claim7 := { stood := { row := leafAllRow, standIns := [], harness := (true, "3229f078357263dfc780da008e66f31ad78b0b2bcd348e94e0743e840fae12e4"), looks := true }, kinds := [], alts := [], laidByText := true, laidKinds := [.data, .data, .data, .data, .sentinel, .sentinel, .pinned, .pinned], laidTests := true, laidLooks := .later }
def LeafAllCardSaid : Prop := Claim7.holds Tryz.pinned (.plain (OpenSpec.ofChange leafAllSpec)) leafAllCard

/-- THE TIED CARD OF 'armariumlaw19.FrontResult'. -/
def frontResultCard : Claim7 := { stood := { row := frontResultRow, standIns := [], harness := (true, "3229f078357263dfc780da008e66f31ad78b0b2bcd348e94e0743e840fae12e4"), looks := true }, kinds := [], alts := [], laidByText := true, laidKinds := [.data, .data, .data, .data, .sentinel, .sentinel, .pinned, .pinned], laidTests := true, laidLooks := .later }
def FrontResultCardSaid : Prop := Claim7.holds Tryz.pinned (.plain (OpenSpec.ofChange frontResultSpec)) frontResultCard

/-- THE TIED CARD OF 'armariumlaw19.FrontAll'. -/
def frontAllCard : Claim7 := { stood := { row := frontAllRow, standIns := [], harness := (true, "3229f078357263dfc780da008e66f31ad78b0b2bcd348e94e0743e840fae12e4"), looks := true }, kinds := [], alts := [], laidByText := true, laidKinds := [.data, .data, .data, .data, .sentinel, .sentinel, .pinned, .pinned], laidTests := true, laidLooks := .later }
def FrontAllCardSaid : Prop := Claim7.holds Tryz.pinned (.plain (OpenSpec.ofChange frontAllSpec)) frontAllCard

/-- THE TIED CARD OF 'armariumlaw19.LeafPages'. -/
def leafPagesCard : Claim7 := { stood := { row := leafPagesRow, standIns := [], harness := (true, "3229f078357263dfc780da008e66f31ad78b0b2bcd348e94e0743e840fae12e4"), looks := true }, kinds := [], alts := [], laidByText := true, laidKinds := [.data, .data, .data, .data, .sentinel, .sentinel, .pinned, .pinned], laidTests := true, laidLooks := .later }
def LeafPagesCardSaid : Prop := Claim7.holds Tryz.pinned (.plain (OpenSpec.ofChange leafPagesSpec)) leafPagesCard

/-- THE TIED CARD OF 'armariumlaw19.FrontOrder'. -/
def frontOrderCard : Claim7 := { stood := { row := frontOrderRow, standIns := [], harness := (true, "3229f078357263dfc780da008e66f31ad78b0b2bcd348e94e0743e840fae12e4"), looks := true }, kinds := [], alts := [], laidByText := true, laidKinds := [.data, .data, .data, .data, .sentinel, .sentinel, .pinned, .pinned], laidTests := true, laidLooks := .later }
def FrontOrderCardSaid : Prop := Claim7.holds Tryz.pinned (.plain (OpenSpec.ofChange frontOrderSpec)) frontOrderCard

/-- THE TIED CARD OF 'armariumlaw19.FrontClosed'. -/
def frontClosedCard : Claim7 := { stood := { row := frontClosedRow, standIns := [], harness := (true, "3229f078357263dfc780da008e66f31ad78b0b2bcd348e94e0743e840fae12e4"), looks := true }, kinds := [], alts := [], laidByText := true, laidKinds := [.data, .data, .data, .data, .sentinel, .sentinel, .pinned, .pinned], laidTests := true, laidLooks := .later }
def FrontClosedCardSaid : Prop := Claim7.holds Tryz.pinned (.plain (OpenSpec.ofChange frontClosedSpec)) frontClosedCard

/-- THE TIED CARD OF 'armariumlaw19.FrontSame'. -/
def frontSameCard : Claim7 := { stood := { row := frontSameRow, standIns := [], harness := (true, "3229f078357263dfc780da008e66f31ad78b0b2bcd348e94e0743e840fae12e4"), looks := true }, kinds := [], alts := [], laidByText := true, laidKinds := [.data, .data, .data, .data, .sentinel, .sentinel, .pinned, .pinned], laidTests := true, laidLooks := .later }
def FrontSameCardSaid : Prop := Claim7.holds Tryz.pinned (.plain (OpenSpec.ofChange frontSameSpec)) frontSameCard

/-- THE TIED CARD OF 'armariumlaw19.LeafWalk'. -/
def leafWalkCard : Claim7 := { stood := { row := leafWalkRow, standIns := [], harness := (true, "3229f078357263dfc780da008e66f31ad78b0b2bcd348e94e0743e840fae12e4"), looks := true }, kinds := [], alts := [], laidByText := true, laidKinds := [.data, .data, .data, .data, .sentinel, .sentinel, .pinned, .pinned], laidTests := true, laidLooks := .later }
def LeafWalkCardSaid : Prop := Claim7.holds Tryz.pinned (.plain (OpenSpec.ofChange leafWalkSpec)) leafWalkCard

/-- THE TIED CARD OF 'armariumlaw15.AskBack'. -/
def askBackCard : Claim7 := { stood := { row := askBackRow, standIns := [], harness := (true, "3229f078357263dfc780da008e66f31ad78b0b2bcd348e94e0743e840fae12e4"), looks := true }, kinds := [], alts := [], laidByText := true, laidKinds := [.data, .data, .data, .data, .sentinel, .sentinel, .pinned], laidTests := true, laidLooks := .later }
def AskBackCardSaid : Prop := Claim7.holds Tryz.pinned (.plain (OpenSpec.ofChange askBackSpec)) askBackCard

/-- THE SECOND FORM's CARD OF 'armariumlaw19.LeafAll'. -/
def leafAllUptoCard : Claim7 := { stood := { row := leafAllUptoRow, standIns := [], harness := (true, "3229f078357263dfc780da008e66f31ad78b0b2bcd348e94e0743e840fae12e4"), looks := true }, kinds := [], alts := [], laidByText := true, laidKinds := [.data, .data, .data, .data, .sentinel, .sentinel, .pinned, .pinned], laidTests := true, laidLooks := .later }
def LeafAllUptoCardSaid : Prop := Claim7.holds Tryz.pinned (.plain (OpenSpec.upto leafAllSpec)) leafAllUptoCard

/-- THE SECOND FORM's CARD OF 'armariumlaw19.FrontResult'. -/
def frontResultUptoCard : Claim7 := { stood := { row := frontResultUptoRow, standIns := [], harness := (true, "3229f078357263dfc780da008e66f31ad78b0b2bcd348e94e0743e840fae12e4"), looks := true }, kinds := [], alts := [], laidByText := true, laidKinds := [.data, .data, .data, .data, .sentinel, .sentinel, .pinned, .pinned], laidTests := true, laidLooks := .later }
def FrontResultUptoCardSaid : Prop := Claim7.holds Tryz.pinned (.plain (OpenSpec.upto frontResultSpec)) frontResultUptoCard

/-- THE SECOND FORM's CARD OF 'armariumlaw19.FrontAll'. -/
def frontAllUptoCard : Claim7 := { stood := { row := frontAllUptoRow, standIns := [], harness := (true, "3229f078357263dfc780da008e66f31ad78b0b2bcd348e94e0743e840fae12e4"), looks := true }, kinds := [], alts := [], laidByText := true, laidKinds := [.data, .data, .data, .data, .sentinel, .sentinel, .pinned, .pinned], laidTests := true, laidLooks := .later }
def FrontAllUptoCardSaid : Prop := Claim7.holds Tryz.pinned (.plain (OpenSpec.upto frontAllSpec)) frontAllUptoCard

/-- THE SECOND FORM's CARD OF 'armariumlaw19.LeafPages'. -/
def leafPagesUptoCard : Claim7 := { stood := { row := leafPagesUptoRow, standIns := [], harness := (true, "3229f078357263dfc780da008e66f31ad78b0b2bcd348e94e0743e840fae12e4"), looks := true }, kinds := [], alts := [], laidByText := true, laidKinds := [.data, .data, .data, .data, .sentinel, .sentinel, .pinned, .pinned], laidTests := true, laidLooks := .later }
def LeafPagesUptoCardSaid : Prop := Claim7.holds Tryz.pinned (.plain (OpenSpec.upto leafPagesSpec)) leafPagesUptoCard

/-- THE SECOND FORM's CARD OF 'armariumlaw19.FrontOrder'. -/
def frontOrderUptoCard : Claim7 := { stood := { row := frontOrderUptoRow, standIns := [], harness := (true, "3229f078357263dfc780da008e66f31ad78b0b2bcd348e94e0743e840fae12e4"), looks := true }, kinds := [], alts := [], laidByText := true, laidKinds := [.data, .data, .data, .data, .sentinel, .sentinel, .pinned, .pinned], laidTests := true, laidLooks := .later }
def FrontOrderUptoCardSaid : Prop := Claim7.holds Tryz.pinned (.plain (OpenSpec.upto frontOrderSpec)) frontOrderUptoCard

/-- THE SECOND FORM's CARD OF 'armariumlaw19.FrontClosed'. -/
def frontClosedUptoCard : Claim7 := { stood := { row := frontClosedUptoRow, standIns := [], harness := (true, "3229f078357263dfc780da008e66f31ad78b0b2bcd348e94e0743e840fae12e4"), looks := true }, kinds := [], alts := [], laidByText := true, laidKinds := [.data, .data, .data, .data, .sentinel, .sentinel, .pinned, .pinned], laidTests := true, laidLooks := .later }
def FrontClosedUptoCardSaid : Prop := Claim7.holds Tryz.pinned (.plain (OpenSpec.upto frontClosedSpec)) frontClosedUptoCard

/-- THE SECOND FORM's CARD OF 'armariumlaw19.FrontSame'. -/
def frontSameUptoCard : Claim7 := { stood := { row := frontSameUptoRow, standIns := [], harness := (true, "3229f078357263dfc780da008e66f31ad78b0b2bcd348e94e0743e840fae12e4"), looks := true }, kinds := [], alts := [], laidByText := true, laidKinds := [.data, .data, .data, .data, .sentinel, .sentinel, .pinned, .pinned], laidTests := true, laidLooks := .later }
def FrontSameUptoCardSaid : Prop := Claim7.holds Tryz.pinned (.plain (OpenSpec.upto frontSameSpec)) frontSameUptoCard

/-- THE SECOND FORM's CARD OF 'armariumlaw19.LeafWalk'. -/
def leafWalkUptoCard : Claim7 := { stood := { row := leafWalkUptoRow, standIns := [], harness := (true, "3229f078357263dfc780da008e66f31ad78b0b2bcd348e94e0743e840fae12e4"), looks := true }, kinds := [], alts := [], laidByText := true, laidKinds := [.data, .data, .data, .data, .sentinel, .sentinel, .pinned, .pinned], laidTests := true, laidLooks := .later }
def LeafWalkUptoCardSaid : Prop := Claim7.holds Tryz.pinned (.plain (OpenSpec.upto leafWalkSpec)) leafWalkUptoCard

/-- THE SECOND FORM's CARD OF 'armariumlaw15.AskBack'. -/
def askBackUptoCard : Claim7 := { stood := { row := askBackUptoRow, standIns := [], harness := (true, "3229f078357263dfc780da008e66f31ad78b0b2bcd348e94e0743e840fae12e4"), looks := true }, kinds := [], alts := [], laidByText := true, laidKinds := [.data, .data, .data, .data, .sentinel, .sentinel, .pinned], laidTests := true, laidLooks := .later }
def AskBackUptoCardSaid : Prop := Claim7.holds Tryz.pinned (.plain (OpenSpec.upto askBackSpec)) askBackUptoCard
end Rows
end Go.Proofs.YtldllfocpadkeaaGreatDoor
