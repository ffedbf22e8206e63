/-
  DERIVED. GIVEN WITH THE SEED: THE CARDS: each row of YtnblkjapeiaedaaGreatDoorRows.lean that lists a variable, with what it lists TIED to the program's text (the seventh form; the later family's looks); each row that meets fmt, with fmt's text TOLD by the authors' own Lean function (tested against real Go, not proved from fmt's source: count such statements apart). THE CARD IS WHAT COUNTS. Prove the row's statement (the work); the ties are given (YtnblkjapeiaedaaGreatDoorTie.lean); close each card by the builder's one call (the guide's Derived/Test/ToyasCard.lean, 'card_holds'). Laid BY PROGRAM, IN A SANDBOX (cutbox-door.mjs). By AI agents, Wed Nov 11 2026. No macro, syntax, notation, axiom, sorry.
-/
import Derived.Test.YtnblkjapeiaedaaGreatDoorRows
import GoSem.ClaimSeven
namespace Go.Proofs.YtnblkjapeiaedaaGreatDoor
namespace Rows

/-- THE TIED CARD OF 'armariumlaw17.SayAll'. -/
def sayAllCard : Claim7 := { stood := { row := sayAllRow, standIns := [], harness := (true, "4b177ce358149a6ff9178b64131274769ab8fbc127e5d6c8c359aee1c59cf068"), looks := true }, kinds := [], alts := [], laidByText := true, laidKinds := [.data, .data, .data, .data, .sentinel, .sentinel, .pinned, .pinned], laidTests := true, laidLooks := .later }
def SayAllCardSaid : Prop := Claim7.holds Tryz.pinned (.plain (OpenSpec.ofChange sayAllSpec)) sayAllCard

/-- THE TIED CARD OF 'armariumlaw17.SayAny'. -/
def sayAnyCard : Claim7 := { stood := { row := sayAnyRow, standIns := [], harness := (true, "4b177ce358149a6ff9178b64131274769ab8fbc127e5d6c8c359aee1c59cf068"), looks := true }, kinds := [], alts := [], laidByText := true, laidKinds := [.data, .data, .data, .data, .sentinel, .sentinel, .pinned, .pinned], laidTests := true, laidLooks := .later }
def SayAnyCardSaid : Prop := Claim7.holds Tryz.pinned (.plain (OpenSpec.ofChange sayAnySpec)) sayAnyCard

/-- THE TIED CARD OF 'armariumlaw17.SayMany'. -/
def sayManyCard : Claim7 := { stood := { row := sayManyRow, standIns := [], harness := (true, "4b177ce358149a6ff9178b64131274769ab8fbc127e5d6c8c359aee1c59cf068"), looks := true }, kinds := [], alts := [], laidByText := true, laidKinds := [.data, .data, .data, .data, .sentinel, .sentinel, .pinned, .pinned], laidTests := true, laidLooks := .later }
def SayManyCardSaid : Prop := Claim7.holds Tryz.pinned (.plain (OpenSpec.ofChange sayManySpec)) sayManyCard

/-- THE TIED CARD OF 'armariumlaw17.SheetAll'. -/
def sheetAllCard : Claim7 := { stood := { row := sheetAllRow, standIns := [], harness := (true, "4b177ce358149a6ff9178b64131274769ab8fbc127e5d6c8c359aee1c59cf068"), looks := true }, kinds := [], alts := [], laidByText := true, laidKinds := [.data, .data, .data, .data, .sentinel, .sentinel, .pinned, .pinned], laidTests := true, laidLooks := .later }
def SheetAllCardSaid : Prop := Claim7.holds Tryz.pinned (.plain (OpenSpec.ofChange sheetAllSpec)) sheetAllCard

/-- THE TIED CARD OF 'armariumlaw17.SheetTurn'. -/
def sheetTurnCard : Claim7 := { stood := { row := sheetTurnRow, standIns := [], harness := (true, "4b177ce358149a6ff9178b64131274769ab8fbc127e5d6c8c359aee1c59cf068"), looks := true }, kinds := [], alts := [], laidByText := true, laidKinds := [.data, .data, .data, .data, .sentinel, .sentinel, .pinned, .pinned], laidTests := true, laidLooks := .later }
def SheetTurnCardSaid : Prop := Claim7.holds Tryz.pinned (.plain (OpenSpec.ofChange sheetTurnSpec)) sheetTurnCard

/-- THE TIED CARD OF 'armariumlaw17.SayWords'. -/
def sayWordsCard : Claim7 := { stood := { row := sayWordsRow, standIns := [], harness := (true, "4b177ce358149a6ff9178b64131274769ab8fbc127e5d6c8c359aee1c59cf068"), looks := true }, kinds := [], alts := [], laidByText := true, laidKinds := [.data, .data, .data, .data, .sentinel, .sentinel, .pinned, .pinned], laidTests := true, laidLooks := .later }
def SayWordsCardSaid : Prop := Claim7.holds Tryz.pinned (.plain (OpenSpec.ofChange sayWordsSpec)) sayWordsCard

/-- THE TIED CARD OF 'armariumlaw17.SayLong'. -/
def sayLongCard : Claim7 := { stood := { row := sayLongRow, standIns := [], harness := (true, "4b177ce358149a6ff9178b64131274769ab8fbc127e5d6c8c359aee1c59cf068"), looks := true }, kinds := [], alts := [], laidByText := true, laidKinds := [.data, .data, .data, .data, .sentinel, .sentinel, .pinned, .pinned], laidTests := true, laidLooks := .later }
def SayLongCardSaid : Prop := Claim7.holds Tryz.pinned (.plain (OpenSpec.ofChange sayLongSpec)) sayLongCard

/-- THE TIED CARD OF 'armariumlaw17.SayHeads'. -/
def sayHeadsCard : Claim7 := { stood := { row := sayHeadsRow, standIns := [], harness := (true, "4b177ce358149a6ff9178b64131274769ab8fbc127e5d6c8c359aee1c59cf068"), looks := true }, kinds := [], alts := [], laidByText := true, laidKinds := [.data, .data, .data, .data, .sentinel, .sentinel, .pinned, .pinned], laidTests := true, laidLooks := .later }
def SayHeadsCardSaid : Prop := Claim7.holds Tryz.pinned (.plain (OpenSpec.ofChange sayHeadsSpec)) sayHeadsCard

/-- THE TIED CARD OF 'armariumlaw17.SheetAny'. -/
def sheetAnyCard : Claim7 := { stood := { row := sheetAnyRow, standIns := [], harness := (true, "4b177ce358149a6ff9178b64131274769ab8fbc127e5d6c8c359aee1c59cf068"), looks := true }, kinds := [], alts := [], laidByText := true, laidKinds := [.data, .data, .data, .data, .sentinel, .sentinel, .pinned, .pinned], laidTests := true, laidLooks := .later }
def SheetAnyCardSaid : Prop := Claim7.holds Tryz.pinned (.plain (OpenSpec.ofChange sheetAnySpec)) sheetAnyCard

/-- THE TIED CARD OF 'armariumlaw17.SheetVersions'. -/
def sheetVersionsCard : Claim7 := { stood := { row := sheetVersionsRow, standIns := [], harness := (true, "4b177ce358149a6ff9178b64131274769ab8fbc127e5d6c8c359aee1c59cf068"), looks := true }, kinds := [], alts := [], laidByText := true, laidKinds := [.data, .data, .data, .data, .sentinel, .sentinel, .pinned, .pinned], laidTests := true, laidLooks := .later }
def SheetVersionsCardSaid : Prop := Claim7.holds Tryz.pinned (.plain (OpenSpec.ofChange sheetVersionsSpec)) sheetVersionsCard

/-- THE SECOND FORM's CARD OF 'armariumlaw17.SayAll'. -/
def sayAllUptoCard : Claim7 := { stood := { row := sayAllUptoRow, standIns := [], harness := (true, "4b177ce358149a6ff9178b64131274769ab8fbc127e5d6c8c359aee1c59cf068"), looks := true }, kinds := [], alts := [], laidByText := true, laidKinds := [.data, .data, .data, .data, .sentinel, .sentinel, .pinned, .pinned], laidTests := true, laidLooks := .later }
def SayAllUptoCardSaid : Prop := Claim7.holds Tryz.pinned (.plain (OpenSpec.upto sayAllSpec)) sayAllUptoCard

/-- THE SECOND FORM's CARD OF 'armariumlaw17.SayAny'. -/
def sayAnyUptoCard : Claim7 := { stood := { row := sayAnyUptoRow, standIns := [], harness := (true, "4b177ce358149a6ff9178b64131274769ab8fbc127e5d6c8c359aee1c59cf068"), looks := true }, kinds := [], alts := [], laidByText := true, laidKinds := [.data, .data, .data, .data, .sentinel, .sentinel, .pinned, .pinned], laidTests := true, laidLooks := .later }
def SayAnyUptoCardSaid : Prop := Claim7.holds Tryz.pinned (.plain (OpenSpec.upto sayAnySpec)) sayAnyUptoCard

/-- THE SECOND FORM's CARD OF 'armariumlaw17.SayMany'. -/
def sayManyUptoCard : Claim7 := { stood := { row := sayManyUptoRow, standIns := [], harness := (true, "4b177ce358149a6ff9178b64131274769ab8fbc127e5d6c8c359aee1c59cf068"), looks := true }, kinds := [], alts := [], laidByText := true, laidKinds := [.data, .data, .data, .data, .sentinel, .sentinel, .pinned, .pinned], laidTests := true, laidLooks := .later }
def SayManyUptoCardSaid : Prop := Claim7.holds Tryz.pinned (.plain (OpenSpec.upto sayManySpec)) sayManyUptoCard

/-- THE SECOND FORM's CARD OF 'armariumlaw17.SheetAll'. -/
def sheetAllUptoCard : Claim7 := { stood := { row := sheetAllUptoRow, standIns := [], harness := (true, "4b177ce358149a6ff9178b64131274769ab8fbc127e5d6c8c359aee1c59cf068"), looks := true }, kinds := [], alts := [], laidByText := true, laidKinds := [.data, .data, .data, .data, .sentinel, .sentinel, .pinned, .pinned], laidTests := true, laidLooks := .later }
def SheetAllUptoCardSaid : Prop := Claim7.holds Tryz.pinned (.plain (OpenSpec.upto sheetAllSpec)) sheetAllUptoCard

/-- THE SECOND FORM's CARD OF 'armariumlaw17.SheetTurn'. -/
def sheetTurnUptoCard : Claim7 := { stood := { row := sheetTurnUptoRow, standIns := [], harness := (true, "4b177ce358149a6ff9178b64131274769ab8fbc127e5d6c8c359aee1c59cf068"), looks := true }, kinds := [], alts := [], laidByText := true, laidKinds := [.data, .data, .data, .data, .sentinel, .sentinel, .pinned, .pinned], laidTests := true, laidLooks := .later }
def SheetTurnUptoCardSaid : Prop := Claim7.holds Tryz.pinned (.plain (OpenSpec.upto sheetTurnSpec)) sheetTurnUptoCard

/-- THE SECOND FORM's CARD OF 'armariumlaw17.SayWords'. -/
def sayWordsUptoCard : Claim7 := { stood := { row := sayWordsUptoRow, standIns := [], harness := (true, "4b177ce358149a6ff9178b64131274769ab8fbc127e5d6c8c359aee1c59cf068"), looks := true }, kinds := [], alts := [], laidByText := true, laidKinds := [.data, .data, .data, .data, .sentinel, .sentinel, .pinned, .pinned], laidTests := true, laidLooks := .later }
def SayWordsUptoCardSaid : Prop := Claim7.holds Tryz.pinned (.plain (OpenSpec.upto sayWordsSpec)) sayWordsUptoCard

/-- THE SECOND FORM's CARD OF 'armariumlaw17.SayLong'. -/
def sayLongUptoCard : Claim7 := { stood := { row := sayLongUptoRow, standIns := [], harness := (true, "4b177ce358149a6ff9178b64131274769ab8fbc127e5d6c8c359aee1c59cf068"), looks := true }, kinds := [], alts := [], laidByText := true, laidKinds := [.data, .data, .data, .data, .sentinel, .sentinel, .pinned, .pinned], laidTests := true, laidLooks := .later }
def SayLongUptoCardSaid : Prop := Claim7.holds Tryz.pinned (.plain (OpenSpec.upto sayLongSpec)) sayLongUptoCard

/-- THE SECOND FORM's CARD OF 'armariumlaw17.SayHeads'. -/
def sayHeadsUptoCard : Claim7 := { stood := { row := sayHeadsUptoRow, standIns := [], harness := (true, "4b177ce358149a6ff9178b64131274769ab8fbc127e5d6c8c359aee1c59cf068"), looks := true }, kinds := [], alts := [], laidByText := true, laidKinds := [.data, .data, .data, .data, .sentinel, .sentinel, .pinned, .pinned], laidTests := true, laidLooks := .later }
def SayHeadsUptoCardSaid : Prop := Claim7.holds Tryz.pinned (.plain (OpenSpec.upto sayHeadsSpec)) sayHeadsUptoCard

/-- THE SECOND FORM's CARD OF 'armariumlaw17.SheetAny'. -/
def sheetAnyUptoCard : Claim7 := { stood := { row := sheetAnyUptoRow, standIns := [], harness := (true, "4b177ce358149a6ff9178b64131274769ab8fbc127e5d6c8c359aee1c59cf068"), looks := true }, kinds := [], alts := [], laidByText := true, laidKinds := [.data, .data, .data, .data, .sentinel, .sentinel, .pinned, .pinned], laidTests := true, laidLooks := .later }
def SheetAnyUptoCardSaid : Prop := Claim7.holds Tryz.pinned (.plain (OpenSpec.upto sheetAnySpec)) sheetAnyUptoCard

/-- THE SECOND FORM's CARD OF 'armariumlaw17.SheetVersions'. -/
def sheetVersionsUptoCard : Claim7 := { stood := { row := sheetVersionsUptoRow, standIns := [], harness := (true, "4b177ce358149a6ff9178b64131274769ab8fbc127e5d6c8c359aee1c59cf068"), looks := true }, kinds := [], alts := [], laidByText := true, laidKinds := [.data, .data, .data, .data, .sentinel, .sentinel, .pinned, .pinned], laidTests := true, laidLooks := .later }
def SheetVersionsUptoCardSaid : Prop := Claim7.holds Tryz.pinned (.plain (OpenSpec.upto sheetVersionsSpec)) sheetVersionsUptoCard
end Rows
end Go.Proofs.YtnblkjapeiaedaaGreatDoor
