/-
  DERIVED. GIVEN WITH THE SEED: THE CARDS: each row of YtpdbgpkedehpgaaGreatDoorRows.lean that lists a variable, with what it lists TIED to the program's text (the seventh form; the later family's looks); each row that meets fmt, with fmt's text TOLD by the authors' own Lean function (tested against real Go, not proved from fmt's source: count such statements apart). THE CARD IS WHAT COUNTS. Prove the row's statement (the work); the ties are given (YtpdbgpkedehpgaaGreatDoorTie.lean); close each card by the builder's one call (the guide's Derived/Test/ToyasCard.lean, 'card_holds'). Laid BY PROGRAM, IN A SANDBOX (cutbox-door.mjs). By AI agents, Wed Nov 11 2026. No macro, syntax, notation, axiom, sorry.
-/
import Derived.Test.YtpdbgpkedehpgaaGreatDoorRows
import GoSem.ClaimSeven
namespace Go.Proofs.YtpdbgpkedehpgaaGreatDoor
namespace Rows

/-- THE TIED CARD OF 'armariumlaw15.ScanAll'. -/
def scanAllCard : Claim7 := { stood := { row := scanAllRow, standIns := [], harness := (true, "216d6e73ec67e3f18b5b0b72fb9900d8247500d251ca33b241f07eb8859aead0"), looks := true }, kinds := [], alts := [], laidByText := true, laidKinds := [.data, .data, .data, .data, .sentinel, .sentinel, .pinned], laidTests := true, laidLooks := .later }
def ScanAllCardSaid : Prop := Claim7.holds Tryz.pinned (.plain (OpenSpec.ofChange scanAllSpec)) scanAllCard

/-- THE TIED CARD OF 'armariumlaw15.ScanAny'. -/
def scanAnyCard : Claim7 := { stood := { row := scanAnyRow, standIns := [], harness := (true, "216d6e73ec67e3f18b5b0b72fb9900d8247500d251ca33b241f07eb8859aead0"), looks := true }, kinds := [], alts := [], laidByText := true, laidKinds := [.data, .data, .data, .data, .sentinel, .sentinel, .pinned], laidTests := true, laidLooks := .later }
def ScanAnyCardSaid : Prop := Claim7.holds Tryz.pinned (.plain (OpenSpec.ofChange scanAnySpec)) scanAnyCard

/-- THE TIED CARD OF 'armariumlaw15.ScanTurn'. -/
def scanTurnCard : Claim7 := { stood := { row := scanTurnRow, standIns := [], harness := (true, "216d6e73ec67e3f18b5b0b72fb9900d8247500d251ca33b241f07eb8859aead0"), looks := true }, kinds := [], alts := [], laidByText := true, laidKinds := [.data, .data, .data, .data, .sentinel, .sentinel, .pinned], laidTests := true, laidLooks := .later }
def ScanTurnCardSaid : Prop := Claim7.holds Tryz.pinned (.plain (OpenSpec.ofChange scanTurnSpec)) scanTurnCard

/-- THE TIED CARD OF 'armariumlaw15.ScanLength'. -/
def scanLengthCard : Claim7 := { stood := { row := scanLengthRow, standIns := [], harness := (true, "216d6e73ec67e3f18b5b0b72fb9900d8247500d251ca33b241f07eb8859aead0"), looks := true }, kinds := [], alts := [], laidByText := true, laidKinds := [.data, .data, .data, .data, .sentinel, .sentinel, .pinned], laidTests := true, laidLooks := .later }
def ScanLengthCardSaid : Prop := Claim7.holds Tryz.pinned (.plain (OpenSpec.ofChange scanLengthSpec)) scanLengthCard

/-- THE TIED CARD OF 'armariumlaw15.ScanValue'. -/
def scanValueCard : Claim7 := { stood := { row := scanValueRow, standIns := [], harness := (true, "216d6e73ec67e3f18b5b0b72fb9900d8247500d251ca33b241f07eb8859aead0"), looks := true }, kinds := [], alts := [], laidByText := true, laidKinds := [.data, .data, .data, .data, .sentinel, .sentinel, .pinned], laidTests := true, laidLooks := .later }
def ScanValueCardSaid : Prop := Claim7.holds Tryz.pinned (.plain (OpenSpec.ofChange scanValueSpec)) scanValueCard

/-- THE TIED CARD OF 'armariumlaw15.ScanDone'. -/
def scanDoneCard : Claim7 := { stood := { row := scanDoneRow, standIns := [], harness := (true, "216d6e73ec67e3f18b5b0b72fb9900d8247500d251ca33b241f07eb8859aead0"), looks := true }, kinds := [], alts := [], laidByText := true, laidKinds := [.data, .data, .data, .data, .sentinel, .sentinel, .pinned], laidTests := true, laidLooks := .later }
def ScanDoneCardSaid : Prop := Claim7.holds Tryz.pinned (.plain (OpenSpec.ofChange scanDoneSpec)) scanDoneCard

/-- THE TIED CARD OF 'armariumlaw15.AskAll'. -/
def askAllCard : Claim7 := { stood := { row := askAllRow, standIns := [], harness := (true, "216d6e73ec67e3f18b5b0b72fb9900d8247500d251ca33b241f07eb8859aead0"), looks := true }, kinds := [], alts := [], laidByText := true, laidKinds := [.data, .data, .data, .data, .sentinel, .sentinel, .pinned], laidTests := true, laidLooks := .later }
def AskAllCardSaid : Prop := Claim7.holds Tryz.pinned (.plain (OpenSpec.ofChange askAllSpec)) askAllCard

/-- THE TIED CARD OF 'armariumlaw15.AskTurn'. -/
def askTurnCard : Claim7 := { stood := { row := askTurnRow, standIns := [], harness := (true, "216d6e73ec67e3f18b5b0b72fb9900d8247500d251ca33b241f07eb8859aead0"), looks := true }, kinds := [], alts := [], laidByText := true, laidKinds := [.data, .data, .data, .data, .sentinel, .sentinel, .pinned], laidTests := true, laidLooks := .later }
def AskTurnCardSaid : Prop := Claim7.holds Tryz.pinned (.plain (OpenSpec.ofChange askTurnSpec)) askTurnCard

/-- THE TIED CARD OF 'armariumlaw15.AskBack'. -/
def askBackCard : Claim7 := { stood := { row := askBackRow, standIns := [], harness := (true, "216d6e73ec67e3f18b5b0b72fb9900d8247500d251ca33b241f07eb8859aead0"), looks := true }, kinds := [], alts := [], laidByText := true, laidKinds := [.data, .data, .data, .data, .sentinel, .sentinel, .pinned], laidTests := true, laidLooks := .later }
def AskBackCardSaid : Prop := Claim7.holds Tryz.pinned (.plain (OpenSpec.ofChange askBackSpec)) askBackCard

/-- THE TIED CARD OF 'armariumlaw15.ScanNone'. -/
def scanNoneCard : Claim7 := { stood := { row := scanNoneRow, standIns := [], harness := (true, "216d6e73ec67e3f18b5b0b72fb9900d8247500d251ca33b241f07eb8859aead0"), looks := true }, kinds := [], alts := [], laidByText := true, laidKinds := [.data, .data, .data, .data, .sentinel, .sentinel, .pinned], laidTests := true, laidLooks := .later }
def ScanNoneCardSaid : Prop := Claim7.holds Tryz.pinned (.plain (OpenSpec.ofChange scanNoneSpec)) scanNoneCard

/-- THE TIED CARD OF 'armariumlaw15.ScanMany'. -/
def scanManyCard : Claim7 := { stood := { row := scanManyRow, standIns := [], harness := (true, "216d6e73ec67e3f18b5b0b72fb9900d8247500d251ca33b241f07eb8859aead0"), looks := true }, kinds := [], alts := [], laidByText := true, laidKinds := [.data, .data, .data, .data, .sentinel, .sentinel, .pinned], laidTests := true, laidLooks := .later }
def ScanManyCardSaid : Prop := Claim7.holds Tryz.pinned (.plain (OpenSpec.ofChange scanManySpec)) scanManyCard

/-- THE TIED CARD OF 'armariumlaw15.ScanMethods'. -/
def scanMethodsCard : Claim7 := { stood := { row := scanMethodsRow, standIns := [], harness := (true, "216d6e73ec67e3f18b5b0b72fb9900d8247500d251ca33b241f07eb8859aead0"), looks := true }, kinds := [], alts := [], laidByText := true, laidKinds := [.data, .data, .data, .data, .sentinel, .sentinel, .pinned], laidTests := true, laidLooks := .later }
def ScanMethodsCardSaid : Prop := Claim7.holds Tryz.pinned (.plain (OpenSpec.ofChange scanMethodsSpec)) scanMethodsCard

/-- THE TIED CARD OF 'armariumlaw15.ScanHeads'. -/
def scanHeadsCard : Claim7 := { stood := { row := scanHeadsRow, standIns := [], harness := (true, "216d6e73ec67e3f18b5b0b72fb9900d8247500d251ca33b241f07eb8859aead0"), looks := true }, kinds := [], alts := [], laidByText := true, laidKinds := [.data, .data, .data, .data, .sentinel, .sentinel, .pinned], laidTests := true, laidLooks := .later }
def ScanHeadsCardSaid : Prop := Claim7.holds Tryz.pinned (.plain (OpenSpec.ofChange scanHeadsSpec)) scanHeadsCard

/-- THE TIED CARD OF 'armariumlaw15.ScanEnds'. -/
def scanEndsCard : Claim7 := { stood := { row := scanEndsRow, standIns := [], harness := (true, "216d6e73ec67e3f18b5b0b72fb9900d8247500d251ca33b241f07eb8859aead0"), looks := true }, kinds := [], alts := [], laidByText := true, laidKinds := [.data, .data, .data, .data, .sentinel, .sentinel, .pinned], laidTests := true, laidLooks := .later }
def ScanEndsCardSaid : Prop := Claim7.holds Tryz.pinned (.plain (OpenSpec.ofChange scanEndsSpec)) scanEndsCard

/-- THE TIED CARD OF 'armariumlaw15.ScanEncoding'. -/
def scanEncodingCard : Claim7 := { stood := { row := scanEncodingRow, standIns := [], harness := (true, "216d6e73ec67e3f18b5b0b72fb9900d8247500d251ca33b241f07eb8859aead0"), looks := true }, kinds := [], alts := [], laidByText := true, laidKinds := [.data, .data, .data, .data, .sentinel, .sentinel, .pinned], laidTests := true, laidLooks := .later }
def ScanEncodingCardSaid : Prop := Claim7.holds Tryz.pinned (.plain (OpenSpec.ofChange scanEncodingSpec)) scanEncodingCard

/-- THE TIED CARD OF 'armariumlaw15.AskPaths'. -/
def askPathsCard : Claim7 := { stood := { row := askPathsRow, standIns := [], harness := (true, "216d6e73ec67e3f18b5b0b72fb9900d8247500d251ca33b241f07eb8859aead0"), looks := true }, kinds := [], alts := [], laidByText := true, laidKinds := [.data, .data, .data, .data, .sentinel, .sentinel, .pinned], laidTests := true, laidLooks := .later }
def AskPathsCardSaid : Prop := Claim7.holds Tryz.pinned (.plain (OpenSpec.ofChange askPathsSpec)) askPathsCard

/-- THE TIED CARD OF 'armariumlaw15.AskParts'. -/
def askPartsCard : Claim7 := { stood := { row := askPartsRow, standIns := [], harness := (true, "216d6e73ec67e3f18b5b0b72fb9900d8247500d251ca33b241f07eb8859aead0"), looks := true }, kinds := [], alts := [], laidByText := true, laidKinds := [.data, .data, .data, .data, .sentinel, .sentinel, .pinned], laidTests := true, laidLooks := .later }
def AskPartsCardSaid : Prop := Claim7.holds Tryz.pinned (.plain (OpenSpec.ofChange askPartsSpec)) askPartsCard

/-- THE TIED CARD OF 'armariumlaw15.AskVersion'. -/
def askVersionCard : Claim7 := { stood := { row := askVersionRow, standIns := [], harness := (true, "216d6e73ec67e3f18b5b0b72fb9900d8247500d251ca33b241f07eb8859aead0"), looks := true }, kinds := [], alts := [], laidByText := true, laidKinds := [.data, .data, .data, .data, .sentinel, .sentinel, .pinned], laidTests := true, laidLooks := .later }
def AskVersionCardSaid : Prop := Claim7.holds Tryz.pinned (.plain (OpenSpec.ofChange askVersionSpec)) askVersionCard

/-- THE SECOND FORM's CARD OF 'armariumlaw15.ScanAll'. -/
def scanAllUptoCard : Claim7 := { stood := { row := scanAllUptoRow, standIns := [], harness := (true, "216d6e73ec67e3f18b5b0b72fb9900d8247500d251ca33b241f07eb8859aead0"), looks := true }, kinds := [], alts := [], laidByText := true, laidKinds := [.data, .data, .data, .data, .sentinel, .sentinel, .pinned], laidTests := true, laidLooks := .later }
def ScanAllUptoCardSaid : Prop := Claim7.holds Tryz.pinned (.plain (OpenSpec.upto scanAllSpec)) scanAllUptoCard

/-- THE SECOND FORM's CARD OF 'armariumlaw15.ScanAny'. -/
def scanAnyUptoCard : Claim7 := { stood := { row := scanAnyUptoRow, standIns := [], harness := (true, "216d6e73ec67e3f18b5b0b72fb9900d8247500d251ca33b241f07eb8859aead0"), looks := true }, kinds := [], alts := [], laidByText := true, laidKinds := [.data, .data, .data, .data, .sentinel, .sentinel, .pinned], laidTests := true, laidLooks := .later }
def ScanAnyUptoCardSaid : Prop := Claim7.holds Tryz.pinned (.plain (OpenSpec.upto scanAnySpec)) scanAnyUptoCard

/-- THE SECOND FORM's CARD OF 'armariumlaw15.ScanTurn'. -/
def scanTurnUptoCard : Claim7 := { stood := { row := scanTurnUptoRow, standIns := [], harness := (true, "216d6e73ec67e3f18b5b0b72fb9900d8247500d251ca33b241f07eb8859aead0"), looks := true }, kinds := [], alts := [], laidByText := true, laidKinds := [.data, .data, .data, .data, .sentinel, .sentinel, .pinned], laidTests := true, laidLooks := .later }
def ScanTurnUptoCardSaid : Prop := Claim7.holds Tryz.pinned (.plain (OpenSpec.upto scanTurnSpec)) scanTurnUptoCard

/-- THE SECOND FORM's CARD OF 'armariumlaw15.ScanLength'. -/
def scanLengthUptoCard : Claim7 := { stood := { row := scanLengthUptoRow, standIns := [], harness := (true, "216d6e73ec67e3f18b5b0b72fb9900d8247500d251ca33b241f07eb8859aead0"), looks := true }, kinds := [], alts := [], laidByText := true, laidKinds := [.data, .data, .data, .data, .sentinel, .sentinel, .pinned], laidTests := true, laidLooks := .later }
def ScanLengthUptoCardSaid : Prop := Claim7.holds Tryz.pinned (.plain (OpenSpec.upto scanLengthSpec)) scanLengthUptoCard

/-- THE SECOND FORM's CARD OF 'armariumlaw15.ScanValue'. -/
def scanValueUptoCard : Claim7 := { stood := { row := scanValueUptoRow, standIns := [], harness := (true, "216d6e73ec67e3f18b5b0b72fb9900d8247500d251ca33b241f07eb8859aead0"), looks := true }, kinds := [], alts := [], laidByText := true, laidKinds := [.data, .data, .data, .data, .sentinel, .sentinel, .pinned], laidTests := true, laidLooks := .later }
def ScanValueUptoCardSaid : Prop := Claim7.holds Tryz.pinned (.plain (OpenSpec.upto scanValueSpec)) scanValueUptoCard

/-- THE SECOND FORM's CARD OF 'armariumlaw15.ScanDone'. -/
def scanDoneUptoCard : Claim7 := { stood := { row := scanDoneUptoRow, standIns := [], harness := (true, "216d6e73ec67e3f18b5b0b72fb9900d8247500d251ca33b241f07eb8859aead0"), looks := true }, kinds := [], alts := [], laidByText := true, laidKinds := [.data, .data, .data, .data, .sentinel, .sentinel, .pinned], laidTests := true, laidLooks := .later }
def ScanDoneUptoCardSaid : Prop := Claim7.holds Tryz.pinned (.plain (OpenSpec.upto scanDoneSpec)) scanDoneUptoCard

/-- THE SECOND FORM's CARD OF 'armariumlaw15.AskAll'. -/
def askAllUptoCard : Claim7 := { stood := { row := askAllUptoRow, standIns := [], harness := (true, "216d6e73ec67e3f18b5b0b72fb9900d8247500d251ca33b241f07eb8859aead0"), looks := true }, kinds := [], alts := [], laidByText := true, laidKinds := [.data, .data, .data, .data, .sentinel, .sentinel, .pinned], laidTests := true, laidLooks := .later }
def AskAllUptoCardSaid : Prop := Claim7.holds Tryz.pinned (.plain (OpenSpec.upto askAllSpec)) askAllUptoCard

/-- THE SECOND FORM's CARD OF 'armariumlaw15.AskTurn'. -/
def askTurnUptoCard : Claim7 := { stood := { row := askTurnUptoRow, standIns := [], harness := (true, "216d6e73ec67e3f18b5b0b72fb9900d8247500d251ca33b241f07eb8859aead0"), looks := true }, kinds := [], alts := [], laidByText := true, laidKinds := [.data, .data, .data, .data, .sentinel, .sentinel, .pinned], laidTests := true, laidLooks := .later }
def AskTurnUptoCardSaid : Prop := Claim7.holds Tryz.pinned (.plain (OpenSpec.upto askTurnSpec)) askTurnUptoCard

/-- THE SECOND FORM's CARD OF 'armariumlaw15.AskBack'. -/
def askBackUptoCard : Claim7 := { stood := { row := askBackUptoRow, standIns := [], harness := (true, "216d6e73ec67e3f18b5b0b72fb9900d8247500d251ca33b241f07eb8859aead0"), looks := true }, kinds := [], alts := [], laidByText := true, laidKinds := [.data, .data, .data, .data, .sentinel, .sentinel, .pinned], laidTests := true, laidLooks := .later }
def AskBackUptoCardSaid : Prop := Claim7.holds Tryz.pinned (.plain (OpenSpec.upto askBackSpec)) askBackUptoCard

/-- THE SECOND FORM's CARD OF 'armariumlaw15.ScanNone'. -/
def scanNoneUptoCard : Claim7 := { stood := { row := scanNoneUptoRow, standIns := [], harness := (true, "216d6e73ec67e3f18b5b0b72fb9900d8247500d251ca33b241f07eb8859aead0"), looks := true }, kinds := [], alts := [], laidByText := true, laidKinds := [.data, .data, .data, .data, .sentinel, .sentinel, .pinned], laidTests := true, laidLooks := .later }
def ScanNoneUptoCardSaid : Prop := Claim7.holds Tryz.pinned (.plain (OpenSpec.upto scanNoneSpec)) scanNoneUptoCard

/-- THE SECOND FORM's CARD OF 'armariumlaw15.ScanMany'. -/
def scanManyUptoCard : Claim7 := { stood := { row := scanManyUptoRow, standIns := [], harness := (true, "216d6e73ec67e3f18b5b0b72fb9900d8247500d251ca33b241f07eb8859aead0"), looks := true }, kinds := [], alts := [], laidByText := true, laidKinds := [.data, .data, .data, .data, .sentinel, .sentinel, .pinned], laidTests := true, laidLooks := .later }
def ScanManyUptoCardSaid : Prop := Claim7.holds Tryz.pinned (.plain (OpenSpec.upto scanManySpec)) scanManyUptoCard

/-- THE SECOND FORM's CARD OF 'armariumlaw15.ScanMethods'. -/
def scanMethodsUptoCard : Claim7 := { stood := { row := scanMethodsUptoRow, standIns := [], harness := (true, "216d6e73ec67e3f18b5b0b72fb9900d8247500d251ca33b241f07eb8859aead0"), looks := true }, kinds := [], alts := [], laidByText := true, laidKinds := [.data, .data, .data, .data, .sentinel, .sentinel, .pinned], laidTests := true, laidLooks := .later }
def ScanMethodsUptoCardSaid : Prop := Claim7.holds Tryz.pinned (.plain (OpenSpec.upto scanMethodsSpec)) scanMethodsUptoCard

/-- THE SECOND FORM's CARD OF 'armariumlaw15.ScanHeads'. -/
def scanHeadsUptoCard : Claim7 := { stood := { row := scanHeadsUptoRow, standIns := [], harness := (true, "216d6e73ec67e3f18b5b0b72fb9900d8247500d251ca33b241f07eb8859aead0"), looks := true }, kinds := [], alts := [], laidByText := true, laidKinds := [.data, .data, .data, .data, .sentinel, .sentinel, .pinned], laidTests := true, laidLooks := .later }
def ScanHeadsUptoCardSaid : Prop := Claim7.holds Tryz.pinned (.plain (OpenSpec.upto scanHeadsSpec)) scanHeadsUptoCard

/-- THE SECOND FORM's CARD OF 'armariumlaw15.ScanEnds'. -/
def scanEndsUptoCard : Claim7 := { stood := { row := scanEndsUptoRow, standIns := [], harness := (true, "216d6e73ec67e3f18b5b0b72fb9900d8247500d251ca33b241f07eb8859aead0"), looks := true }, kinds := [], alts := [], laidByText := true, laidKinds := [.data, .data, .data, .data, .sentinel, .sentinel, .pinned], laidTests := true, laidLooks := .later }
def ScanEndsUptoCardSaid : Prop := Claim7.holds Tryz.pinned (.plain (OpenSpec.upto scanEndsSpec)) scanEndsUptoCard

/-- THE SECOND FORM's CARD OF 'armariumlaw15.ScanEncoding'. -/
def scanEncodingUptoCard : Claim7 := { stood := { row := scanEncodingUptoRow, standIns := [], harness := (true, "216d6e73ec67e3f18b5b0b72fb9900d8247500d251ca33b241f07eb8859aead0"), looks := true }, kinds := [], alts := [], laidByText := true, laidKinds := [.data, .data, .data, .data, .sentinel, .sentinel, .pinned], laidTests := true, laidLooks := .later }
def ScanEncodingUptoCardSaid : Prop := Claim7.holds Tryz.pinned (.plain (OpenSpec.upto scanEncodingSpec)) scanEncodingUptoCard

/-- THE SECOND FORM's CARD OF 'armariumlaw15.AskPaths'. -/
def askPathsUptoCard : Claim7 := { stood := { row := askPathsUptoRow, standIns := [], harness := (true, "216d6e73ec67e3f18b5b0b72fb9900d8247500d251ca33b241f07eb8859aead0"), looks := true }, kinds := [], alts := [], laidByText := true, laidKinds := [.data, .data, .data, .data, .sentinel, .sentinel, .pinned], laidTests := true, laidLooks := .later }
def AskPathsUptoCardSaid : Prop := Claim7.holds Tryz.pinned (.plain (OpenSpec.upto askPathsSpec)) askPathsUptoCard

/-- THE SECOND FORM's CARD OF 'armariumlaw15.AskParts'. -/
def askPartsUptoCard : Claim7 := { stood := { row := askPartsUptoRow, standIns := [], harness := (true, "216d6e73ec67e3f18b5b0b72fb9900d8247500d251ca33b241f07eb8859aead0"), looks := true }, kinds := [], alts := [], laidByText := true, laidKinds := [.data, .data, .data, .data, .sentinel, .sentinel, .pinned], laidTests := true, laidLooks := .later }
def AskPartsUptoCardSaid : Prop := Claim7.holds Tryz.pinned (.plain (OpenSpec.upto askPartsSpec)) askPartsUptoCard

/-- THE SECOND FORM's CARD OF 'armariumlaw15.AskVersion'. -/
def askVersionUptoCard : Claim7 := { stood := { row := askVersionUptoRow, standIns := [], harness := (true, "216d6e73ec67e3f18b5b0b72fb9900d8247500d251ca33b241f07eb8859aead0"), looks := true }, kinds := [], alts := [], laidByText := true, laidKinds := [.data, .data, .data, .data, .sentinel, .sentinel, .pinned], laidTests := true, laidLooks := .later }
def AskVersionUptoCardSaid : Prop := Claim7.holds Tryz.pinned (.plain (OpenSpec.upto askVersionSpec)) askVersionUptoCard
end Rows
end Go.Proofs.YtpdbgpkedehpgaaGreatDoor
