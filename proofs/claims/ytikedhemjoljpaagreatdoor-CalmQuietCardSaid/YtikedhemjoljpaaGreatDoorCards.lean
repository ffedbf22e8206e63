/-
  DERIVED. GIVEN WITH THE SEED: THE CARDS: each row of YtikedhemjoljpaaGreatDoorRows.lean that lists a variable, with what it lists TIED to the program's text (the seventh form; the later family's looks); each row that meets fmt, with fmt's text TOLD by the authors' own Lean function (tested against real Go, not proved from fmt's source: count such statements apart). THE CARD IS WHAT COUNTS. Prove the row's statement (the work); the ties are given (YtikedhemjoljpaaGreatDoorTie.lean); close each card by the builder's one call (the guide's Derived/Test/ToyasCard.lean, 'card_holds'). Laid BY PROGRAM, IN A SANDBOX (cutbox-door.mjs). By AI agents, Wed Nov 11 2026. No macro, syntax, notation, axiom, sorry.
-/
import Derived.Test.YtikedhemjoljpaaGreatDoorRows
import GoSem.ClaimSeven
namespace Go.Proofs.YtikedhemjoljpaaGreatDoor
namespace Rows

/-- THE TIED CARD OF 'armariumlaw22.WorldNone'. -/
def worldNoneCard : Claim7 := { stood := { row := worldNoneRow, standIns := [], harness := (true, "7399840e5e23d039129bedcffc035b4b79a1e43c8c865ee5232a6321e4b1938c"), looks := true }, kinds := [], alts := [], laidByText := true, laidKinds := [.data, .data, .data, .sentinel, .sentinel, .pinned, .data, .pinned], laidTests := true, laidLooks := .later }
def WorldNoneCardSaid : Prop := Claim7.holds Tryz.pinned (.plain (OpenSpec.ofChange worldNoneSpec)) worldNoneCard

/-- THE TIED CARD OF 'armariumlaw22.WorldSizes'. -/
def worldSizesCard : Claim7 := { stood := { row := worldSizesRow, standIns := [], harness := (true, "7399840e5e23d039129bedcffc035b4b79a1e43c8c865ee5232a6321e4b1938c"), looks := true }, kinds := [], alts := [], laidByText := true, laidKinds := [.data, .data, .data, .sentinel, .sentinel, .pinned, .data, .pinned], laidTests := true, laidLooks := .later }
def WorldSizesCardSaid : Prop := Claim7.holds Tryz.pinned (.plain (OpenSpec.ofChange worldSizesSpec)) worldSizesCard

/-- THE TIED CARD OF 'armariumlaw22.WorldTime'. -/
def worldTimeCard : Claim7 := { stood := { row := worldTimeRow, standIns := [], harness := (true, "7399840e5e23d039129bedcffc035b4b79a1e43c8c865ee5232a6321e4b1938c"), looks := true }, kinds := [], alts := [], laidByText := true, laidKinds := [.data, .data, .data, .sentinel, .sentinel, .pinned, .data, .pinned], laidTests := true, laidLooks := .later }
def WorldTimeCardSaid : Prop := Claim7.holds Tryz.pinned (.plain (OpenSpec.ofChange worldTimeSpec)) worldTimeCard

/-- THE TIED CARD OF 'armariumlaw22.WorldDown'. -/
def worldDownCard : Claim7 := { stood := { row := worldDownRow, standIns := [], harness := (true, "7399840e5e23d039129bedcffc035b4b79a1e43c8c865ee5232a6321e4b1938c"), looks := true }, kinds := [], alts := [], laidByText := true, laidKinds := [.data, .data, .data, .sentinel, .sentinel, .pinned, .data, .pinned], laidTests := true, laidLooks := .later }
def WorldDownCardSaid : Prop := Claim7.holds Tryz.pinned (.plain (OpenSpec.ofChange worldDownSpec)) worldDownCard

/-- THE TIED CARD OF 'armariumlaw22.ScriptErrors'. -/
def scriptErrorsCard : Claim7 := { stood := { row := scriptErrorsRow, standIns := [], harness := (true, "7399840e5e23d039129bedcffc035b4b79a1e43c8c865ee5232a6321e4b1938c"), looks := true }, kinds := [], alts := [], laidByText := true, laidKinds := [.data, .data, .data, .sentinel, .sentinel, .pinned, .data, .pinned], laidTests := true, laidLooks := .later }
def ScriptErrorsCardSaid : Prop := Claim7.holds Tryz.pinned (.plain (OpenSpec.ofChange scriptErrorsSpec)) scriptErrorsCard

/-- THE TIED CARD OF 'armariumlaw22.CalmQuiet'. -/
def calmQuietCard : Claim7 := { stood := { row := calmQuietRow, standIns := [], harness := (true, "7399840e5e23d039129bedcffc035b4b79a1e43c8c865ee5232a6321e4b1938c"), looks := true }, kinds := [], alts := [], laidByText := true, laidKinds := [.data, .data, .data, .sentinel, .sentinel, .pinned, .data, .pinned], laidTests := true, laidLooks := .later }
def CalmQuietCardSaid : Prop := Claim7.holds Tryz.pinned (.plain (OpenSpec.ofChange calmQuietSpec)) calmQuietCard

/-- THE SECOND FORM's CARD OF 'armariumlaw22.WorldNone'. -/
def worldNoneUptoCard : Claim7 := { stood := { row := worldNoneUptoRow, standIns := [], harness := (true, "7399840e5e23d039129bedcffc035b4b79a1e43c8c865ee5232a6321e4b1938c"), looks := true }, kinds := [], alts := [], laidByText := true, laidKinds := [.data, .data, .data, .sentinel, .sentinel, .pinned, .data, .pinned], laidTests := true, laidLooks := .later }
def WorldNoneUptoCardSaid : Prop := Claim7.holds Tryz.pinned (.plain (OpenSpec.upto worldNoneSpec)) worldNoneUptoCard

/-- THE SECOND FORM's CARD OF 'armariumlaw22.WorldSizes'. -/
def worldSizesUptoCard : Claim7 := { stood := { row := worldSizesUptoRow, standIns := [], harness := (true, "7399840e5e23d039129bedcffc035b4b79a1e43c8c865ee5232a6321e4b1938c"), looks := true }, kinds := [], alts := [], laidByText := true, laidKinds := [.data, .data, .data, .sentinel, .sentinel, .pinned, .data, .pinned], laidTests := true, laidLooks := .later }
def WorldSizesUptoCardSaid : Prop := Claim7.holds Tryz.pinned (.plain (OpenSpec.upto worldSizesSpec)) worldSizesUptoCard

/-- THE SECOND FORM's CARD OF 'armariumlaw22.WorldTime'. -/
def worldTimeUptoCard : Claim7 := { stood := { row := worldTimeUptoRow, standIns := [], harness := (true, "7399840e5e23d039129bedcffc035b4b79a1e43c8c865ee5232a6321e4b1938c"), looks := true }, kinds := [], alts := [], laidByText := true, laidKinds := [.data, .data, .data, .sentinel, .sentinel, .pinned, .data, .pinned], laidTests := true, laidLooks := .later }
def WorldTimeUptoCardSaid : Prop := Claim7.holds Tryz.pinned (.plain (OpenSpec.upto worldTimeSpec)) worldTimeUptoCard

/-- THE SECOND FORM's CARD OF 'armariumlaw22.WorldDown'. -/
def worldDownUptoCard : Claim7 := { stood := { row := worldDownUptoRow, standIns := [], harness := (true, "7399840e5e23d039129bedcffc035b4b79a1e43c8c865ee5232a6321e4b1938c"), looks := true }, kinds := [], alts := [], laidByText := true, laidKinds := [.data, .data, .data, .sentinel, .sentinel, .pinned, .data, .pinned], laidTests := true, laidLooks := .later }
def WorldDownUptoCardSaid : Prop := Claim7.holds Tryz.pinned (.plain (OpenSpec.upto worldDownSpec)) worldDownUptoCard

/-- THE SECOND FORM's CARD OF 'armariumlaw22.ScriptErrors'. -/
def scriptErrorsUptoCard : Claim7 := { stood := { row := scriptErrorsUptoRow, standIns := [], harness := (true, "7399840e5e23d039129bedcffc035b4b79a1e43c8c865ee5232a6321e4b1938c"), looks := true }, kinds := [], alts := [], laidByText := true, laidKinds := [.data, .data, .data, .sentinel, .sentinel, .pinned, .data, .pinned], laidTests := true, laidLooks := .later }
def ScriptErrorsUptoCardSaid : Prop := Claim7.holds Tryz.pinned (.plain (OpenSpec.upto scriptErrorsSpec)) scriptErrorsUptoCard

/-- THE SECOND FORM's CARD OF 'armariumlaw22.CalmQuiet'. -/
def calmQuietUptoCard : Claim7 := { stood := { row := calmQuietUptoRow, standIns := [], harness := (true, "7399840e5e23d039129bedcffc035b4b79a1e43c8c865ee5232a6321e4b1938c"), looks := true }, kinds := [], alts := [], laidByText := true, laidKinds := [.data, .data, .data, .sentinel, .sentinel, .pinned, .data, .pinned], laidTests := true, laidLooks := .later }
def CalmQuietUptoCardSaid : Prop := Claim7.holds Tryz.pinned (.plain (OpenSpec.upto calmQuietSpec)) calmQuietUptoCard
end Rows
end Go.Proofs.YtikedhemjoljpaaGreatDoor
