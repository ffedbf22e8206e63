/-
  DERIVED. GIVEN WITH THE SEED: THE CARDS: each row of YtdegbhgoldglaaaGreatDoorRows.lean that lists a variable, with what it lists TIED to the program's text (the seventh form; the later family's looks); each row that meets fmt, with fmt's text TOLD by the authors' own Lean function (tested against real Go, not proved from fmt's source: count such statements apart). THE CARD IS WHAT COUNTS. Prove the row's statement (the work); the ties are given (YtdegbhgoldglaaaGreatDoorTie.lean); close each card by the builder's one call (the guide's Derived/Test/ToyasCard.lean, 'card_holds'). Laid BY PROGRAM, IN A SANDBOX (cutbox-door.mjs). By AI agents, Wed Nov 11 2026. No macro, syntax, notation, axiom, sorry.
-/
import Derived.Test.YtdegbhgoldglaaaGreatDoorRows
import GoSem.ClaimSeven
namespace Go.Proofs.YtdegbhgoldglaaaGreatDoor
namespace Rows

/-- THE TIED CARD OF 'armariumlaw21.NodeConns'. -/
def nodeConnsCard : Claim7 := { stood := { row := nodeConnsRow, standIns := [], harness := (true, "fcac6a0ff70a35b6ccc30ccf93c9494d172d2ba51b7489761554f024c3e2474b"), looks := true }, kinds := [], alts := [], laidByText := true, laidKinds := [.data, .data, .data, .data, .sentinel, .sentinel, .pinned, .pinned], laidTests := true, laidLooks := .later }
def NodeConnsCardSaid : Prop := Claim7.holds Tryz.pinned (.plain (OpenSpec.ofChange nodeConnsSpec)) nodeConnsCard

/-- THE TIED CARD OF 'armariumlaw21.NodeDone'. -/
def nodeDoneCard : Claim7 := { stood := { row := nodeDoneRow, standIns := [], harness := (true, "fcac6a0ff70a35b6ccc30ccf93c9494d172d2ba51b7489761554f024c3e2474b"), looks := true }, kinds := [], alts := [], laidByText := true, laidKinds := [.data, .data, .data, .data, .sentinel, .sentinel, .pinned, .pinned], laidTests := true, laidLooks := .later }
def NodeDoneCardSaid : Prop := Claim7.holds Tryz.pinned (.plain (OpenSpec.ofChange nodeDoneSpec)) nodeDoneCard

/-- THE TIED CARD OF 'armariumlaw21.NodeWaits'. -/
def nodeWaitsCard : Claim7 := { stood := { row := nodeWaitsRow, standIns := [], harness := (true, "fcac6a0ff70a35b6ccc30ccf93c9494d172d2ba51b7489761554f024c3e2474b"), looks := true }, kinds := [], alts := [], laidByText := true, laidKinds := [.data, .data, .data, .data, .sentinel, .sentinel, .pinned, .pinned], laidTests := true, laidLooks := .later }
def NodeWaitsCardSaid : Prop := Claim7.holds Tryz.pinned (.plain (OpenSpec.ofChange nodeWaitsSpec)) nodeWaitsCard

/-- THE TIED CARD OF 'armariumlaw21.NodeNone'. -/
def nodeNoneCard : Claim7 := { stood := { row := nodeNoneRow, standIns := [], harness := (true, "fcac6a0ff70a35b6ccc30ccf93c9494d172d2ba51b7489761554f024c3e2474b"), looks := true }, kinds := [], alts := [], laidByText := true, laidKinds := [.data, .data, .data, .data, .sentinel, .sentinel, .pinned, .pinned], laidTests := true, laidLooks := .later }
def NodeNoneCardSaid : Prop := Claim7.holds Tryz.pinned (.plain (OpenSpec.ofChange nodeNoneSpec)) nodeNoneCard

/-- THE SECOND FORM's CARD OF 'armariumlaw21.NodeConns'. -/
def nodeConnsUptoCard : Claim7 := { stood := { row := nodeConnsUptoRow, standIns := [], harness := (true, "fcac6a0ff70a35b6ccc30ccf93c9494d172d2ba51b7489761554f024c3e2474b"), looks := true }, kinds := [], alts := [], laidByText := true, laidKinds := [.data, .data, .data, .data, .sentinel, .sentinel, .pinned, .pinned], laidTests := true, laidLooks := .later }
def NodeConnsUptoCardSaid : Prop := Claim7.holds Tryz.pinned (.plain (OpenSpec.upto nodeConnsSpec)) nodeConnsUptoCard

/-- THE SECOND FORM's CARD OF 'armariumlaw21.NodeDone'. -/
def nodeDoneUptoCard : Claim7 := { stood := { row := nodeDoneUptoRow, standIns := [], harness := (true, "fcac6a0ff70a35b6ccc30ccf93c9494d172d2ba51b7489761554f024c3e2474b"), looks := true }, kinds := [], alts := [], laidByText := true, laidKinds := [.data, .data, .data, .data, .sentinel, .sentinel, .pinned, .pinned], laidTests := true, laidLooks := .later }
def NodeDoneUptoCardSaid : Prop := Claim7.holds Tryz.pinned (.plain (OpenSpec.upto nodeDoneSpec)) nodeDoneUptoCard

/-- THE SECOND FORM's CARD OF 'armariumlaw21.NodeWaits'. -/
def nodeWaitsUptoCard : Claim7 := { stood := { row := nodeWaitsUptoRow, standIns := [], harness := (true, "fcac6a0ff70a35b6ccc30ccf93c9494d172d2ba51b7489761554f024c3e2474b"), looks := true }, kinds := [], alts := [], laidByText := true, laidKinds := [.data, .data, .data, .data, .sentinel, .sentinel, .pinned, .pinned], laidTests := true, laidLooks := .later }
def NodeWaitsUptoCardSaid : Prop := Claim7.holds Tryz.pinned (.plain (OpenSpec.upto nodeWaitsSpec)) nodeWaitsUptoCard

/-- THE SECOND FORM's CARD OF 'armariumlaw21.NodeNone'. -/
def nodeNoneUptoCard : Claim7 := { stood := { row := nodeNoneUptoRow, standIns := [], harness := (true, "fcac6a0ff70a35b6ccc30ccf93c9494d172d2ba51b7489761554f024c3e2474b"), looks := true }, kinds := [], alts := [], laidByText := true, laidKinds := [.data, .data, .data, .data, .sentinel, .sentinel, .pinned, .pinned], laidTests := true, laidLooks := .later }
def NodeNoneUptoCardSaid : Prop := Claim7.holds Tryz.pinned (.plain (OpenSpec.upto nodeNoneSpec)) nodeNoneUptoCard
end Rows
end Go.Proofs.YtdegbhgoldglaaaGreatDoor
