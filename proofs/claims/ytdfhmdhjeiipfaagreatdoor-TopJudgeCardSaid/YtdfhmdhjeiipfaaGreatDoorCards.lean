/-
  DERIVED. GIVEN WITH THE SEED: THE CARDS: each row of YtdfhmdhjeiipfaaGreatDoorRows.lean that lists a variable, with what it lists TIED to the program's text (the seventh form; the later family's looks); each row that meets fmt, with fmt's text TOLD by the authors' own Lean function (tested against real Go, not proved from fmt's source: count such statements apart). THE CARD IS WHAT COUNTS. Prove the row's statement (the work); the ties are given (YtdfhmdhjeiipfaaGreatDoorTie.lean); close each card by the builder's one call (the guide's Derived/Test/ToyasCard.lean, 'card_holds'). Laid BY PROGRAM, IN A SANDBOX (cutbox-door.mjs). By AI agents, Wed Nov 11 2026. No macro, syntax, notation, axiom, sorry.
-/
import Derived.Test.YtdfhmdhjeiipfaaGreatDoorRows
import GoSem.ClaimSeven
namespace Go.Proofs.YtdfhmdhjeiipfaaGreatDoor
namespace Rows

/-- THE TIED CARD OF 'spadilletop.TopDiagram'. -/
def topDiagramCard : Claim7 := { stood := { row := topDiagramRow, standIns := [], harness := (true, "2516fa6afe5e249a49a22fd1f208c99821250fc8e4767db3dde5750cb17b8910"), looks := true }, kinds := [], alts := [], laidByText := true, laidKinds := [.data, .data], laidTests := true, laidLooks := .later }
def TopDiagramCardSaid : Prop := Claim7.holds Tryz.pinned (.plain (OpenSpec.ofChange topDiagramSpec)) topDiagramCard

/-- THE TIED CARD OF 'spadilletop.TopHooked'. -/
def topHookedCard : Claim7 := { stood := { row := topHookedRow, standIns := [], harness := (true, "2516fa6afe5e249a49a22fd1f208c99821250fc8e4767db3dde5750cb17b8910"), looks := true }, kinds := [], alts := [], laidByText := true, laidKinds := [.data, .data], laidTests := true, laidLooks := .later }
def TopHookedCardSaid : Prop := Claim7.holds Tryz.pinned (.plain (OpenSpec.ofChange topHookedSpec)) topHookedCard

/-- THE TIED CARD OF 'spadilletop.TopJudge'. -/
def topJudgeCard : Claim7 := { stood := { row := topJudgeRow, standIns := [], harness := (true, "2516fa6afe5e249a49a22fd1f208c99821250fc8e4767db3dde5750cb17b8910"), looks := true }, kinds := [], alts := [], laidByText := true, laidKinds := [.data, .data, .data, .data, .pinned], laidTests := true, laidLooks := .later }
def TopJudgeCardSaid : Prop := Claim7.holds Tryz.pinned (.plain (OpenSpec.ofChange topJudgeSpec)) topJudgeCard

/-- THE TIED CARD OF 'spadilletop.TopBooked'. -/
def topBookedCard : Claim7 := { stood := { row := topBookedRow, standIns := [], harness := (true, "2516fa6afe5e249a49a22fd1f208c99821250fc8e4767db3dde5750cb17b8910"), looks := true }, kinds := [], alts := [], laidByText := true, laidKinds := [.data, .data, .data, .data, .data, .pinned], laidTests := true, laidLooks := .later }
def TopBookedCardSaid : Prop := Claim7.holds Tryz.pinned (.plain (OpenSpec.ofChange topBookedSpec)) topBookedCard

/-- THE SECOND FORM's CARD OF 'spadilletop.TopDiagram'. -/
def topDiagramUptoCard : Claim7 := { stood := { row := topDiagramUptoRow, standIns := [], harness := (true, "2516fa6afe5e249a49a22fd1f208c99821250fc8e4767db3dde5750cb17b8910"), looks := true }, kinds := [], alts := [], laidByText := true, laidKinds := [.data, .data], laidTests := true, laidLooks := .later }
def TopDiagramUptoCardSaid : Prop := Claim7.holds Tryz.pinned (.plain (OpenSpec.upto topDiagramSpec)) topDiagramUptoCard

/-- THE SECOND FORM's CARD OF 'spadilletop.TopHooked'. -/
def topHookedUptoCard : Claim7 := { stood := { row := topHookedUptoRow, standIns := [], harness := (true, "2516fa6afe5e249a49a22fd1f208c99821250fc8e4767db3dde5750cb17b8910"), looks := true }, kinds := [], alts := [], laidByText := true, laidKinds := [.data, .data], laidTests := true, laidLooks := .later }
def TopHookedUptoCardSaid : Prop := Claim7.holds Tryz.pinned (.plain (OpenSpec.upto topHookedSpec)) topHookedUptoCard

/-- THE SECOND FORM's CARD OF 'spadilletop.TopJudge'. -/
def topJudgeUptoCard : Claim7 := { stood := { row := topJudgeUptoRow, standIns := [], harness := (true, "2516fa6afe5e249a49a22fd1f208c99821250fc8e4767db3dde5750cb17b8910"), looks := true }, kinds := [], alts := [], laidByText := true, laidKinds := [.data, .data, .data, .data, .pinned], laidTests := true, laidLooks := .later }
def TopJudgeUptoCardSaid : Prop := Claim7.holds Tryz.pinned (.plain (OpenSpec.upto topJudgeSpec)) topJudgeUptoCard

/-- THE SECOND FORM's CARD OF 'spadilletop.TopBooked'. -/
def topBookedUptoCard : Claim7 := { stood := { row := topBookedUptoRow, standIns := [], harness := (true, "2516fa6afe5e249a49a22fd1f208c99821250fc8e4767db3dde5750cb17b8910"), looks := true }, kinds := [], alts := [], laidByText := true, laidKinds := [.data, .data, .data, .data, .data, .pinned], laidTests := true, laidLooks := .later }
def TopBookedUptoCardSaid : Prop := Claim7.holds Tryz.pinned (.plain (OpenSpec.upto topBookedSpec)) topBookedUptoCard
end Rows
end Go.Proofs.YtdfhmdhjeiipfaaGreatDoor
