/-
  DERIVED. GIVEN WITH THE SEED: THE CARDS: each row of YtdfhmdhjeiipfaaDoorRows.lean that lists a variable, with what it lists TIED to the program's text (the seventh form; the later family's looks); each row that meets fmt, with fmt's text TOLD by the authors' own Lean function (tested against real Go, not proved from fmt's source: count such statements apart). THE CARD IS WHAT COUNTS. Prove the row's statement (the work); the ties are given (YtdfhmdhjeiipfaaDoorTie.lean); close each card by the builder's one call (the guide's Derived/Test/ToyasCard.lean, 'card_holds'). Laid BY PROGRAM, IN A SANDBOX (cutbox-door.mjs). By AI agents, Wed Nov 11 2026. No macro, syntax, notation, axiom, sorry.
-/
import Derived.Test.YtdfhmdhjeiipfaaDoorRows
import GoSem.ClaimSeven
namespace Go.Proofs.YtdfhmdhjeiipfaaDoor
namespace Rows

/-- THE TIED CARD OF 'spadilletop.TopSwapped'. -/
def topSwappedCard : Claim7 := { stood := { row := topSwappedRow, standIns := [], harness := (true, "7c60709e4fe4e131b1e0bfcc03d853cfd45a0bdb7d50cde1d2cfc68e263a4eb8"), looks := false }, kinds := [], alts := [], laidByText := true, laidKinds := [.data, .data], laidTests := true, laidLooks := .later }
def TopSwappedCardSaid : Prop := Claim7.holds Tryd.pinned (.plain (OpenSpec.ofChange topSwappedSpec)) topSwappedCard

/-- THE TIED CARD OF 'spadilletop.TopBubbled'. -/
def topBubbledCard : Claim7 := { stood := { row := topBubbledRow, standIns := [], harness := (true, "7c60709e4fe4e131b1e0bfcc03d853cfd45a0bdb7d50cde1d2cfc68e263a4eb8"), looks := false }, kinds := [], alts := [], laidByText := true, laidKinds := [.data, .data], laidTests := true, laidLooks := .later }
def TopBubbledCardSaid : Prop := Claim7.holds Tryd.pinned (.plain (OpenSpec.ofChange topBubbledSpec)) topBubbledCard

/-- THE SECOND FORM's CARD OF 'spadilletop.TopSwapped'. -/
def topSwappedUptoCard : Claim7 := { stood := { row := topSwappedUptoRow, standIns := [], harness := (true, "7c60709e4fe4e131b1e0bfcc03d853cfd45a0bdb7d50cde1d2cfc68e263a4eb8"), looks := false }, kinds := [], alts := [], laidByText := true, laidKinds := [.data, .data], laidTests := true, laidLooks := .later }
def TopSwappedUptoCardSaid : Prop := Claim7.holds Tryd.pinned (.plain (OpenSpec.upto topSwappedSpec)) topSwappedUptoCard

/-- THE SECOND FORM's CARD OF 'spadilletop.TopBubbled'. -/
def topBubbledUptoCard : Claim7 := { stood := { row := topBubbledUptoRow, standIns := [], harness := (true, "7c60709e4fe4e131b1e0bfcc03d853cfd45a0bdb7d50cde1d2cfc68e263a4eb8"), looks := false }, kinds := [], alts := [], laidByText := true, laidKinds := [.data, .data], laidTests := true, laidLooks := .later }
def TopBubbledUptoCardSaid : Prop := Claim7.holds Tryd.pinned (.plain (OpenSpec.upto topBubbledSpec)) topBubbledUptoCard
end Rows
end Go.Proofs.YtdfhmdhjeiipfaaDoor
