/-
  DERIVED. GIVEN WITH THE SEED: THE CARDS: each row of YtildfacbjdhbnaaDoorRows.lean that lists a variable, with what it lists TIED to the program's text (the seventh form; the later family's looks); each row that meets fmt, with fmt's text TOLD by the authors' own Lean function (tested against real Go, not proved from fmt's source: count such statements apart). THE CARD IS WHAT COUNTS. Prove the row's statement (the work); the ties are given (YtildfacbjdhbnaaDoorTie.lean); close each card by the builder's one call (the guide's Derived/Test/ToyasCard.lean, 'card_holds'). Laid BY PROGRAM, IN A SANDBOX (cutbox-door.mjs). By AI agents, Wed Nov 11 2026. No macro, syntax, notation, axiom, sorry.
-/
import Derived.Test.YtildfacbjdhbnaaDoorRows
import GoSem.ClaimSeven
namespace Go.Proofs.YtildfacbjdhbnaaDoor
namespace Rows

/-- THE TIED CARD OF 'spadillelaw01.StampFlows'. -/
def stampFlowsCard : Claim7 := { stood := { row := stampFlowsRow, standIns := [], harness := (true, "7abce3c729fc7752d55dc3d016766cbf90a08e83d1625ea9cde2ef71798319d9"), looks := false }, kinds := [], alts := [], laidByText := true, laidKinds := [.data], laidTests := true, laidLooks := .later }
def StampFlowsCardSaid : Prop := Claim7.holds Tryd.pinned (.plain (OpenSpec.ofChange stampFlowsSpec)) stampFlowsCard

/-- THE TIED CARD OF 'spadillelaw01.StampOther'. -/
def stampOtherCard : Claim7 := { stood := { row := stampOtherRow, standIns := [], harness := (true, "7abce3c729fc7752d55dc3d016766cbf90a08e83d1625ea9cde2ef71798319d9"), looks := false }, kinds := [], alts := [], laidByText := true, laidKinds := [.data], laidTests := true, laidLooks := .later }
def StampOtherCardSaid : Prop := Claim7.holds Tryd.pinned (.plain (OpenSpec.ofChange stampOtherSpec)) stampOtherCard

/-- THE TIED CARD OF 'spadillelaw01.StampAgainst'. -/
def stampAgainstCard : Claim7 := { stood := { row := stampAgainstRow, standIns := [], harness := (true, "7abce3c729fc7752d55dc3d016766cbf90a08e83d1625ea9cde2ef71798319d9"), looks := false }, kinds := [], alts := [], laidByText := true, laidKinds := [.data], laidTests := true, laidLooks := .later }
def StampAgainstCardSaid : Prop := Claim7.holds Tryd.pinned (.plain (OpenSpec.ofChange stampAgainstSpec)) stampAgainstCard

/-- THE TIED CARD OF 'spadillelaw01.StampSpans'. -/
def stampSpansCard : Claim7 := { stood := { row := stampSpansRow, standIns := [], harness := (true, "7abce3c729fc7752d55dc3d016766cbf90a08e83d1625ea9cde2ef71798319d9"), looks := false }, kinds := [], alts := [], laidByText := true, laidKinds := [.data], laidTests := true, laidLooks := .later }
def StampSpansCardSaid : Prop := Claim7.holds Tryd.pinned (.plain (OpenSpec.ofChange stampSpansSpec)) stampSpansCard

/-- THE TIED CARD OF 'spadillelaw01.StampBounds'. -/
def stampBoundsCard : Claim7 := { stood := { row := stampBoundsRow, standIns := [], harness := (true, "7abce3c729fc7752d55dc3d016766cbf90a08e83d1625ea9cde2ef71798319d9"), looks := false }, kinds := [], alts := [], laidByText := true, laidKinds := [.data], laidTests := true, laidLooks := .later }
def StampBoundsCardSaid : Prop := Claim7.holds Tryd.pinned (.plain (OpenSpec.ofChange stampBoundsSpec)) stampBoundsCard

/-- THE TIED CARD OF 'spadillelaw01.StampHoffman'. -/
def stampHoffmanCard : Claim7 := { stood := { row := stampHoffmanRow, standIns := [], harness := (true, "7abce3c729fc7752d55dc3d016766cbf90a08e83d1625ea9cde2ef71798319d9"), looks := false }, kinds := [], alts := [], laidByText := true, laidKinds := [.data], laidTests := true, laidLooks := .later }
def StampHoffmanCardSaid : Prop := Claim7.holds Tryd.pinned (.plain (OpenSpec.ofChange stampHoffmanSpec)) stampHoffmanCard

/-- THE TIED CARD OF 'spadillelaw01.StampTrue'. -/
def stampTrueCard : Claim7 := { stood := { row := stampTrueRow, standIns := [], harness := (true, "7abce3c729fc7752d55dc3d016766cbf90a08e83d1625ea9cde2ef71798319d9"), looks := false }, kinds := [], alts := [], laidByText := true, laidKinds := [.data], laidTests := true, laidLooks := .later }
def StampTrueCardSaid : Prop := Claim7.holds Tryd.pinned (.plain (OpenSpec.ofChange stampTrueSpec)) stampTrueCard

/-- THE TIED CARD OF 'spadillelaw01.StampSaid'. -/
def stampSaidCard : Claim7 := { stood := { row := stampSaidRow, standIns := [], harness := (true, "7abce3c729fc7752d55dc3d016766cbf90a08e83d1625ea9cde2ef71798319d9"), looks := false }, kinds := [], alts := [], laidByText := true, laidKinds := [.data], laidTests := true, laidLooks := .later }
def StampSaidCardSaid : Prop := Claim7.holds Tryd.pinned (.plain (OpenSpec.ofChange stampSaidSpec)) stampSaidCard

/-- THE TIED CARD OF 'spadillelaw01.StampNext'. -/
def stampNextCard : Claim7 := { stood := { row := stampNextRow, standIns := [], harness := (true, "7abce3c729fc7752d55dc3d016766cbf90a08e83d1625ea9cde2ef71798319d9"), looks := false }, kinds := [], alts := [], laidByText := true, laidKinds := [.data], laidTests := true, laidLooks := .later }
def StampNextCardSaid : Prop := Claim7.holds Tryd.pinned (.plain (OpenSpec.ofChange stampNextSpec)) stampNextCard

/-- THE TIED CARD OF 'spadillelaw01.StampMore'. -/
def stampMoreCard : Claim7 := { stood := { row := stampMoreRow, standIns := [], harness := (true, "7abce3c729fc7752d55dc3d016766cbf90a08e83d1625ea9cde2ef71798319d9"), looks := false }, kinds := [], alts := [], laidByText := true, laidKinds := [.data], laidTests := true, laidLooks := .later }
def StampMoreCardSaid : Prop := Claim7.holds Tryd.pinned (.plain (OpenSpec.ofChange stampMoreSpec)) stampMoreCard

/-- THE TIED CARD OF 'spadillelaw01.StampTurned'. -/
def stampTurnedCard : Claim7 := { stood := { row := stampTurnedRow, standIns := [], harness := (true, "7abce3c729fc7752d55dc3d016766cbf90a08e83d1625ea9cde2ef71798319d9"), looks := false }, kinds := [], alts := [], laidByText := true, laidKinds := [.data], laidTests := true, laidLooks := .later }
def StampTurnedCardSaid : Prop := Claim7.holds Tryd.pinned (.plain (OpenSpec.ofChange stampTurnedSpec)) stampTurnedCard

/-- THE TIED CARD OF 'spadillelaw01.StampKnown'. -/
def stampKnownCard : Claim7 := { stood := { row := stampKnownRow, standIns := [], harness := (true, "7abce3c729fc7752d55dc3d016766cbf90a08e83d1625ea9cde2ef71798319d9"), looks := false }, kinds := [], alts := [], laidByText := true, laidKinds := [.data], laidTests := true, laidLooks := .later }
def StampKnownCardSaid : Prop := Claim7.holds Tryd.pinned (.plain (OpenSpec.ofChange stampKnownSpec)) stampKnownCard

/-- THE SECOND FORM's CARD OF 'spadillelaw01.StampFlows'. -/
def stampFlowsUptoCard : Claim7 := { stood := { row := stampFlowsUptoRow, standIns := [], harness := (true, "7abce3c729fc7752d55dc3d016766cbf90a08e83d1625ea9cde2ef71798319d9"), looks := false }, kinds := [], alts := [], laidByText := true, laidKinds := [.data], laidTests := true, laidLooks := .later }
def StampFlowsUptoCardSaid : Prop := Claim7.holds Tryd.pinned (.plain (OpenSpec.upto stampFlowsSpec)) stampFlowsUptoCard

/-- THE SECOND FORM's CARD OF 'spadillelaw01.StampOther'. -/
def stampOtherUptoCard : Claim7 := { stood := { row := stampOtherUptoRow, standIns := [], harness := (true, "7abce3c729fc7752d55dc3d016766cbf90a08e83d1625ea9cde2ef71798319d9"), looks := false }, kinds := [], alts := [], laidByText := true, laidKinds := [.data], laidTests := true, laidLooks := .later }
def StampOtherUptoCardSaid : Prop := Claim7.holds Tryd.pinned (.plain (OpenSpec.upto stampOtherSpec)) stampOtherUptoCard

/-- THE SECOND FORM's CARD OF 'spadillelaw01.StampAgainst'. -/
def stampAgainstUptoCard : Claim7 := { stood := { row := stampAgainstUptoRow, standIns := [], harness := (true, "7abce3c729fc7752d55dc3d016766cbf90a08e83d1625ea9cde2ef71798319d9"), looks := false }, kinds := [], alts := [], laidByText := true, laidKinds := [.data], laidTests := true, laidLooks := .later }
def StampAgainstUptoCardSaid : Prop := Claim7.holds Tryd.pinned (.plain (OpenSpec.upto stampAgainstSpec)) stampAgainstUptoCard

/-- THE SECOND FORM's CARD OF 'spadillelaw01.StampSpans'. -/
def stampSpansUptoCard : Claim7 := { stood := { row := stampSpansUptoRow, standIns := [], harness := (true, "7abce3c729fc7752d55dc3d016766cbf90a08e83d1625ea9cde2ef71798319d9"), looks := false }, kinds := [], alts := [], laidByText := true, laidKinds := [.data], laidTests := true, laidLooks := .later }
def StampSpansUptoCardSaid : Prop := Claim7.holds Tryd.pinned (.plain (OpenSpec.upto stampSpansSpec)) stampSpansUptoCard

/-- THE SECOND FORM's CARD OF 'spadillelaw01.StampBounds'. -/
def stampBoundsUptoCard : Claim7 := { stood := { row := stampBoundsUptoRow, standIns := [], harness := (true, "7abce3c729fc7752d55dc3d016766cbf90a08e83d1625ea9cde2ef71798319d9"), looks := false }, kinds := [], alts := [], laidByText := true, laidKinds := [.data], laidTests := true, laidLooks := .later }
def StampBoundsUptoCardSaid : Prop := Claim7.holds Tryd.pinned (.plain (OpenSpec.upto stampBoundsSpec)) stampBoundsUptoCard

/-- THE SECOND FORM's CARD OF 'spadillelaw01.StampHoffman'. -/
def stampHoffmanUptoCard : Claim7 := { stood := { row := stampHoffmanUptoRow, standIns := [], harness := (true, "7abce3c729fc7752d55dc3d016766cbf90a08e83d1625ea9cde2ef71798319d9"), looks := false }, kinds := [], alts := [], laidByText := true, laidKinds := [.data], laidTests := true, laidLooks := .later }
def StampHoffmanUptoCardSaid : Prop := Claim7.holds Tryd.pinned (.plain (OpenSpec.upto stampHoffmanSpec)) stampHoffmanUptoCard

/-- THE SECOND FORM's CARD OF 'spadillelaw01.StampTrue'. -/
def stampTrueUptoCard : Claim7 := { stood := { row := stampTrueUptoRow, standIns := [], harness := (true, "7abce3c729fc7752d55dc3d016766cbf90a08e83d1625ea9cde2ef71798319d9"), looks := false }, kinds := [], alts := [], laidByText := true, laidKinds := [.data], laidTests := true, laidLooks := .later }
def StampTrueUptoCardSaid : Prop := Claim7.holds Tryd.pinned (.plain (OpenSpec.upto stampTrueSpec)) stampTrueUptoCard

/-- THE SECOND FORM's CARD OF 'spadillelaw01.StampSaid'. -/
def stampSaidUptoCard : Claim7 := { stood := { row := stampSaidUptoRow, standIns := [], harness := (true, "7abce3c729fc7752d55dc3d016766cbf90a08e83d1625ea9cde2ef71798319d9"), looks := false }, kinds := [], alts := [], laidByText := true, laidKinds := [.data], laidTests := true, laidLooks := .later }
def StampSaidUptoCardSaid : Prop := Claim7.holds Tryd.pinned (.plain (OpenSpec.upto stampSaidSpec)) stampSaidUptoCard

/-- THE SECOND FORM's CARD OF 'spadillelaw01.StampNext'. -/
def stampNextUptoCard : Claim7 := { stood := { row := stampNextUptoRow, standIns := [], harness := (true, "7abce3c729fc7752d55dc3d016766cbf90a08e83d1625ea9cde2ef71798319d9"), looks := false }, kinds := [], alts := [], laidByText := true, laidKinds := [.data], laidTests := true, laidLooks := .later }
def StampNextUptoCardSaid : Prop := Claim7.holds Tryd.pinned (.plain (OpenSpec.upto stampNextSpec)) stampNextUptoCard

/-- THE SECOND FORM's CARD OF 'spadillelaw01.StampMore'. -/
def stampMoreUptoCard : Claim7 := { stood := { row := stampMoreUptoRow, standIns := [], harness := (true, "7abce3c729fc7752d55dc3d016766cbf90a08e83d1625ea9cde2ef71798319d9"), looks := false }, kinds := [], alts := [], laidByText := true, laidKinds := [.data], laidTests := true, laidLooks := .later }
def StampMoreUptoCardSaid : Prop := Claim7.holds Tryd.pinned (.plain (OpenSpec.upto stampMoreSpec)) stampMoreUptoCard

/-- THE SECOND FORM's CARD OF 'spadillelaw01.StampTurned'. -/
def stampTurnedUptoCard : Claim7 := { stood := { row := stampTurnedUptoRow, standIns := [], harness := (true, "7abce3c729fc7752d55dc3d016766cbf90a08e83d1625ea9cde2ef71798319d9"), looks := false }, kinds := [], alts := [], laidByText := true, laidKinds := [.data], laidTests := true, laidLooks := .later }
def StampTurnedUptoCardSaid : Prop := Claim7.holds Tryd.pinned (.plain (OpenSpec.upto stampTurnedSpec)) stampTurnedUptoCard

/-- THE SECOND FORM's CARD OF 'spadillelaw01.StampKnown'. -/
def stampKnownUptoCard : Claim7 := { stood := { row := stampKnownUptoRow, standIns := [], harness := (true, "7abce3c729fc7752d55dc3d016766cbf90a08e83d1625ea9cde2ef71798319d9"), looks := false }, kinds := [], alts := [], laidByText := true, laidKinds := [.data], laidTests := true, laidLooks := .later }
def StampKnownUptoCardSaid : Prop := Claim7.holds Tryd.pinned (.plain (OpenSpec.upto stampKnownSpec)) stampKnownUptoCard
end Rows
end Go.Proofs.YtildfacbjdhbnaaDoor
