/-
  DERIVED. GIVEN WITH THE SEED: THE CARDS: each row of YtfoiccnlcheklaaDoorRows.lean that lists a variable, with what it lists TIED to the program's text (the seventh form; the later family's looks); each row that meets fmt, with fmt's text TOLD by the authors' own Lean function (tested against real Go, not proved from fmt's source: count such statements apart). THE CARD IS WHAT COUNTS. Prove the row's statement (the work); the ties are given (YtfoiccnlcheklaaDoorTie.lean); close each card by the builder's one call (the guide's Derived/Test/ToyasCard.lean, 'card_holds'). Laid BY PROGRAM, IN A SANDBOX (cutbox-door.mjs). By AI agents, Wed Nov 11 2026. No macro, syntax, notation, axiom, sorry.
-/
import Derived.Test.YtfoiccnlcheklaaDoorRows
import GoSem.ClaimSeven
namespace Go.Proofs.YtfoiccnlcheklaaDoor
namespace Rows

/-- THE TIED CARD OF 'spadillelaw08.ReaderWords'. -/
def readerWordsCard : Claim7 := { stood := { row := readerWordsRow, standIns := [], harness := (true, "0b3276a94f80e21269dcc4fe97bb0145021184f331f875f1aa485531dc632b2e"), looks := false }, kinds := [], alts := [], laidByText := true, laidKinds := [.data], laidTests := true, laidLooks := .later }
def ReaderWordsCardSaid : Prop := Claim7.holds Tryd.pinned (.plain (OpenSpec.ofChange readerWordsSpec)) readerWordsCard

/-- THE TIED CARD OF 'spadillelaw08.ReaderCodes'. -/
def readerCodesCard : Claim7 := { stood := { row := readerCodesRow, standIns := [], harness := (true, "0b3276a94f80e21269dcc4fe97bb0145021184f331f875f1aa485531dc632b2e"), looks := false }, kinds := [], alts := [], laidByText := true, laidKinds := [.data], laidTests := true, laidLooks := .later }
def ReaderCodesCardSaid : Prop := Claim7.holds Tryd.pinned (.plain (OpenSpec.ofChange readerCodesSpec)) readerCodesCard

/-- THE TIED CARD OF 'spadillelaw08.ReaderSafe'. -/
def readerSafeCard : Claim7 := { stood := { row := readerSafeRow, standIns := [], harness := (true, "0b3276a94f80e21269dcc4fe97bb0145021184f331f875f1aa485531dc632b2e"), looks := false }, kinds := [], alts := [], laidByText := true, laidKinds := [.data], laidTests := true, laidLooks := .later }
def ReaderSafeCardSaid : Prop := Claim7.holds Tryd.pinned (.plain (OpenSpec.ofChange readerSafeSpec)) readerSafeCard

/-- THE TIED CARD OF 'spadillelaw08.ReaderRestores'. -/
def readerRestoresCard : Claim7 := { stood := { row := readerRestoresRow, standIns := [], harness := (true, "0b3276a94f80e21269dcc4fe97bb0145021184f331f875f1aa485531dc632b2e"), looks := false }, kinds := [], alts := [], laidByText := true, laidKinds := [.data], laidTests := true, laidLooks := .later }
def ReaderRestoresCardSaid : Prop := Claim7.holds Tryd.pinned (.plain (OpenSpec.ofChange readerRestoresSpec)) readerRestoresCard

/-- THE TIED CARD OF 'spadillelaw08.ReaderReads'. -/
def readerReadsCard : Claim7 := { stood := { row := readerReadsRow, standIns := [], harness := (true, "0b3276a94f80e21269dcc4fe97bb0145021184f331f875f1aa485531dc632b2e"), looks := false }, kinds := [], alts := [], laidByText := true, laidKinds := [.data], laidTests := true, laidLooks := .later }
def ReaderReadsCardSaid : Prop := Claim7.holds Tryd.pinned (.plain (OpenSpec.ofChange readerReadsSpec)) readerReadsCard

/-- THE TIED CARD OF 'spadillelaw08.ReaderBoth'. -/
def readerBothCard : Claim7 := { stood := { row := readerBothRow, standIns := [], harness := (true, "0b3276a94f80e21269dcc4fe97bb0145021184f331f875f1aa485531dc632b2e"), looks := false }, kinds := [], alts := [], laidByText := true, laidKinds := [.data], laidTests := true, laidLooks := .later }
def ReaderBothCardSaid : Prop := Claim7.holds Tryd.pinned (.plain (OpenSpec.ofChange readerBothSpec)) readerBothCard

/-- THE TIED CARD OF 'spadillelaw08.ReaderClasses'. -/
def readerClassesCard : Claim7 := { stood := { row := readerClassesRow, standIns := [], harness := (true, "0b3276a94f80e21269dcc4fe97bb0145021184f331f875f1aa485531dc632b2e"), looks := false }, kinds := [], alts := [], laidByText := true, laidKinds := [.data], laidTests := true, laidLooks := .later }
def ReaderClassesCardSaid : Prop := Claim7.holds Tryd.pinned (.plain (OpenSpec.ofChange readerClassesSpec)) readerClassesCard

/-- THE TIED CARD OF 'spadillelaw08.ReaderKnown'. -/
def readerKnownCard : Claim7 := { stood := { row := readerKnownRow, standIns := [], harness := (true, "0b3276a94f80e21269dcc4fe97bb0145021184f331f875f1aa485531dc632b2e"), looks := false }, kinds := [], alts := [], laidByText := true, laidKinds := [.data], laidTests := true, laidLooks := .later }
def ReaderKnownCardSaid : Prop := Claim7.holds Tryd.pinned (.plain (OpenSpec.ofChange readerKnownSpec)) readerKnownCard

/-- THE TIED CARD OF 'spadillelaw08.ReaderMost'. -/
def readerMostCard : Claim7 := { stood := { row := readerMostRow, standIns := [], harness := (true, "0b3276a94f80e21269dcc4fe97bb0145021184f331f875f1aa485531dc632b2e"), looks := false }, kinds := [], alts := [], laidByText := true, laidKinds := [.data], laidTests := true, laidLooks := .later }
def ReaderMostCardSaid : Prop := Claim7.holds Tryd.pinned (.plain (OpenSpec.ofChange readerMostSpec)) readerMostCard

/-- THE TIED CARD OF 'spadillelaw08.ReaderTurned'. -/
def readerTurnedCard : Claim7 := { stood := { row := readerTurnedRow, standIns := [], harness := (true, "0b3276a94f80e21269dcc4fe97bb0145021184f331f875f1aa485531dc632b2e"), looks := false }, kinds := [], alts := [], laidByText := true, laidKinds := [.data], laidTests := true, laidLooks := .later }
def ReaderTurnedCardSaid : Prop := Claim7.holds Tryd.pinned (.plain (OpenSpec.ofChange readerTurnedSpec)) readerTurnedCard

/-- THE SECOND FORM's CARD OF 'spadillelaw08.ReaderWords'. -/
def readerWordsUptoCard : Claim7 := { stood := { row := readerWordsUptoRow, standIns := [], harness := (true, "0b3276a94f80e21269dcc4fe97bb0145021184f331f875f1aa485531dc632b2e"), looks := false }, kinds := [], alts := [], laidByText := true, laidKinds := [.data], laidTests := true, laidLooks := .later }
def ReaderWordsUptoCardSaid : Prop := Claim7.holds Tryd.pinned (.plain (OpenSpec.upto readerWordsSpec)) readerWordsUptoCard

/-- THE SECOND FORM's CARD OF 'spadillelaw08.ReaderCodes'. -/
def readerCodesUptoCard : Claim7 := { stood := { row := readerCodesUptoRow, standIns := [], harness := (true, "0b3276a94f80e21269dcc4fe97bb0145021184f331f875f1aa485531dc632b2e"), looks := false }, kinds := [], alts := [], laidByText := true, laidKinds := [.data], laidTests := true, laidLooks := .later }
def ReaderCodesUptoCardSaid : Prop := Claim7.holds Tryd.pinned (.plain (OpenSpec.upto readerCodesSpec)) readerCodesUptoCard

/-- THE SECOND FORM's CARD OF 'spadillelaw08.ReaderSafe'. -/
def readerSafeUptoCard : Claim7 := { stood := { row := readerSafeUptoRow, standIns := [], harness := (true, "0b3276a94f80e21269dcc4fe97bb0145021184f331f875f1aa485531dc632b2e"), looks := false }, kinds := [], alts := [], laidByText := true, laidKinds := [.data], laidTests := true, laidLooks := .later }
def ReaderSafeUptoCardSaid : Prop := Claim7.holds Tryd.pinned (.plain (OpenSpec.upto readerSafeSpec)) readerSafeUptoCard

/-- THE SECOND FORM's CARD OF 'spadillelaw08.ReaderRestores'. -/
def readerRestoresUptoCard : Claim7 := { stood := { row := readerRestoresUptoRow, standIns := [], harness := (true, "0b3276a94f80e21269dcc4fe97bb0145021184f331f875f1aa485531dc632b2e"), looks := false }, kinds := [], alts := [], laidByText := true, laidKinds := [.data], laidTests := true, laidLooks := .later }
def ReaderRestoresUptoCardSaid : Prop := Claim7.holds Tryd.pinned (.plain (OpenSpec.upto readerRestoresSpec)) readerRestoresUptoCard

/-- THE SECOND FORM's CARD OF 'spadillelaw08.ReaderReads'. -/
def readerReadsUptoCard : Claim7 := { stood := { row := readerReadsUptoRow, standIns := [], harness := (true, "0b3276a94f80e21269dcc4fe97bb0145021184f331f875f1aa485531dc632b2e"), looks := false }, kinds := [], alts := [], laidByText := true, laidKinds := [.data], laidTests := true, laidLooks := .later }
def ReaderReadsUptoCardSaid : Prop := Claim7.holds Tryd.pinned (.plain (OpenSpec.upto readerReadsSpec)) readerReadsUptoCard

/-- THE SECOND FORM's CARD OF 'spadillelaw08.ReaderBoth'. -/
def readerBothUptoCard : Claim7 := { stood := { row := readerBothUptoRow, standIns := [], harness := (true, "0b3276a94f80e21269dcc4fe97bb0145021184f331f875f1aa485531dc632b2e"), looks := false }, kinds := [], alts := [], laidByText := true, laidKinds := [.data], laidTests := true, laidLooks := .later }
def ReaderBothUptoCardSaid : Prop := Claim7.holds Tryd.pinned (.plain (OpenSpec.upto readerBothSpec)) readerBothUptoCard

/-- THE SECOND FORM's CARD OF 'spadillelaw08.ReaderClasses'. -/
def readerClassesUptoCard : Claim7 := { stood := { row := readerClassesUptoRow, standIns := [], harness := (true, "0b3276a94f80e21269dcc4fe97bb0145021184f331f875f1aa485531dc632b2e"), looks := false }, kinds := [], alts := [], laidByText := true, laidKinds := [.data], laidTests := true, laidLooks := .later }
def ReaderClassesUptoCardSaid : Prop := Claim7.holds Tryd.pinned (.plain (OpenSpec.upto readerClassesSpec)) readerClassesUptoCard

/-- THE SECOND FORM's CARD OF 'spadillelaw08.ReaderKnown'. -/
def readerKnownUptoCard : Claim7 := { stood := { row := readerKnownUptoRow, standIns := [], harness := (true, "0b3276a94f80e21269dcc4fe97bb0145021184f331f875f1aa485531dc632b2e"), looks := false }, kinds := [], alts := [], laidByText := true, laidKinds := [.data], laidTests := true, laidLooks := .later }
def ReaderKnownUptoCardSaid : Prop := Claim7.holds Tryd.pinned (.plain (OpenSpec.upto readerKnownSpec)) readerKnownUptoCard

/-- THE SECOND FORM's CARD OF 'spadillelaw08.ReaderMost'. -/
def readerMostUptoCard : Claim7 := { stood := { row := readerMostUptoRow, standIns := [], harness := (true, "0b3276a94f80e21269dcc4fe97bb0145021184f331f875f1aa485531dc632b2e"), looks := false }, kinds := [], alts := [], laidByText := true, laidKinds := [.data], laidTests := true, laidLooks := .later }
def ReaderMostUptoCardSaid : Prop := Claim7.holds Tryd.pinned (.plain (OpenSpec.upto readerMostSpec)) readerMostUptoCard

/-- THE SECOND FORM's CARD OF 'spadillelaw08.ReaderTurned'. -/
def readerTurnedUptoCard : Claim7 := { stood := { row := readerTurnedUptoRow, standIns := [], harness := (true, "0b3276a94f80e21269dcc4fe97bb0145021184f331f875f1aa485531dc632b2e"), looks := false }, kinds := [], alts := [], laidByText := true, laidKinds := [.data], laidTests := true, laidLooks := .later }
def ReaderTurnedUptoCardSaid : Prop := Claim7.holds Tryd.pinned (.plain (OpenSpec.upto readerTurnedSpec)) readerTurnedUptoCard
end Rows
end Go.Proofs.YtfoiccnlcheklaaDoor
