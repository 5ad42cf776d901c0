/-
  DERIVED. GIVEN WITH THE SEED: THE CARDS: each row of YtgnogfjajnnaoaaGreatDoorRows.lean that lists a variable, with what it lists TIED to the program's text (the seventh form; the later family's looks); each row that meets fmt, with fmt's text TOLD by the authors' own Lean function (tested against real Go, not proved from fmt's source: count such statements apart). THE CARD IS WHAT COUNTS. Prove the row's statement (the work); the ties are given (YtgnogfjajnnaoaaGreatDoorTie.lean); close each card by the builder's one call (the guide's Derived/Test/ToyasCard.lean, 'card_holds'). Laid BY PROGRAM, IN A SANDBOX (cutbox-door.mjs). By AI agents, Wed Nov 11 2026. No macro, syntax, notation, axiom, sorry.
-/
import Derived.Test.YtgnogfjajnnaoaaGreatDoorRows
import GoSem.ClaimSeven
namespace Go.Proofs.YtgnogfjajnnaoaaGreatDoor
namespace Rows

/-- THE TIED CARD OF 'spadillelaw14.MasterLines'. -/
def masterLinesCard : Claim7 := { stood := { row := masterLinesRow, standIns := [], harness := (true, "afce8a396815444d4406cdc9c23946eb5321332b248120e239658d6d6bac4cb6"), looks := true }, kinds := [], alts := [], laidByText := true, laidKinds := [.data, .data, .data, .data, .data, .pinned], laidTests := true, laidLooks := .later }
def MasterLinesCardSaid : Prop := Claim7.holds Tryz.pinned (.plain (OpenSpec.ofChange masterLinesSpec)) masterLinesCard

/-- THE TIED CARD OF 'spadillelaw14.MasterAsked'. -/
def masterAskedCard : Claim7 := { stood := { row := masterAskedRow, standIns := [], harness := (true, "afce8a396815444d4406cdc9c23946eb5321332b248120e239658d6d6bac4cb6"), looks := true }, kinds := [], alts := [], laidByText := true, laidKinds := [.data, .data, .data, .data, .data, .pinned], laidTests := true, laidLooks := .later }
def MasterAskedCardSaid : Prop := Claim7.holds Tryz.pinned (.plain (OpenSpec.ofChange masterAskedSpec)) masterAskedCard

/-- THE TIED CARD OF 'spadillelaw14.MasterNone'. -/
def masterNoneCard : Claim7 := { stood := { row := masterNoneRow, standIns := [], harness := (true, "afce8a396815444d4406cdc9c23946eb5321332b248120e239658d6d6bac4cb6"), looks := true }, kinds := [], alts := [], laidByText := true, laidKinds := [.data, .data, .data, .data, .data, .pinned], laidTests := true, laidLooks := .later }
def MasterNoneCardSaid : Prop := Claim7.holds Tryz.pinned (.plain (OpenSpec.ofChange masterNoneSpec)) masterNoneCard

/-- THE TIED CARD OF 'spadillelaw14.MasterUndone'. -/
def masterUndoneCard : Claim7 := { stood := { row := masterUndoneRow, standIns := [], harness := (true, "afce8a396815444d4406cdc9c23946eb5321332b248120e239658d6d6bac4cb6"), looks := true }, kinds := [], alts := [], laidByText := true, laidKinds := [.data, .data, .data, .data, .data, .pinned], laidTests := true, laidLooks := .later }
def MasterUndoneCardSaid : Prop := Claim7.holds Tryz.pinned (.plain (OpenSpec.ofChange masterUndoneSpec)) masterUndoneCard

/-- THE TIED CARD OF 'spadillelaw14.MasterNames'. -/
def masterNamesCard : Claim7 := { stood := { row := masterNamesRow, standIns := [], harness := (true, "afce8a396815444d4406cdc9c23946eb5321332b248120e239658d6d6bac4cb6"), looks := true }, kinds := [], alts := [], laidByText := true, laidKinds := [.data, .data, .data, .data, .data, .pinned], laidTests := true, laidLooks := .later }
def MasterNamesCardSaid : Prop := Claim7.holds Tryz.pinned (.plain (OpenSpec.ofChange masterNamesSpec)) masterNamesCard

/-- THE TIED CARD OF 'spadillelaw14.MasterKnown'. -/
def masterKnownCard : Claim7 := { stood := { row := masterKnownRow, standIns := [], harness := (true, "afce8a396815444d4406cdc9c23946eb5321332b248120e239658d6d6bac4cb6"), looks := true }, kinds := [], alts := [], laidByText := true, laidKinds := [.data, .data, .data, .data, .data, .pinned], laidTests := true, laidLooks := .later }
def MasterKnownCardSaid : Prop := Claim7.holds Tryz.pinned (.plain (OpenSpec.ofChange masterKnownSpec)) masterKnownCard

/-- THE TIED CARD OF 'spadillelaw14.MasterFiles'. -/
def masterFilesCard : Claim7 := { stood := { row := masterFilesRow, standIns := [], harness := (true, "afce8a396815444d4406cdc9c23946eb5321332b248120e239658d6d6bac4cb6"), looks := true }, kinds := [], alts := [], laidByText := true, laidKinds := [.data, .data, .data, .data, .data, .pinned], laidTests := true, laidLooks := .later }
def MasterFilesCardSaid : Prop := Claim7.holds Tryz.pinned (.plain (OpenSpec.ofChange masterFilesSpec)) masterFilesCard

/-- THE TIED CARD OF 'spadillelaw14.MasterRead'. -/
def masterReadCard : Claim7 := { stood := { row := masterReadRow, standIns := [], harness := (true, "afce8a396815444d4406cdc9c23946eb5321332b248120e239658d6d6bac4cb6"), looks := true }, kinds := [], alts := [], laidByText := true, laidKinds := [.data, .data, .data, .data, .data, .pinned], laidTests := true, laidLooks := .later }
def MasterReadCardSaid : Prop := Claim7.holds Tryz.pinned (.plain (OpenSpec.ofChange masterReadSpec)) masterReadCard

/-- THE TIED CARD OF 'spadillelaw14.MasterPaid'. -/
def masterPaidCard : Claim7 := { stood := { row := masterPaidRow, standIns := [], harness := (true, "afce8a396815444d4406cdc9c23946eb5321332b248120e239658d6d6bac4cb6"), looks := true }, kinds := [], alts := [], laidByText := true, laidKinds := [.data, .data, .data, .data, .data, .sentinel, .sentinel, .pinned], laidTests := true, laidLooks := .later }
def MasterPaidCardSaid : Prop := Claim7.holds Tryz.pinned (.plain (OpenSpec.ofChange masterPaidSpec)) masterPaidCard

/-- THE TIED CARD OF 'spadillelaw14.MasterPacks'. -/
def masterPacksCard : Claim7 := { stood := { row := masterPacksRow, standIns := [], harness := (true, "afce8a396815444d4406cdc9c23946eb5321332b248120e239658d6d6bac4cb6"), looks := true }, kinds := [], alts := [], laidByText := true, laidKinds := [.data, .data, .data, .data, .data, .sentinel, .sentinel, .pinned], laidTests := true, laidLooks := .later }
def MasterPacksCardSaid : Prop := Claim7.holds Tryz.pinned (.plain (OpenSpec.ofChange masterPacksSpec)) masterPacksCard

/-- THE TIED CARD OF 'spadillelaw14.MasterMore'. -/
def masterMoreCard : Claim7 := { stood := { row := masterMoreRow, standIns := [], harness := (true, "afce8a396815444d4406cdc9c23946eb5321332b248120e239658d6d6bac4cb6"), looks := true }, kinds := [], alts := [], laidByText := true, laidKinds := [.data, .data, .data, .data, .data, .sentinel, .sentinel, .pinned], laidTests := true, laidLooks := .later }
def MasterMoreCardSaid : Prop := Claim7.holds Tryz.pinned (.plain (OpenSpec.ofChange masterMoreSpec)) masterMoreCard

/-- THE TIED CARD OF 'spadillelaw14.MasterClaims'. -/
def masterClaimsCard : Claim7 := { stood := { row := masterClaimsRow, standIns := [], harness := (true, "afce8a396815444d4406cdc9c23946eb5321332b248120e239658d6d6bac4cb6"), looks := true }, kinds := [], alts := [], laidByText := true, laidKinds := [.data, .data, .data, .data, .data, .sentinel, .sentinel, .pinned], laidTests := true, laidLooks := .later }
def MasterClaimsCardSaid : Prop := Claim7.holds Tryz.pinned (.plain (OpenSpec.ofChange masterClaimsSpec)) masterClaimsCard

/-- THE SECOND FORM's CARD OF 'spadillelaw14.MasterLines'. -/
def masterLinesUptoCard : Claim7 := { stood := { row := masterLinesUptoRow, standIns := [], harness := (true, "afce8a396815444d4406cdc9c23946eb5321332b248120e239658d6d6bac4cb6"), looks := true }, kinds := [], alts := [], laidByText := true, laidKinds := [.data, .data, .data, .data, .data, .pinned], laidTests := true, laidLooks := .later }
def MasterLinesUptoCardSaid : Prop := Claim7.holds Tryz.pinned (.plain (OpenSpec.upto masterLinesSpec)) masterLinesUptoCard

/-- THE SECOND FORM's CARD OF 'spadillelaw14.MasterAsked'. -/
def masterAskedUptoCard : Claim7 := { stood := { row := masterAskedUptoRow, standIns := [], harness := (true, "afce8a396815444d4406cdc9c23946eb5321332b248120e239658d6d6bac4cb6"), looks := true }, kinds := [], alts := [], laidByText := true, laidKinds := [.data, .data, .data, .data, .data, .pinned], laidTests := true, laidLooks := .later }
def MasterAskedUptoCardSaid : Prop := Claim7.holds Tryz.pinned (.plain (OpenSpec.upto masterAskedSpec)) masterAskedUptoCard

/-- THE SECOND FORM's CARD OF 'spadillelaw14.MasterNone'. -/
def masterNoneUptoCard : Claim7 := { stood := { row := masterNoneUptoRow, standIns := [], harness := (true, "afce8a396815444d4406cdc9c23946eb5321332b248120e239658d6d6bac4cb6"), looks := true }, kinds := [], alts := [], laidByText := true, laidKinds := [.data, .data, .data, .data, .data, .pinned], laidTests := true, laidLooks := .later }
def MasterNoneUptoCardSaid : Prop := Claim7.holds Tryz.pinned (.plain (OpenSpec.upto masterNoneSpec)) masterNoneUptoCard

/-- THE SECOND FORM's CARD OF 'spadillelaw14.MasterUndone'. -/
def masterUndoneUptoCard : Claim7 := { stood := { row := masterUndoneUptoRow, standIns := [], harness := (true, "afce8a396815444d4406cdc9c23946eb5321332b248120e239658d6d6bac4cb6"), looks := true }, kinds := [], alts := [], laidByText := true, laidKinds := [.data, .data, .data, .data, .data, .pinned], laidTests := true, laidLooks := .later }
def MasterUndoneUptoCardSaid : Prop := Claim7.holds Tryz.pinned (.plain (OpenSpec.upto masterUndoneSpec)) masterUndoneUptoCard

/-- THE SECOND FORM's CARD OF 'spadillelaw14.MasterNames'. -/
def masterNamesUptoCard : Claim7 := { stood := { row := masterNamesUptoRow, standIns := [], harness := (true, "afce8a396815444d4406cdc9c23946eb5321332b248120e239658d6d6bac4cb6"), looks := true }, kinds := [], alts := [], laidByText := true, laidKinds := [.data, .data, .data, .data, .data, .pinned], laidTests := true, laidLooks := .later }
def MasterNamesUptoCardSaid : Prop := Claim7.holds Tryz.pinned (.plain (OpenSpec.upto masterNamesSpec)) masterNamesUptoCard

/-- THE SECOND FORM's CARD OF 'spadillelaw14.MasterKnown'. -/
def masterKnownUptoCard : Claim7 := { stood := { row := masterKnownUptoRow, standIns := [], harness := (true, "afce8a396815444d4406cdc9c23946eb5321332b248120e239658d6d6bac4cb6"), looks := true }, kinds := [], alts := [], laidByText := true, laidKinds := [.data, .data, .data, .data, .data, .pinned], laidTests := true, laidLooks := .later }
def MasterKnownUptoCardSaid : Prop := Claim7.holds Tryz.pinned (.plain (OpenSpec.upto masterKnownSpec)) masterKnownUptoCard

/-- THE SECOND FORM's CARD OF 'spadillelaw14.MasterFiles'. -/
def masterFilesUptoCard : Claim7 := { stood := { row := masterFilesUptoRow, standIns := [], harness := (true, "afce8a396815444d4406cdc9c23946eb5321332b248120e239658d6d6bac4cb6"), looks := true }, kinds := [], alts := [], laidByText := true, laidKinds := [.data, .data, .data, .data, .data, .pinned], laidTests := true, laidLooks := .later }
def MasterFilesUptoCardSaid : Prop := Claim7.holds Tryz.pinned (.plain (OpenSpec.upto masterFilesSpec)) masterFilesUptoCard

/-- THE SECOND FORM's CARD OF 'spadillelaw14.MasterRead'. -/
def masterReadUptoCard : Claim7 := { stood := { row := masterReadUptoRow, standIns := [], harness := (true, "afce8a396815444d4406cdc9c23946eb5321332b248120e239658d6d6bac4cb6"), looks := true }, kinds := [], alts := [], laidByText := true, laidKinds := [.data, .data, .data, .data, .data, .pinned], laidTests := true, laidLooks := .later }
def MasterReadUptoCardSaid : Prop := Claim7.holds Tryz.pinned (.plain (OpenSpec.upto masterReadSpec)) masterReadUptoCard

/-- THE SECOND FORM's CARD OF 'spadillelaw14.MasterPaid'. -/
def masterPaidUptoCard : Claim7 := { stood := { row := masterPaidUptoRow, standIns := [], harness := (true, "afce8a396815444d4406cdc9c23946eb5321332b248120e239658d6d6bac4cb6"), looks := true }, kinds := [], alts := [], laidByText := true, laidKinds := [.data, .data, .data, .data, .data, .sentinel, .sentinel, .pinned], laidTests := true, laidLooks := .later }
def MasterPaidUptoCardSaid : Prop := Claim7.holds Tryz.pinned (.plain (OpenSpec.upto masterPaidSpec)) masterPaidUptoCard

/-- THE SECOND FORM's CARD OF 'spadillelaw14.MasterPacks'. -/
def masterPacksUptoCard : Claim7 := { stood := { row := masterPacksUptoRow, standIns := [], harness := (true, "afce8a396815444d4406cdc9c23946eb5321332b248120e239658d6d6bac4cb6"), looks := true }, kinds := [], alts := [], laidByText := true, laidKinds := [.data, .data, .data, .data, .data, .sentinel, .sentinel, .pinned], laidTests := true, laidLooks := .later }
def MasterPacksUptoCardSaid : Prop := Claim7.holds Tryz.pinned (.plain (OpenSpec.upto masterPacksSpec)) masterPacksUptoCard

/-- THE SECOND FORM's CARD OF 'spadillelaw14.MasterMore'. -/
def masterMoreUptoCard : Claim7 := { stood := { row := masterMoreUptoRow, standIns := [], harness := (true, "afce8a396815444d4406cdc9c23946eb5321332b248120e239658d6d6bac4cb6"), looks := true }, kinds := [], alts := [], laidByText := true, laidKinds := [.data, .data, .data, .data, .data, .sentinel, .sentinel, .pinned], laidTests := true, laidLooks := .later }
def MasterMoreUptoCardSaid : Prop := Claim7.holds Tryz.pinned (.plain (OpenSpec.upto masterMoreSpec)) masterMoreUptoCard

/-- THE SECOND FORM's CARD OF 'spadillelaw14.MasterClaims'. -/
def masterClaimsUptoCard : Claim7 := { stood := { row := masterClaimsUptoRow, standIns := [], harness := (true, "afce8a396815444d4406cdc9c23946eb5321332b248120e239658d6d6bac4cb6"), looks := true }, kinds := [], alts := [], laidByText := true, laidKinds := [.data, .data, .data, .data, .data, .sentinel, .sentinel, .pinned], laidTests := true, laidLooks := .later }
def MasterClaimsUptoCardSaid : Prop := Claim7.holds Tryz.pinned (.plain (OpenSpec.upto masterClaimsSpec)) masterClaimsUptoCard
end Rows
end Go.Proofs.YtgnogfjajnnaoaaGreatDoor
