/-
  NARROWER THAN 'FOR EVERY INPUT', by the rows' own cells (each row's printed sentence says how): ReaderWords: laid · ReaderCodes: laid · ReaderSafe: laid · ReaderRestores: laid · ReaderReads: laid · ReaderBoth: laid · ReaderClasses: laid · ReaderKnown: laid · ReaderMost: laid · ReaderTurned: laid.
  DERIVED. THE GIVEN ROWS OF THIS SEAT. 10 by the template 'for every input the law returns true; each argument reads behind the call as it read before'; 0 by the template 'total and deterministic' (their statements: YtfoiccnlcheklaaDoorTotals.lean).
  GIVEN WITH THE SEED: the statements are not yours to turn. If you find one false, say at which input.
  Laid BY PROGRAM, IN A SANDBOX (cutbox-rows.mjs): the forced cells as the released guide's own fill.sh prints them over the translation 716ee253bc5c609a… (all of the seat's roots in one cut). By AI agents, Wed Nov 11 2026. No macro, syntax, notation, axiom, sorry.
-/
import Derived.Test.YtfoiccnlcheklaaDoorChecked
import GoSem.Claim
import GoSem.ClaimJoined
import GoSem.ClaimMapViews
import Derived.JoinedTies
import Derived.KernelRfl
namespace Go.Proofs.YtfoiccnlcheklaaDoor
/- THE CELL 'sum', in the pinned program and in every row, IS THE sha256 OF THE DUMP (.gsa) THAT YtfoiccnlcheklaaDoorProg.lean LOADS. Nothing in Lean hashes anything: it is a label: what it is worth is what the hold of that sum in a sandbox is worth. -/
noncomputable def Tryd.pinned : Pinned := { name := "ytfoiccnlcheklaadoor", sum := "716ee253bc5c609aae658545ccc7258208ea3ae7704003c018b48dd018bb8c86", checked := Tryd.checked }
namespace Rows
def none {H : Type} : Left H := { results := [], args := [] }

/- WHAT THE LISTED PACKAGE-LEVEL VARIABLES READ AS WHEN THE CALL BEGINS. Each datum BY PROGRAM (the guide's laid-datum.mjs) off the statement by which the dump's own 'gosem.cut.vars' lays the variable. In a bare row this is a premise. The card (YtfoiccnlcheklaaDoorCards.lean) ties it to the program's text. -/
def laid_math_bits_deBruijn32tab {H : Type} : DataW H := .agg [.lit (.int .u8 0), .lit (.int .u8 1), .lit (.int .u8 28), .lit (.int .u8 2), .lit (.int .u8 29), .lit (.int .u8 14), .lit (.int .u8 24), .lit (.int .u8 3), .lit (.int .u8 30), .lit (.int .u8 22), .lit (.int .u8 20), .lit (.int .u8 15), .lit (.int .u8 25), .lit (.int .u8 17), .lit (.int .u8 4), .lit (.int .u8 8), .lit (.int .u8 31), .lit (.int .u8 27), .lit (.int .u8 13), .lit (.int .u8 23), .lit (.int .u8 21), .lit (.int .u8 19), .lit (.int .u8 16), .lit (.int .u8 7), .lit (.int .u8 26), .lit (.int .u8 12), .lit (.int .u8 18), .lit (.int .u8 6), .lit (.int .u8 11), .lit (.int .u8 5), .lit (.int .u8 10), .lit (.int .u8 9)]

/-- 'spadillelaw08.ReaderWords': WHATEVER THE INPUT: true; the input reads as it did. -/
def readerWordsSpec : ChangeSpec := { name := "readerWords", fn := fun _ => fun
  | [d] => { results := [.lit (.bool true)], args := [d] }
  | _ => none }
def readerWordsRow : OpenClaim := { program := "ytfoiccnlcheklaadoor", sum := "716ee253bc5c609aae658545ccc7258208ea3ae7704003c018b48dd018bb8c86", func := "spadille/spadillelaw08.ReaderWords", spec := "readerWords", inPlace := ["internal/abi.NoEscape", "internal/bytealg.CountString", "internal/bytealg.IndexByteString", "internal/bytealg.IndexString"], unfollowed := true, recurses := true, named := ["internal/bytealg.MaxLen", "math/bits.deBruijn32tab"], plainKeys := false, apart := false, laid := [("math/bits.deBruijn32tab", laid_math_bits_deBruijn32tab)] }
def ReaderWordsSaid : Prop := readerWordsRow.holds Tryd.pinned (OpenSpec.ofChange readerWordsSpec)

/-- ITS FALSE NEIGHBOUR: 'it returns false'. Refute it at one input. -/
def readerWordsWrong : ChangeSpec := { name := "readerWords", fn := fun _ => fun
  | [d] => { results := [.lit (.bool false)], args := [d] }
  | _ => none }
def ReaderWordsWrongFalsely : Prop := readerWordsRow.holds Tryd.pinned (OpenSpec.ofChange readerWordsWrong)

/-- 'spadillelaw08.ReaderCodes': WHATEVER THE INPUT: true; the input reads as it did. -/
def readerCodesSpec : ChangeSpec := { name := "readerCodes", fn := fun _ => fun
  | [d1, d2, d3] => { results := [.lit (.bool true)], args := [d1, d2, d3] }
  | _ => none }
def readerCodesRow : OpenClaim := { program := "ytfoiccnlcheklaadoor", sum := "716ee253bc5c609aae658545ccc7258208ea3ae7704003c018b48dd018bb8c86", func := "spadille/spadillelaw08.ReaderCodes", spec := "readerCodes", inPlace := ["internal/abi.NoEscape", "internal/bytealg.CountString", "internal/bytealg.IndexByteString", "internal/bytealg.IndexString"], unfollowed := true, recurses := true, named := ["internal/bytealg.MaxLen", "math/bits.deBruijn32tab"], plainKeys := false, apart := false, laid := [("math/bits.deBruijn32tab", laid_math_bits_deBruijn32tab)] }
def ReaderCodesSaid : Prop := readerCodesRow.holds Tryd.pinned (OpenSpec.ofChange readerCodesSpec)

/-- ITS FALSE NEIGHBOUR: 'it returns false'. Refute it at one input. -/
def readerCodesWrong : ChangeSpec := { name := "readerCodes", fn := fun _ => fun
  | [d1, d2, d3] => { results := [.lit (.bool false)], args := [d1, d2, d3] }
  | _ => none }
def ReaderCodesWrongFalsely : Prop := readerCodesRow.holds Tryd.pinned (OpenSpec.ofChange readerCodesWrong)

/-- 'spadillelaw08.ReaderSafe': WHATEVER THE INPUT: true; the input reads as it did. -/
def readerSafeSpec : ChangeSpec := { name := "readerSafe", fn := fun _ => fun
  | [d1, d2, d3, d4] => { results := [.lit (.bool true)], args := [d1, d2, d3, d4] }
  | _ => none }
def readerSafeRow : OpenClaim := { program := "ytfoiccnlcheklaadoor", sum := "716ee253bc5c609aae658545ccc7258208ea3ae7704003c018b48dd018bb8c86", func := "spadille/spadillelaw08.ReaderSafe", spec := "readerSafe", inPlace := ["internal/abi.NoEscape", "internal/bytealg.CountString", "internal/bytealg.IndexByteString", "internal/bytealg.IndexString"], unfollowed := true, recurses := true, named := ["internal/bytealg.MaxLen", "math/bits.deBruijn32tab"], plainKeys := false, apart := false, laid := [("math/bits.deBruijn32tab", laid_math_bits_deBruijn32tab)] }
def ReaderSafeSaid : Prop := readerSafeRow.holds Tryd.pinned (OpenSpec.ofChange readerSafeSpec)

/-- ITS FALSE NEIGHBOUR: 'it returns false'. Refute it at one input. -/
def readerSafeWrong : ChangeSpec := { name := "readerSafe", fn := fun _ => fun
  | [d1, d2, d3, d4] => { results := [.lit (.bool false)], args := [d1, d2, d3, d4] }
  | _ => none }
def ReaderSafeWrongFalsely : Prop := readerSafeRow.holds Tryd.pinned (OpenSpec.ofChange readerSafeWrong)

/-- 'spadillelaw08.ReaderRestores': WHATEVER THE INPUT: true; the input reads as it did. -/
def readerRestoresSpec : ChangeSpec := { name := "readerRestores", fn := fun _ => fun
  | [d1, d2] => { results := [.lit (.bool true)], args := [d1, d2] }
  | _ => none }
def readerRestoresRow : OpenClaim := { program := "ytfoiccnlcheklaadoor", sum := "716ee253bc5c609aae658545ccc7258208ea3ae7704003c018b48dd018bb8c86", func := "spadille/spadillelaw08.ReaderRestores", spec := "readerRestores", inPlace := ["internal/abi.NoEscape", "internal/bytealg.CountString", "internal/bytealg.IndexByteString", "internal/bytealg.IndexString"], unfollowed := true, recurses := true, named := ["internal/bytealg.MaxLen", "math/bits.deBruijn32tab"], plainKeys := false, apart := false, laid := [("math/bits.deBruijn32tab", laid_math_bits_deBruijn32tab)] }
def ReaderRestoresSaid : Prop := readerRestoresRow.holds Tryd.pinned (OpenSpec.ofChange readerRestoresSpec)

/-- ITS FALSE NEIGHBOUR: 'it returns false'. Refute it at one input. -/
def readerRestoresWrong : ChangeSpec := { name := "readerRestores", fn := fun _ => fun
  | [d1, d2] => { results := [.lit (.bool false)], args := [d1, d2] }
  | _ => none }
def ReaderRestoresWrongFalsely : Prop := readerRestoresRow.holds Tryd.pinned (OpenSpec.ofChange readerRestoresWrong)

/-- 'spadillelaw08.ReaderReads': WHATEVER THE INPUT: true; the input reads as it did. -/
def readerReadsSpec : ChangeSpec := { name := "readerReads", fn := fun _ => fun
  | [d1, d2] => { results := [.lit (.bool true)], args := [d1, d2] }
  | _ => none }
def readerReadsRow : OpenClaim := { program := "ytfoiccnlcheklaadoor", sum := "716ee253bc5c609aae658545ccc7258208ea3ae7704003c018b48dd018bb8c86", func := "spadille/spadillelaw08.ReaderReads", spec := "readerReads", inPlace := ["internal/abi.NoEscape", "internal/bytealg.CountString", "internal/bytealg.IndexByteString", "internal/bytealg.IndexString"], unfollowed := true, recurses := true, named := ["internal/bytealg.MaxLen", "math/bits.deBruijn32tab"], plainKeys := false, apart := false, laid := [("math/bits.deBruijn32tab", laid_math_bits_deBruijn32tab)] }
def ReaderReadsSaid : Prop := readerReadsRow.holds Tryd.pinned (OpenSpec.ofChange readerReadsSpec)

/-- ITS FALSE NEIGHBOUR: 'it returns false'. Refute it at one input. -/
def readerReadsWrong : ChangeSpec := { name := "readerReads", fn := fun _ => fun
  | [d1, d2] => { results := [.lit (.bool false)], args := [d1, d2] }
  | _ => none }
def ReaderReadsWrongFalsely : Prop := readerReadsRow.holds Tryd.pinned (OpenSpec.ofChange readerReadsWrong)

/-- 'spadillelaw08.ReaderBoth': WHATEVER THE INPUT: true; the input reads as it did. -/
def readerBothSpec : ChangeSpec := { name := "readerBoth", fn := fun _ => fun
  | [d1, d2, d3] => { results := [.lit (.bool true)], args := [d1, d2, d3] }
  | _ => none }
def readerBothRow : OpenClaim := { program := "ytfoiccnlcheklaadoor", sum := "716ee253bc5c609aae658545ccc7258208ea3ae7704003c018b48dd018bb8c86", func := "spadille/spadillelaw08.ReaderBoth", spec := "readerBoth", inPlace := ["internal/abi.NoEscape", "internal/bytealg.CountString", "internal/bytealg.IndexByteString", "internal/bytealg.IndexString"], unfollowed := true, recurses := true, named := ["internal/bytealg.MaxLen", "math/bits.deBruijn32tab"], plainKeys := false, apart := false, laid := [("math/bits.deBruijn32tab", laid_math_bits_deBruijn32tab)] }
def ReaderBothSaid : Prop := readerBothRow.holds Tryd.pinned (OpenSpec.ofChange readerBothSpec)

/-- ITS FALSE NEIGHBOUR: 'it returns false'. Refute it at one input. -/
def readerBothWrong : ChangeSpec := { name := "readerBoth", fn := fun _ => fun
  | [d1, d2, d3] => { results := [.lit (.bool false)], args := [d1, d2, d3] }
  | _ => none }
def ReaderBothWrongFalsely : Prop := readerBothRow.holds Tryd.pinned (OpenSpec.ofChange readerBothWrong)

/-- 'spadillelaw08.ReaderClasses': WHATEVER THE INPUT: true; the input reads as it did. -/
def readerClassesSpec : ChangeSpec := { name := "readerClasses", fn := fun _ => fun
  | [d1, d2] => { results := [.lit (.bool true)], args := [d1, d2] }
  | _ => none }
def readerClassesRow : OpenClaim := { program := "ytfoiccnlcheklaadoor", sum := "716ee253bc5c609aae658545ccc7258208ea3ae7704003c018b48dd018bb8c86", func := "spadille/spadillelaw08.ReaderClasses", spec := "readerClasses", inPlace := ["internal/abi.NoEscape", "internal/bytealg.CountString", "internal/bytealg.IndexByteString", "internal/bytealg.IndexString"], unfollowed := true, recurses := true, named := ["internal/bytealg.MaxLen", "math/bits.deBruijn32tab"], plainKeys := false, apart := false, laid := [("math/bits.deBruijn32tab", laid_math_bits_deBruijn32tab)] }
def ReaderClassesSaid : Prop := readerClassesRow.holds Tryd.pinned (OpenSpec.ofChange readerClassesSpec)

/-- ITS FALSE NEIGHBOUR: 'it returns false'. Refute it at one input. -/
def readerClassesWrong : ChangeSpec := { name := "readerClasses", fn := fun _ => fun
  | [d1, d2] => { results := [.lit (.bool false)], args := [d1, d2] }
  | _ => none }
def ReaderClassesWrongFalsely : Prop := readerClassesRow.holds Tryd.pinned (OpenSpec.ofChange readerClassesWrong)

/-- 'spadillelaw08.ReaderKnown': WHATEVER THE INPUT: true; the input reads as it did. -/
def readerKnownSpec : ChangeSpec := { name := "readerKnown", fn := fun _ => fun
  | [] => { results := [.lit (.bool true)], args := [] }
  | _ => none }
def readerKnownRow : OpenClaim := { program := "ytfoiccnlcheklaadoor", sum := "716ee253bc5c609aae658545ccc7258208ea3ae7704003c018b48dd018bb8c86", func := "spadille/spadillelaw08.ReaderKnown", spec := "readerKnown", inPlace := ["internal/bytealg.CountString", "internal/bytealg.IndexByteString", "internal/bytealg.IndexString", "internal/abi.NoEscape"], unfollowed := true, recurses := true, named := ["internal/bytealg.MaxLen", "math/bits.deBruijn32tab"], plainKeys := false, apart := false, laid := [("math/bits.deBruijn32tab", laid_math_bits_deBruijn32tab)] }
def ReaderKnownSaid : Prop := readerKnownRow.holds Tryd.pinned (OpenSpec.ofChange readerKnownSpec)

/-- ITS FALSE NEIGHBOUR: 'it returns false'. Refute it at one input. -/
def readerKnownWrong : ChangeSpec := { name := "readerKnown", fn := fun _ => fun
  | [] => { results := [.lit (.bool false)], args := [] }
  | _ => none }
def ReaderKnownWrongFalsely : Prop := readerKnownRow.holds Tryd.pinned (OpenSpec.ofChange readerKnownWrong)

/-- 'spadillelaw08.ReaderMost': WHATEVER THE INPUT: true; the input reads as it did. -/
def readerMostSpec : ChangeSpec := { name := "readerMost", fn := fun _ => fun
  | [d1, d2] => { results := [.lit (.bool true)], args := [d1, d2] }
  | _ => none }
def readerMostRow : OpenClaim := { program := "ytfoiccnlcheklaadoor", sum := "716ee253bc5c609aae658545ccc7258208ea3ae7704003c018b48dd018bb8c86", func := "spadille/spadillelaw08.ReaderMost", spec := "readerMost", inPlace := ["internal/abi.NoEscape", "internal/bytealg.CountString", "internal/bytealg.IndexByteString", "internal/bytealg.IndexString"], unfollowed := true, recurses := true, named := ["math/bits.deBruijn32tab", "internal/bytealg.MaxLen"], plainKeys := false, apart := false, laid := [("math/bits.deBruijn32tab", laid_math_bits_deBruijn32tab)] }
def ReaderMostSaid : Prop := readerMostRow.holds Tryd.pinned (OpenSpec.ofChange readerMostSpec)

/-- ITS FALSE NEIGHBOUR: 'it returns false'. Refute it at one input. -/
def readerMostWrong : ChangeSpec := { name := "readerMost", fn := fun _ => fun
  | [d1, d2] => { results := [.lit (.bool false)], args := [d1, d2] }
  | _ => none }
def ReaderMostWrongFalsely : Prop := readerMostRow.holds Tryd.pinned (OpenSpec.ofChange readerMostWrong)

/-- 'spadillelaw08.ReaderTurned': WHATEVER THE INPUT: true; the input reads as it did. -/
def readerTurnedSpec : ChangeSpec := { name := "readerTurned", fn := fun _ => fun
  | [d1, d2, d3, d4] => { results := [.lit (.bool true)], args := [d1, d2, d3, d4] }
  | _ => none }
def readerTurnedRow : OpenClaim := { program := "ytfoiccnlcheklaadoor", sum := "716ee253bc5c609aae658545ccc7258208ea3ae7704003c018b48dd018bb8c86", func := "spadille/spadillelaw08.ReaderTurned", spec := "readerTurned", inPlace := ["internal/abi.NoEscape", "internal/bytealg.CountString", "internal/bytealg.IndexByteString", "internal/bytealg.IndexString"], unfollowed := true, recurses := true, named := ["internal/bytealg.MaxLen", "math/bits.deBruijn32tab"], plainKeys := false, apart := false, laid := [("math/bits.deBruijn32tab", laid_math_bits_deBruijn32tab)] }
def ReaderTurnedSaid : Prop := readerTurnedRow.holds Tryd.pinned (OpenSpec.ofChange readerTurnedSpec)

/-- ITS FALSE NEIGHBOUR: 'it returns false'. Refute it at one input. -/
def readerTurnedWrong : ChangeSpec := { name := "readerTurned", fn := fun _ => fun
  | [d1, d2, d3, d4] => { results := [.lit (.bool false)], args := [d1, d2, d3, d4] }
  | _ => none }
def ReaderTurnedWrongFalsely : Prop := readerTurnedRow.holds Tryd.pinned (OpenSpec.ofChange readerTurnedWrong)

/- THE SECOND FORM. 'bulk': how many values and letters a reading holds, each counted each time it is reached (what is shared counts as often as it is met; a slice's spare places count too). A statement '..UptoSaid' is the law's where the arguments, and the package variables that the reading takes, are together of bulk at most 1048576: NARROWER than '..Said'. Prove '..Said' where nothing that the law and all that it calls make is longer than what came in: it says more and counts as full. Else prove '..UptoSaid'. A law counts once. -/
mutual
def uptoBulk {H : Type} : DataW H → Nat
  | .lit (.string bytes) => bytes.length + 1
  | .lit _ => 1
  | .nil => 1
  | .ptr d => uptoBulk d + 1
  | .slice elems spare => uptoBulkAll elems + uptoBulkAll spare + 1
  | .agg parts => uptoBulkAll parts + 1
  | .iface _ d => uptoBulk d + 1
  | .map entries => uptoBulkEntries entries + 1
  | .held _ => 1
def uptoBulkAll {H : Type} : List (DataW H) → Nat
  | [] => 0
  | d :: r => uptoBulk d + uptoBulkAll r
def uptoBulkEntries {H : Type} : List (Lit × DataW H) → Nat
  | [] => 0
  | x :: r => uptoBulkEntry x + uptoBulkEntries r
def uptoBulkEntry {H : Type} : Lit × DataW H → Nat
  | (.string bytes, d) => bytes.length + uptoBulk d + 1
  | (_, d) => uptoBulk d + 1
 end
def uptoSmall : (H : Type) → List (DataW H) → Bool := fun _ ds => decide (uptoBulkAll ds ≤ 1048576)
def OpenSpec.upto (s : _root_.Go.ChangeSpec) : _root_.Go.OpenSpec := { _root_.Go.OpenSpec.ofChange s with cond := some uptoSmall }

/-- 'spadillelaw08.ReaderWords', WHERE WHAT IT READS IS OF BULK AT MOST 1048576: true; the input reads as it did. -/
def readerWordsUptoRow : OpenClaim := { program := "ytfoiccnlcheklaadoor", sum := "716ee253bc5c609aae658545ccc7258208ea3ae7704003c018b48dd018bb8c86", func := "spadille/spadillelaw08.ReaderWords", spec := "readerWords", inPlace := ["internal/abi.NoEscape", "internal/bytealg.CountString", "internal/bytealg.IndexByteString", "internal/bytealg.IndexString"], unfollowed := true, recurses := true, named := ["internal/bytealg.MaxLen", "math/bits.deBruijn32tab"], plainKeys := false, apart := false, laid := [("math/bits.deBruijn32tab", laid_math_bits_deBruijn32tab)], narrowed := true }
def ReaderWordsUptoSaid : Prop := readerWordsUptoRow.holds Tryd.pinned (OpenSpec.upto readerWordsSpec)

/-- 'spadillelaw08.ReaderCodes', WHERE WHAT IT READS IS OF BULK AT MOST 1048576: true; the input reads as it did. -/
def readerCodesUptoRow : OpenClaim := { program := "ytfoiccnlcheklaadoor", sum := "716ee253bc5c609aae658545ccc7258208ea3ae7704003c018b48dd018bb8c86", func := "spadille/spadillelaw08.ReaderCodes", spec := "readerCodes", inPlace := ["internal/abi.NoEscape", "internal/bytealg.CountString", "internal/bytealg.IndexByteString", "internal/bytealg.IndexString"], unfollowed := true, recurses := true, named := ["internal/bytealg.MaxLen", "math/bits.deBruijn32tab"], plainKeys := false, apart := false, laid := [("math/bits.deBruijn32tab", laid_math_bits_deBruijn32tab)], narrowed := true }
def ReaderCodesUptoSaid : Prop := readerCodesUptoRow.holds Tryd.pinned (OpenSpec.upto readerCodesSpec)

/-- 'spadillelaw08.ReaderSafe', WHERE WHAT IT READS IS OF BULK AT MOST 1048576: true; the input reads as it did. -/
def readerSafeUptoRow : OpenClaim := { program := "ytfoiccnlcheklaadoor", sum := "716ee253bc5c609aae658545ccc7258208ea3ae7704003c018b48dd018bb8c86", func := "spadille/spadillelaw08.ReaderSafe", spec := "readerSafe", inPlace := ["internal/abi.NoEscape", "internal/bytealg.CountString", "internal/bytealg.IndexByteString", "internal/bytealg.IndexString"], unfollowed := true, recurses := true, named := ["internal/bytealg.MaxLen", "math/bits.deBruijn32tab"], plainKeys := false, apart := false, laid := [("math/bits.deBruijn32tab", laid_math_bits_deBruijn32tab)], narrowed := true }
def ReaderSafeUptoSaid : Prop := readerSafeUptoRow.holds Tryd.pinned (OpenSpec.upto readerSafeSpec)

/-- 'spadillelaw08.ReaderRestores', WHERE WHAT IT READS IS OF BULK AT MOST 1048576: true; the input reads as it did. -/
def readerRestoresUptoRow : OpenClaim := { program := "ytfoiccnlcheklaadoor", sum := "716ee253bc5c609aae658545ccc7258208ea3ae7704003c018b48dd018bb8c86", func := "spadille/spadillelaw08.ReaderRestores", spec := "readerRestores", inPlace := ["internal/abi.NoEscape", "internal/bytealg.CountString", "internal/bytealg.IndexByteString", "internal/bytealg.IndexString"], unfollowed := true, recurses := true, named := ["internal/bytealg.MaxLen", "math/bits.deBruijn32tab"], plainKeys := false, apart := false, laid := [("math/bits.deBruijn32tab", laid_math_bits_deBruijn32tab)], narrowed := true }
def ReaderRestoresUptoSaid : Prop := readerRestoresUptoRow.holds Tryd.pinned (OpenSpec.upto readerRestoresSpec)

/-- 'spadillelaw08.ReaderReads', WHERE WHAT IT READS IS OF BULK AT MOST 1048576: true; the input reads as it did. -/
def readerReadsUptoRow : OpenClaim := { program := "ytfoiccnlcheklaadoor", sum := "716ee253bc5c609aae658545ccc7258208ea3ae7704003c018b48dd018bb8c86", func := "spadille/spadillelaw08.ReaderReads", spec := "readerReads", inPlace := ["internal/abi.NoEscape", "internal/bytealg.CountString", "internal/bytealg.IndexByteString", "internal/bytealg.IndexString"], unfollowed := true, recurses := true, named := ["internal/bytealg.MaxLen", "math/bits.deBruijn32tab"], plainKeys := false, apart := false, laid := [("math/bits.deBruijn32tab", laid_math_bits_deBruijn32tab)], narrowed := true }
def ReaderReadsUptoSaid : Prop := readerReadsUptoRow.holds Tryd.pinned (OpenSpec.upto readerReadsSpec)

/-- 'spadillelaw08.ReaderBoth', WHERE WHAT IT READS IS OF BULK AT MOST 1048576: true; the input reads as it did. -/
def readerBothUptoRow : OpenClaim := { program := "ytfoiccnlcheklaadoor", sum := "716ee253bc5c609aae658545ccc7258208ea3ae7704003c018b48dd018bb8c86", func := "spadille/spadillelaw08.ReaderBoth", spec := "readerBoth", inPlace := ["internal/abi.NoEscape", "internal/bytealg.CountString", "internal/bytealg.IndexByteString", "internal/bytealg.IndexString"], unfollowed := true, recurses := true, named := ["internal/bytealg.MaxLen", "math/bits.deBruijn32tab"], plainKeys := false, apart := false, laid := [("math/bits.deBruijn32tab", laid_math_bits_deBruijn32tab)], narrowed := true }
def ReaderBothUptoSaid : Prop := readerBothUptoRow.holds Tryd.pinned (OpenSpec.upto readerBothSpec)

/-- 'spadillelaw08.ReaderClasses', WHERE WHAT IT READS IS OF BULK AT MOST 1048576: true; the input reads as it did. -/
def readerClassesUptoRow : OpenClaim := { program := "ytfoiccnlcheklaadoor", sum := "716ee253bc5c609aae658545ccc7258208ea3ae7704003c018b48dd018bb8c86", func := "spadille/spadillelaw08.ReaderClasses", spec := "readerClasses", inPlace := ["internal/abi.NoEscape", "internal/bytealg.CountString", "internal/bytealg.IndexByteString", "internal/bytealg.IndexString"], unfollowed := true, recurses := true, named := ["internal/bytealg.MaxLen", "math/bits.deBruijn32tab"], plainKeys := false, apart := false, laid := [("math/bits.deBruijn32tab", laid_math_bits_deBruijn32tab)], narrowed := true }
def ReaderClassesUptoSaid : Prop := readerClassesUptoRow.holds Tryd.pinned (OpenSpec.upto readerClassesSpec)

/-- 'spadillelaw08.ReaderKnown', WHERE WHAT IT READS IS OF BULK AT MOST 1048576: true; the input reads as it did. -/
def readerKnownUptoRow : OpenClaim := { program := "ytfoiccnlcheklaadoor", sum := "716ee253bc5c609aae658545ccc7258208ea3ae7704003c018b48dd018bb8c86", func := "spadille/spadillelaw08.ReaderKnown", spec := "readerKnown", inPlace := ["internal/bytealg.CountString", "internal/bytealg.IndexByteString", "internal/bytealg.IndexString", "internal/abi.NoEscape"], unfollowed := true, recurses := true, named := ["internal/bytealg.MaxLen", "math/bits.deBruijn32tab"], plainKeys := false, apart := false, laid := [("math/bits.deBruijn32tab", laid_math_bits_deBruijn32tab)], narrowed := true }
def ReaderKnownUptoSaid : Prop := readerKnownUptoRow.holds Tryd.pinned (OpenSpec.upto readerKnownSpec)

/-- 'spadillelaw08.ReaderMost', WHERE WHAT IT READS IS OF BULK AT MOST 1048576: true; the input reads as it did. -/
def readerMostUptoRow : OpenClaim := { program := "ytfoiccnlcheklaadoor", sum := "716ee253bc5c609aae658545ccc7258208ea3ae7704003c018b48dd018bb8c86", func := "spadille/spadillelaw08.ReaderMost", spec := "readerMost", inPlace := ["internal/abi.NoEscape", "internal/bytealg.CountString", "internal/bytealg.IndexByteString", "internal/bytealg.IndexString"], unfollowed := true, recurses := true, named := ["math/bits.deBruijn32tab", "internal/bytealg.MaxLen"], plainKeys := false, apart := false, laid := [("math/bits.deBruijn32tab", laid_math_bits_deBruijn32tab)], narrowed := true }
def ReaderMostUptoSaid : Prop := readerMostUptoRow.holds Tryd.pinned (OpenSpec.upto readerMostSpec)

/-- 'spadillelaw08.ReaderTurned', WHERE WHAT IT READS IS OF BULK AT MOST 1048576: true; the input reads as it did. -/
def readerTurnedUptoRow : OpenClaim := { program := "ytfoiccnlcheklaadoor", sum := "716ee253bc5c609aae658545ccc7258208ea3ae7704003c018b48dd018bb8c86", func := "spadille/spadillelaw08.ReaderTurned", spec := "readerTurned", inPlace := ["internal/abi.NoEscape", "internal/bytealg.CountString", "internal/bytealg.IndexByteString", "internal/bytealg.IndexString"], unfollowed := true, recurses := true, named := ["internal/bytealg.MaxLen", "math/bits.deBruijn32tab"], plainKeys := false, apart := false, laid := [("math/bits.deBruijn32tab", laid_math_bits_deBruijn32tab)], narrowed := true }
def ReaderTurnedUptoSaid : Prop := readerTurnedUptoRow.holds Tryd.pinned (OpenSpec.upto readerTurnedSpec)

end Rows
end Go.Proofs.YtfoiccnlcheklaaDoor
