/-
  NARROWER THAN 'FOR EVERY INPUT', by the rows' own cells (each row's printed sentence says how): MasterLines: laid · MasterAsked: laid · MasterNone: laid · MasterUndone: laid · MasterNames: laid · MasterKnown: laid · MasterFiles: laid · MasterRead: laid · MasterPaid: laid · MasterPacks: laid · MasterMore: laid · MasterClaims: laid.
  DERIVED. THE GIVEN ROWS OF THIS SEAT. 12 by the template 'for every input the law returns true; each argument reads behind the call as it read before'; 0 by the template 'total and deterministic' (their statements: YtgnogfjajnnaoaaGreatDoorTotals.lean).
  GIVEN WITH THE SEED: the statements are not yours to turn. If you find one false, say at which input.
  Laid BY PROGRAM, IN A SANDBOX (cutbox-rows.mjs): the forced cells as the released guide's own fill.sh prints them over the translation 13cd1b9be09f2196… (all of the seat's roots in one cut). By AI agents, Wed Nov 11 2026. No macro, syntax, notation, axiom, sorry.
-/
import Derived.Test.YtgnogfjajnnaoaaGreatDoorChecked
import GoSem.PinnedTables
import GoSem.Claim
import GoSem.ClaimJoined
import GoSem.ClaimMapViews
import Derived.JoinedTies
import Derived.KernelRfl
namespace Go.Proofs.YtgnogfjajnnaoaaGreatDoor
/- THE CELL 'sum', in the pinned program and in every row, IS THE sha256 OF THE DUMP (.gsa) THAT YtgnogfjajnnaoaaGreatDoorProg.lean LOADS. Nothing in Lean hashes anything: it is a label: what it is worth is what the hold of that sum in a sandbox is worth. -/
noncomputable def Tryz.pinned : Pinned := { name := "ytgnogfjajnnaoaagreatdoor", sum := "13cd1b9be09f2196ceaa18267c22610e6d3c94c8e9b56e96a81b7fada57265b1", checked := Tryz.checked }
namespace Rows
def none {H : Type} : Left H := { results := [], args := [] }

/- WHAT THE LISTED PACKAGE-LEVEL VARIABLES READ AS WHEN THE CALL BEGINS. Each datum BY PROGRAM (the guide's laid-datum.mjs) off the statement by which the dump's own 'gosem.cut.vars' lays the variable. In a bare row this is a premise. The card (YtgnogfjajnnaoaaGreatDoorCards.lean) ties it to the program's text. -/
def laid_math_bits_deBruijn32tab {H : Type} : DataW H := .agg [.lit (.int .u8 0), .lit (.int .u8 1), .lit (.int .u8 28), .lit (.int .u8 2), .lit (.int .u8 29), .lit (.int .u8 14), .lit (.int .u8 24), .lit (.int .u8 3), .lit (.int .u8 30), .lit (.int .u8 22), .lit (.int .u8 20), .lit (.int .u8 15), .lit (.int .u8 25), .lit (.int .u8 17), .lit (.int .u8 4), .lit (.int .u8 8), .lit (.int .u8 31), .lit (.int .u8 27), .lit (.int .u8 13), .lit (.int .u8 23), .lit (.int .u8 21), .lit (.int .u8 19), .lit (.int .u8 16), .lit (.int .u8 7), .lit (.int .u8 26), .lit (.int .u8 12), .lit (.int .u8 18), .lit (.int .u8 6), .lit (.int .u8 11), .lit (.int .u8 5), .lit (.int .u8 10), .lit (.int .u8 9)]
def laid_math_bits_deBruijn64tab {H : Type} : DataW H := .agg [.lit (.int .u8 0), .lit (.int .u8 1), .lit (.int .u8 56), .lit (.int .u8 2), .lit (.int .u8 57), .lit (.int .u8 49), .lit (.int .u8 28), .lit (.int .u8 3), .lit (.int .u8 61), .lit (.int .u8 58), .lit (.int .u8 42), .lit (.int .u8 50), .lit (.int .u8 38), .lit (.int .u8 29), .lit (.int .u8 17), .lit (.int .u8 4), .lit (.int .u8 62), .lit (.int .u8 47), .lit (.int .u8 59), .lit (.int .u8 36), .lit (.int .u8 45), .lit (.int .u8 43), .lit (.int .u8 51), .lit (.int .u8 22), .lit (.int .u8 53), .lit (.int .u8 39), .lit (.int .u8 33), .lit (.int .u8 30), .lit (.int .u8 24), .lit (.int .u8 18), .lit (.int .u8 12), .lit (.int .u8 5), .lit (.int .u8 63), .lit (.int .u8 55), .lit (.int .u8 48), .lit (.int .u8 27), .lit (.int .u8 60), .lit (.int .u8 41), .lit (.int .u8 37), .lit (.int .u8 16), .lit (.int .u8 46), .lit (.int .u8 35), .lit (.int .u8 44), .lit (.int .u8 21), .lit (.int .u8 52), .lit (.int .u8 32), .lit (.int .u8 23), .lit (.int .u8 11), .lit (.int .u8 54), .lit (.int .u8 26), .lit (.int .u8 40), .lit (.int .u8 15), .lit (.int .u8 34), .lit (.int .u8 20), .lit (.int .u8 31), .lit (.int .u8 10), .lit (.int .u8 25), .lit (.int .u8 14), .lit (.int .u8 19), .lit (.int .u8 9), .lit (.int .u8 13), .lit (.int .u8 8), .lit (.int .u8 7), .lit (.int .u8 6)]
def laid_internal_strconv_uint64pow10 {H : Type} : DataW H := .agg [.lit (.int .u64 1), .lit (.int .u64 10), .lit (.int .u64 100), .lit (.int .u64 1000), .lit (.int .u64 10000), .lit (.int .u64 100000), .lit (.int .u64 1000000), .lit (.int .u64 10000000), .lit (.int .u64 100000000), .lit (.int .u64 1000000000), .lit (.int .u64 10000000000), .lit (.int .u64 100000000000), .lit (.int .u64 1000000000000), .lit (.int .u64 10000000000000), .lit (.int .u64 100000000000000), .lit (.int .u64 1000000000000000), .lit (.int .u64 10000000000000000), .lit (.int .u64 100000000000000000), .lit (.int .u64 1000000000000000000), .lit (.int .u64 10000000000000000000)]
def laid_unicode_utf8_acceptRanges {H : Type} : DataW H := .agg [.agg [.lit (.int .u8 128), .lit (.int .u8 191)], .agg [.lit (.int .u8 160), .lit (.int .u8 191)], .agg [.lit (.int .u8 128), .lit (.int .u8 159)], .agg [.lit (.int .u8 144), .lit (.int .u8 191)], .agg [.lit (.int .u8 128), .lit (.int .u8 143)], .agg [.lit (.int .u8 0), .lit (.int .u8 0)], .agg [.lit (.int .u8 0), .lit (.int .u8 0)], .agg [.lit (.int .u8 0), .lit (.int .u8 0)], .agg [.lit (.int .u8 0), .lit (.int .u8 0)], .agg [.lit (.int .u8 0), .lit (.int .u8 0)], .agg [.lit (.int .u8 0), .lit (.int .u8 0)], .agg [.lit (.int .u8 0), .lit (.int .u8 0)], .agg [.lit (.int .u8 0), .lit (.int .u8 0)], .agg [.lit (.int .u8 0), .lit (.int .u8 0)], .agg [.lit (.int .u8 0), .lit (.int .u8 0)], .agg [.lit (.int .u8 0), .lit (.int .u8 0)]]
def laid_spadille_stamp_sizes {H : Type} : DataW H := .agg [.lit (.int .i8 0), .lit (.int .i8 1), .lit (.int .i8 1), .lit (.int .i8 2), .lit (.int .i8 1), .lit (.int .i8 2), .lit (.int .i8 2), .lit (.int .i8 3), .lit (.int .i8 1), .lit (.int .i8 2), .lit (.int .i8 2), .lit (.int .i8 3), .lit (.int .i8 2), .lit (.int .i8 3), .lit (.int .i8 3), .lit (.int .i8 4), .lit (.int .i8 1), .lit (.int .i8 2), .lit (.int .i8 2), .lit (.int .i8 3), .lit (.int .i8 2), .lit (.int .i8 3), .lit (.int .i8 3), .lit (.int .i8 4), .lit (.int .i8 2), .lit (.int .i8 3), .lit (.int .i8 3), .lit (.int .i8 4), .lit (.int .i8 3), .lit (.int .i8 4), .lit (.int .i8 4), .lit (.int .i8 5), .lit (.int .i8 1), .lit (.int .i8 2), .lit (.int .i8 2), .lit (.int .i8 3), .lit (.int .i8 2), .lit (.int .i8 3), .lit (.int .i8 3), .lit (.int .i8 4), .lit (.int .i8 2), .lit (.int .i8 3), .lit (.int .i8 3), .lit (.int .i8 4), .lit (.int .i8 3), .lit (.int .i8 4), .lit (.int .i8 4), .lit (.int .i8 5), .lit (.int .i8 2), .lit (.int .i8 3), .lit (.int .i8 3), .lit (.int .i8 4), .lit (.int .i8 3), .lit (.int .i8 4), .lit (.int .i8 4), .lit (.int .i8 5), .lit (.int .i8 3), .lit (.int .i8 4), .lit (.int .i8 4), .lit (.int .i8 5), .lit (.int .i8 4), .lit (.int .i8 5), .lit (.int .i8 5), .lit (.int .i8 6)]
/-- One of Go's own tables, pinned by name: the form's constant. -/
def laid_unicode_utf8_first : DataW Unit := Go.Pinned.utf8First
def laid_strconv_ErrRange {H : Type} : DataW H := .iface "*errors.errorString" (.ptr (.agg [.lit (.string [118, 97, 108, 117, 101, 32, 111, 117, 116, 32, 111, 102, 32, 114, 97, 110, 103, 101])]))
def laid_strconv_ErrSyntax {H : Type} : DataW H := .iface "*errors.errorString" (.ptr (.agg [.lit (.string [105, 110, 118, 97, 108, 105, 100, 32, 115, 121, 110, 116, 97, 120])]))

/-- 'spadillelaw14.MasterLines': WHATEVER THE INPUT: true; the input reads as it did. -/
def masterLinesSpec : ChangeSpec := { name := "masterLines", fn := fun _ => fun
  | [d] => { results := [.lit (.bool true)], args := [d] }
  | _ => none }
def masterLinesRow : OpenClaim := { program := "ytgnogfjajnnaoaagreatdoor", sum := "13cd1b9be09f2196ceaa18267c22610e6d3c94c8e9b56e96a81b7fada57265b1", func := "spadille/spadillelaw14.MasterLines", spec := "masterLines", inPlace := ["internal/bytealg.CountString", "internal/bytealg.IndexByteString", "internal/bytealg.IndexString", "internal/abi.NoEscape"], unfollowed := true, recurses := true, named := ["unicode/utf8.first", "unicode/utf8.acceptRanges", "internal/bytealg.MaxLen", "spadille/stamp.sizes", "internal/strconv.uint64pow10", "math/bits.deBruijn32tab", "math/bits.deBruijn64tab"], apart := false, laid := [("math/bits.deBruijn32tab", laid_math_bits_deBruijn32tab), ("math/bits.deBruijn64tab", laid_math_bits_deBruijn64tab), ("internal/strconv.uint64pow10", laid_internal_strconv_uint64pow10), ("unicode/utf8.acceptRanges", laid_unicode_utf8_acceptRanges), ("spadille/stamp.sizes", laid_spadille_stamp_sizes), ("unicode/utf8.first", laid_unicode_utf8_first)] }
def MasterLinesSaid : Prop := masterLinesRow.holds Tryz.pinned (OpenSpec.ofChange masterLinesSpec)

/-- ITS FALSE NEIGHBOUR: 'it returns false'. Refute it at one input. -/
def masterLinesWrong : ChangeSpec := { name := "masterLines", fn := fun _ => fun
  | [d] => { results := [.lit (.bool false)], args := [d] }
  | _ => none }
def MasterLinesWrongFalsely : Prop := masterLinesRow.holds Tryz.pinned (OpenSpec.ofChange masterLinesWrong)

/-- 'spadillelaw14.MasterAsked': WHATEVER THE INPUT: true; the input reads as it did. -/
def masterAskedSpec : ChangeSpec := { name := "masterAsked", fn := fun _ => fun
  | [d1, d2, d3] => { results := [.lit (.bool true)], args := [d1, d2, d3] }
  | _ => none }
def masterAskedRow : OpenClaim := { program := "ytgnogfjajnnaoaagreatdoor", sum := "13cd1b9be09f2196ceaa18267c22610e6d3c94c8e9b56e96a81b7fada57265b1", func := "spadille/spadillelaw14.MasterAsked", spec := "masterAsked", inPlace := ["internal/bytealg.CountString", "internal/bytealg.IndexByteString", "internal/bytealg.IndexString", "internal/abi.NoEscape"], unfollowed := true, recurses := true, named := ["unicode/utf8.first", "unicode/utf8.acceptRanges", "internal/bytealg.MaxLen", "spadille/stamp.sizes", "internal/strconv.uint64pow10", "math/bits.deBruijn32tab", "math/bits.deBruijn64tab"], apart := false, laid := [("math/bits.deBruijn32tab", laid_math_bits_deBruijn32tab), ("math/bits.deBruijn64tab", laid_math_bits_deBruijn64tab), ("internal/strconv.uint64pow10", laid_internal_strconv_uint64pow10), ("unicode/utf8.acceptRanges", laid_unicode_utf8_acceptRanges), ("spadille/stamp.sizes", laid_spadille_stamp_sizes), ("unicode/utf8.first", laid_unicode_utf8_first)] }
def MasterAskedSaid : Prop := masterAskedRow.holds Tryz.pinned (OpenSpec.ofChange masterAskedSpec)

/-- ITS FALSE NEIGHBOUR: 'it returns false'. Refute it at one input. -/
def masterAskedWrong : ChangeSpec := { name := "masterAsked", fn := fun _ => fun
  | [d1, d2, d3] => { results := [.lit (.bool false)], args := [d1, d2, d3] }
  | _ => none }
def MasterAskedWrongFalsely : Prop := masterAskedRow.holds Tryz.pinned (OpenSpec.ofChange masterAskedWrong)

/-- 'spadillelaw14.MasterNone': WHATEVER THE INPUT: true; the input reads as it did. -/
def masterNoneSpec : ChangeSpec := { name := "masterNone", fn := fun _ => fun
  | [d1, d2, d3] => { results := [.lit (.bool true)], args := [d1, d2, d3] }
  | _ => none }
def masterNoneRow : OpenClaim := { program := "ytgnogfjajnnaoaagreatdoor", sum := "13cd1b9be09f2196ceaa18267c22610e6d3c94c8e9b56e96a81b7fada57265b1", func := "spadille/spadillelaw14.MasterNone", spec := "masterNone", inPlace := ["internal/bytealg.CountString", "internal/bytealg.IndexByteString", "internal/bytealg.IndexString", "internal/abi.NoEscape"], unfollowed := true, recurses := true, named := ["unicode/utf8.first", "unicode/utf8.acceptRanges", "internal/bytealg.MaxLen", "spadille/stamp.sizes", "internal/strconv.uint64pow10", "math/bits.deBruijn32tab", "math/bits.deBruijn64tab"], apart := false, laid := [("math/bits.deBruijn32tab", laid_math_bits_deBruijn32tab), ("math/bits.deBruijn64tab", laid_math_bits_deBruijn64tab), ("internal/strconv.uint64pow10", laid_internal_strconv_uint64pow10), ("unicode/utf8.acceptRanges", laid_unicode_utf8_acceptRanges), ("spadille/stamp.sizes", laid_spadille_stamp_sizes), ("unicode/utf8.first", laid_unicode_utf8_first)] }
def MasterNoneSaid : Prop := masterNoneRow.holds Tryz.pinned (OpenSpec.ofChange masterNoneSpec)

/-- ITS FALSE NEIGHBOUR: 'it returns false'. Refute it at one input. -/
def masterNoneWrong : ChangeSpec := { name := "masterNone", fn := fun _ => fun
  | [d1, d2, d3] => { results := [.lit (.bool false)], args := [d1, d2, d3] }
  | _ => none }
def MasterNoneWrongFalsely : Prop := masterNoneRow.holds Tryz.pinned (OpenSpec.ofChange masterNoneWrong)

/-- 'spadillelaw14.MasterUndone': WHATEVER THE INPUT: true; the input reads as it did. -/
def masterUndoneSpec : ChangeSpec := { name := "masterUndone", fn := fun _ => fun
  | [d1, d2] => { results := [.lit (.bool true)], args := [d1, d2] }
  | _ => none }
def masterUndoneRow : OpenClaim := { program := "ytgnogfjajnnaoaagreatdoor", sum := "13cd1b9be09f2196ceaa18267c22610e6d3c94c8e9b56e96a81b7fada57265b1", func := "spadille/spadillelaw14.MasterUndone", spec := "masterUndone", inPlace := ["internal/bytealg.CountString", "internal/bytealg.IndexByteString", "internal/bytealg.IndexString", "internal/abi.NoEscape"], unfollowed := true, recurses := true, named := ["internal/strconv.uint64pow10", "math/bits.deBruijn32tab", "math/bits.deBruijn64tab", "unicode/utf8.first", "unicode/utf8.acceptRanges", "internal/bytealg.MaxLen", "spadille/stamp.sizes"], apart := false, laid := [("math/bits.deBruijn32tab", laid_math_bits_deBruijn32tab), ("math/bits.deBruijn64tab", laid_math_bits_deBruijn64tab), ("internal/strconv.uint64pow10", laid_internal_strconv_uint64pow10), ("unicode/utf8.acceptRanges", laid_unicode_utf8_acceptRanges), ("spadille/stamp.sizes", laid_spadille_stamp_sizes), ("unicode/utf8.first", laid_unicode_utf8_first)] }
def MasterUndoneSaid : Prop := masterUndoneRow.holds Tryz.pinned (OpenSpec.ofChange masterUndoneSpec)

/-- ITS FALSE NEIGHBOUR: 'it returns false'. Refute it at one input. -/
def masterUndoneWrong : ChangeSpec := { name := "masterUndone", fn := fun _ => fun
  | [d1, d2] => { results := [.lit (.bool false)], args := [d1, d2] }
  | _ => none }
def MasterUndoneWrongFalsely : Prop := masterUndoneRow.holds Tryz.pinned (OpenSpec.ofChange masterUndoneWrong)

/-- 'spadillelaw14.MasterNames': WHATEVER THE INPUT: true; the input reads as it did. -/
def masterNamesSpec : ChangeSpec := { name := "masterNames", fn := fun _ => fun
  | [d1, d2] => { results := [.lit (.bool true)], args := [d1, d2] }
  | _ => none }
def masterNamesRow : OpenClaim := { program := "ytgnogfjajnnaoaagreatdoor", sum := "13cd1b9be09f2196ceaa18267c22610e6d3c94c8e9b56e96a81b7fada57265b1", func := "spadille/spadillelaw14.MasterNames", spec := "masterNames", inPlace := ["internal/bytealg.CountString", "internal/bytealg.IndexByteString", "internal/bytealg.IndexString", "internal/abi.NoEscape", "internal/bytealg.MakeNoZero"], unfollowed := true, recurses := true, named := ["internal/strconv.uint64pow10", "math/bits.deBruijn32tab", "math/bits.deBruijn64tab", "unicode/utf8.first", "unicode/utf8.acceptRanges", "internal/bytealg.MaxLen", "spadille/stamp.sizes"], apart := false, laid := [("math/bits.deBruijn32tab", laid_math_bits_deBruijn32tab), ("math/bits.deBruijn64tab", laid_math_bits_deBruijn64tab), ("internal/strconv.uint64pow10", laid_internal_strconv_uint64pow10), ("unicode/utf8.acceptRanges", laid_unicode_utf8_acceptRanges), ("spadille/stamp.sizes", laid_spadille_stamp_sizes), ("unicode/utf8.first", laid_unicode_utf8_first)] }
def MasterNamesSaid : Prop := masterNamesRow.holds Tryz.pinned (OpenSpec.ofChange masterNamesSpec)

/-- ITS FALSE NEIGHBOUR: 'it returns false'. Refute it at one input. -/
def masterNamesWrong : ChangeSpec := { name := "masterNames", fn := fun _ => fun
  | [d1, d2] => { results := [.lit (.bool false)], args := [d1, d2] }
  | _ => none }
def MasterNamesWrongFalsely : Prop := masterNamesRow.holds Tryz.pinned (OpenSpec.ofChange masterNamesWrong)

/-- 'spadillelaw14.MasterKnown': WHATEVER THE INPUT: true; the input reads as it did. -/
def masterKnownSpec : ChangeSpec := { name := "masterKnown", fn := fun _ => fun
  | [] => { results := [.lit (.bool true)], args := [] }
  | _ => none }
def masterKnownRow : OpenClaim := { program := "ytgnogfjajnnaoaagreatdoor", sum := "13cd1b9be09f2196ceaa18267c22610e6d3c94c8e9b56e96a81b7fada57265b1", func := "spadille/spadillelaw14.MasterKnown", spec := "masterKnown", inPlace := ["internal/bytealg.CountString", "internal/bytealg.IndexByteString", "internal/bytealg.IndexString", "internal/abi.NoEscape"], unfollowed := true, recurses := true, named := ["unicode/utf8.first", "unicode/utf8.acceptRanges", "internal/bytealg.MaxLen", "spadille/stamp.sizes", "internal/strconv.uint64pow10", "math/bits.deBruijn32tab", "math/bits.deBruijn64tab"], apart := false, laid := [("math/bits.deBruijn32tab", laid_math_bits_deBruijn32tab), ("math/bits.deBruijn64tab", laid_math_bits_deBruijn64tab), ("internal/strconv.uint64pow10", laid_internal_strconv_uint64pow10), ("unicode/utf8.acceptRanges", laid_unicode_utf8_acceptRanges), ("spadille/stamp.sizes", laid_spadille_stamp_sizes), ("unicode/utf8.first", laid_unicode_utf8_first)] }
def MasterKnownSaid : Prop := masterKnownRow.holds Tryz.pinned (OpenSpec.ofChange masterKnownSpec)

/-- ITS FALSE NEIGHBOUR: 'it returns false'. Refute it at one input. -/
def masterKnownWrong : ChangeSpec := { name := "masterKnown", fn := fun _ => fun
  | [] => { results := [.lit (.bool false)], args := [] }
  | _ => none }
def MasterKnownWrongFalsely : Prop := masterKnownRow.holds Tryz.pinned (OpenSpec.ofChange masterKnownWrong)

/-- 'spadillelaw14.MasterFiles': WHATEVER THE INPUT: true; the input reads as it did. -/
def masterFilesSpec : ChangeSpec := { name := "masterFiles", fn := fun _ => fun
  | [d] => { results := [.lit (.bool true)], args := [d] }
  | _ => none }
def masterFilesRow : OpenClaim := { program := "ytgnogfjajnnaoaagreatdoor", sum := "13cd1b9be09f2196ceaa18267c22610e6d3c94c8e9b56e96a81b7fada57265b1", func := "spadille/spadillelaw14.MasterFiles", spec := "masterFiles", inPlace := ["internal/bytealg.CountString", "internal/bytealg.IndexByteString", "internal/bytealg.IndexString", "internal/abi.NoEscape"], unfollowed := true, recurses := true, named := ["unicode/utf8.first", "unicode/utf8.acceptRanges", "internal/bytealg.MaxLen", "spadille/stamp.sizes", "internal/strconv.uint64pow10", "math/bits.deBruijn32tab", "math/bits.deBruijn64tab"], apart := false, laid := [("math/bits.deBruijn32tab", laid_math_bits_deBruijn32tab), ("math/bits.deBruijn64tab", laid_math_bits_deBruijn64tab), ("internal/strconv.uint64pow10", laid_internal_strconv_uint64pow10), ("unicode/utf8.acceptRanges", laid_unicode_utf8_acceptRanges), ("spadille/stamp.sizes", laid_spadille_stamp_sizes), ("unicode/utf8.first", laid_unicode_utf8_first)] }
def MasterFilesSaid : Prop := masterFilesRow.holds Tryz.pinned (OpenSpec.ofChange masterFilesSpec)

/-- ITS FALSE NEIGHBOUR: 'it returns false'. Refute it at one input. -/
def masterFilesWrong : ChangeSpec := { name := "masterFiles", fn := fun _ => fun
  | [d] => { results := [.lit (.bool false)], args := [d] }
  | _ => none }
def MasterFilesWrongFalsely : Prop := masterFilesRow.holds Tryz.pinned (OpenSpec.ofChange masterFilesWrong)

/-- 'spadillelaw14.MasterRead': WHATEVER THE INPUT: true; the input reads as it did. -/
def masterReadSpec : ChangeSpec := { name := "masterRead", fn := fun _ => fun
  | [d1, d2, d3, d4] => { results := [.lit (.bool true)], args := [d1, d2, d3, d4] }
  | _ => none }
def masterReadRow : OpenClaim := { program := "ytgnogfjajnnaoaagreatdoor", sum := "13cd1b9be09f2196ceaa18267c22610e6d3c94c8e9b56e96a81b7fada57265b1", func := "spadille/spadillelaw14.MasterRead", spec := "masterRead", inPlace := ["internal/bytealg.CountString", "internal/bytealg.IndexByteString", "internal/bytealg.IndexString", "internal/abi.NoEscape"], unfollowed := true, recurses := true, named := ["internal/strconv.uint64pow10", "math/bits.deBruijn32tab", "math/bits.deBruijn64tab", "unicode/utf8.first", "unicode/utf8.acceptRanges", "internal/bytealg.MaxLen", "spadille/stamp.sizes"], apart := false, laid := [("math/bits.deBruijn32tab", laid_math_bits_deBruijn32tab), ("math/bits.deBruijn64tab", laid_math_bits_deBruijn64tab), ("internal/strconv.uint64pow10", laid_internal_strconv_uint64pow10), ("unicode/utf8.acceptRanges", laid_unicode_utf8_acceptRanges), ("spadille/stamp.sizes", laid_spadille_stamp_sizes), ("unicode/utf8.first", laid_unicode_utf8_first)] }
def MasterReadSaid : Prop := masterReadRow.holds Tryz.pinned (OpenSpec.ofChange masterReadSpec)

/-- ITS FALSE NEIGHBOUR: 'it returns false'. Refute it at one input. -/
def masterReadWrong : ChangeSpec := { name := "masterRead", fn := fun _ => fun
  | [d1, d2, d3, d4] => { results := [.lit (.bool false)], args := [d1, d2, d3, d4] }
  | _ => none }
def MasterReadWrongFalsely : Prop := masterReadRow.holds Tryz.pinned (OpenSpec.ofChange masterReadWrong)

/-- 'spadillelaw14.MasterPaid': WHATEVER THE INPUT: true; the input reads as it did. -/
def masterPaidSpec : ChangeSpec := { name := "masterPaid", fn := fun _ => fun
  | [d1, d2] => { results := [.lit (.bool true)], args := [d1, d2] }
  | _ => none }
def masterPaidRow : OpenClaim := { program := "ytgnogfjajnnaoaagreatdoor", sum := "13cd1b9be09f2196ceaa18267c22610e6d3c94c8e9b56e96a81b7fada57265b1", func := "spadille/spadillelaw14.MasterPaid", spec := "masterPaid", inPlace := ["internal/bytealg.CountString", "internal/bytealg.IndexByteString", "internal/bytealg.IndexString", "internal/abi.NoEscape"], unfollowed := true, recurses := true, named := ["internal/strconv.uint64pow10", "math/bits.deBruijn32tab", "math/bits.deBruijn64tab", "unicode/utf8.first", "unicode/utf8.acceptRanges", "internal/bytealg.MaxLen", "strconv.ErrSyntax", "strconv.ErrRange", "spadille/stamp.sizes"], apart := false, laid := [("math/bits.deBruijn32tab", laid_math_bits_deBruijn32tab), ("math/bits.deBruijn64tab", laid_math_bits_deBruijn64tab), ("internal/strconv.uint64pow10", laid_internal_strconv_uint64pow10), ("unicode/utf8.acceptRanges", laid_unicode_utf8_acceptRanges), ("spadille/stamp.sizes", laid_spadille_stamp_sizes), ("strconv.ErrRange", laid_strconv_ErrRange), ("strconv.ErrSyntax", laid_strconv_ErrSyntax), ("unicode/utf8.first", laid_unicode_utf8_first)] }
def MasterPaidSaid : Prop := masterPaidRow.holds Tryz.pinned (OpenSpec.ofChange masterPaidSpec)

/-- ITS FALSE NEIGHBOUR: 'it returns false'. Refute it at one input. -/
def masterPaidWrong : ChangeSpec := { name := "masterPaid", fn := fun _ => fun
  | [d1, d2] => { results := [.lit (.bool false)], args := [d1, d2] }
  | _ => none }
def MasterPaidWrongFalsely : Prop := masterPaidRow.holds Tryz.pinned (OpenSpec.ofChange masterPaidWrong)

/-- 'spadillelaw14.MasterPacks': WHATEVER THE INPUT: true; the input reads as it did. -/
def masterPacksSpec : ChangeSpec := { name := "masterPacks", fn := fun _ => fun
  | [d] => { results := [.lit (.bool true)], args := [d] }
  | _ => none }
def masterPacksRow : OpenClaim := { program := "ytgnogfjajnnaoaagreatdoor", sum := "13cd1b9be09f2196ceaa18267c22610e6d3c94c8e9b56e96a81b7fada57265b1", func := "spadille/spadillelaw14.MasterPacks", spec := "masterPacks", inPlace := ["internal/bytealg.CountString", "internal/bytealg.IndexByteString", "internal/bytealg.IndexString", "internal/abi.NoEscape"], unfollowed := true, recurses := true, named := ["internal/strconv.uint64pow10", "math/bits.deBruijn32tab", "math/bits.deBruijn64tab", "unicode/utf8.first", "unicode/utf8.acceptRanges", "internal/bytealg.MaxLen", "strconv.ErrSyntax", "strconv.ErrRange", "spadille/stamp.sizes"], apart := false, laid := [("math/bits.deBruijn32tab", laid_math_bits_deBruijn32tab), ("math/bits.deBruijn64tab", laid_math_bits_deBruijn64tab), ("internal/strconv.uint64pow10", laid_internal_strconv_uint64pow10), ("unicode/utf8.acceptRanges", laid_unicode_utf8_acceptRanges), ("spadille/stamp.sizes", laid_spadille_stamp_sizes), ("strconv.ErrRange", laid_strconv_ErrRange), ("strconv.ErrSyntax", laid_strconv_ErrSyntax), ("unicode/utf8.first", laid_unicode_utf8_first)] }
def MasterPacksSaid : Prop := masterPacksRow.holds Tryz.pinned (OpenSpec.ofChange masterPacksSpec)

/-- ITS FALSE NEIGHBOUR: 'it returns false'. Refute it at one input. -/
def masterPacksWrong : ChangeSpec := { name := "masterPacks", fn := fun _ => fun
  | [d] => { results := [.lit (.bool false)], args := [d] }
  | _ => none }
def MasterPacksWrongFalsely : Prop := masterPacksRow.holds Tryz.pinned (OpenSpec.ofChange masterPacksWrong)

/-- 'spadillelaw14.MasterMore': WHATEVER THE INPUT: true; the input reads as it did. -/
def masterMoreSpec : ChangeSpec := { name := "masterMore", fn := fun _ => fun
  | [d1, d2] => { results := [.lit (.bool true)], args := [d1, d2] }
  | _ => none }
def masterMoreRow : OpenClaim := { program := "ytgnogfjajnnaoaagreatdoor", sum := "13cd1b9be09f2196ceaa18267c22610e6d3c94c8e9b56e96a81b7fada57265b1", func := "spadille/spadillelaw14.MasterMore", spec := "masterMore", inPlace := ["internal/bytealg.CountString", "internal/bytealg.IndexByteString", "internal/bytealg.IndexString", "internal/abi.NoEscape"], unfollowed := true, recurses := true, named := ["internal/strconv.uint64pow10", "math/bits.deBruijn32tab", "math/bits.deBruijn64tab", "unicode/utf8.first", "unicode/utf8.acceptRanges", "internal/bytealg.MaxLen", "spadille/stamp.sizes", "strconv.ErrSyntax", "strconv.ErrRange"], apart := false, laid := [("math/bits.deBruijn32tab", laid_math_bits_deBruijn32tab), ("math/bits.deBruijn64tab", laid_math_bits_deBruijn64tab), ("internal/strconv.uint64pow10", laid_internal_strconv_uint64pow10), ("unicode/utf8.acceptRanges", laid_unicode_utf8_acceptRanges), ("spadille/stamp.sizes", laid_spadille_stamp_sizes), ("strconv.ErrRange", laid_strconv_ErrRange), ("strconv.ErrSyntax", laid_strconv_ErrSyntax), ("unicode/utf8.first", laid_unicode_utf8_first)] }
def MasterMoreSaid : Prop := masterMoreRow.holds Tryz.pinned (OpenSpec.ofChange masterMoreSpec)

/-- ITS FALSE NEIGHBOUR: 'it returns false'. Refute it at one input. -/
def masterMoreWrong : ChangeSpec := { name := "masterMore", fn := fun _ => fun
  | [d1, d2] => { results := [.lit (.bool false)], args := [d1, d2] }
  | _ => none }
def MasterMoreWrongFalsely : Prop := masterMoreRow.holds Tryz.pinned (OpenSpec.ofChange masterMoreWrong)

/-- 'spadillelaw14.MasterClaims': WHATEVER THE INPUT: true; the input reads as it did. -/
def masterClaimsSpec : ChangeSpec := { name := "masterClaims", fn := fun _ => fun
  | [d1, d2, d3] => { results := [.lit (.bool true)], args := [d1, d2, d3] }
  | _ => none }
def masterClaimsRow : OpenClaim := { program := "ytgnogfjajnnaoaagreatdoor", sum := "13cd1b9be09f2196ceaa18267c22610e6d3c94c8e9b56e96a81b7fada57265b1", func := "spadille/spadillelaw14.MasterClaims", spec := "masterClaims", inPlace := ["internal/bytealg.CountString", "internal/bytealg.IndexByteString", "internal/bytealg.IndexString", "internal/abi.NoEscape"], unfollowed := true, recurses := true, named := ["internal/strconv.uint64pow10", "math/bits.deBruijn32tab", "math/bits.deBruijn64tab", "unicode/utf8.first", "unicode/utf8.acceptRanges", "internal/bytealg.MaxLen", "strconv.ErrSyntax", "strconv.ErrRange", "spadille/stamp.sizes"], apart := false, laid := [("math/bits.deBruijn32tab", laid_math_bits_deBruijn32tab), ("math/bits.deBruijn64tab", laid_math_bits_deBruijn64tab), ("internal/strconv.uint64pow10", laid_internal_strconv_uint64pow10), ("unicode/utf8.acceptRanges", laid_unicode_utf8_acceptRanges), ("spadille/stamp.sizes", laid_spadille_stamp_sizes), ("strconv.ErrRange", laid_strconv_ErrRange), ("strconv.ErrSyntax", laid_strconv_ErrSyntax), ("unicode/utf8.first", laid_unicode_utf8_first)] }
def MasterClaimsSaid : Prop := masterClaimsRow.holds Tryz.pinned (OpenSpec.ofChange masterClaimsSpec)

/-- ITS FALSE NEIGHBOUR: 'it returns false'. Refute it at one input. -/
def masterClaimsWrong : ChangeSpec := { name := "masterClaims", fn := fun _ => fun
  | [d1, d2, d3] => { results := [.lit (.bool false)], args := [d1, d2, d3] }
  | _ => none }
def MasterClaimsWrongFalsely : Prop := masterClaimsRow.holds Tryz.pinned (OpenSpec.ofChange masterClaimsWrong)

/- THE SECOND FORM. 'bulk': how many values and letters a reading holds, each counted each time it is reached (what is shared counts as often as it is met; a slice's spare places count too). A statement '..UptoSaid' is the law's where the arguments, and the package variables that the reading takes, are together of bulk at most 1048576: NARROWER than '..Said'. Prove '..Said' where nothing that the law and all that it calls make is longer than what came in: it says more and counts as full. Else prove '..UptoSaid'. A law counts once. -/
mutual
def uptoBulk {H : Type} : DataW H → Nat
  | .lit (.string bytes) => bytes.length + 1
  | .lit _ => 1
  | .nil => 1
  | .ptr d => uptoBulk d + 1
  | .slice elems spare => uptoBulkAll elems + uptoBulkAll spare + 1
  | .agg parts => uptoBulkAll parts + 1
  | .iface _ d => uptoBulk d + 1
  | .map entries => uptoBulkEntries entries + 1
  | .held _ => 1
def uptoBulkAll {H : Type} : List (DataW H) → Nat
  | [] => 0
  | d :: r => uptoBulk d + uptoBulkAll r
def uptoBulkEntries {H : Type} : List (Lit × DataW H) → Nat
  | [] => 0
  | x :: r => uptoBulkEntry x + uptoBulkEntries r
def uptoBulkEntry {H : Type} : Lit × DataW H → Nat
  | (.string bytes, d) => bytes.length + uptoBulk d + 1
  | (_, d) => uptoBulk d + 1
 end
def uptoSmall : (H : Type) → List (DataW H) → Bool := fun _ ds => decide (uptoBulkAll ds ≤ 1048576)
def OpenSpec.upto (s : _root_.Go.ChangeSpec) : _root_.Go.OpenSpec := { _root_.Go.OpenSpec.ofChange s with cond := some uptoSmall }

/-- 'spadillelaw14.MasterLines', WHERE WHAT IT READS IS OF BULK AT MOST 1048576: true; the input reads as it did. -/
def masterLinesUptoRow : OpenClaim := { program := "ytgnogfjajnnaoaagreatdoor", sum := "13cd1b9be09f2196ceaa18267c22610e6d3c94c8e9b56e96a81b7fada57265b1", func := "spadille/spadillelaw14.MasterLines", spec := "masterLines", inPlace := ["internal/bytealg.CountString", "internal/bytealg.IndexByteString", "internal/bytealg.IndexString", "internal/abi.NoEscape"], unfollowed := true, recurses := true, named := ["unicode/utf8.first", "unicode/utf8.acceptRanges", "internal/bytealg.MaxLen", "spadille/stamp.sizes", "internal/strconv.uint64pow10", "math/bits.deBruijn32tab", "math/bits.deBruijn64tab"], apart := false, laid := [("math/bits.deBruijn32tab", laid_math_bits_deBruijn32tab), ("math/bits.deBruijn64tab", laid_math_bits_deBruijn64tab), ("internal/strconv.uint64pow10", laid_internal_strconv_uint64pow10), ("unicode/utf8.acceptRanges", laid_unicode_utf8_acceptRanges), ("spadille/stamp.sizes", laid_spadille_stamp_sizes), ("unicode/utf8.first", laid_unicode_utf8_first)], narrowed := true }
def MasterLinesUptoSaid : Prop := masterLinesUptoRow.holds Tryz.pinned (OpenSpec.upto masterLinesSpec)

/-- 'spadillelaw14.MasterAsked', WHERE WHAT IT READS IS OF BULK AT MOST 1048576: true; the input reads as it did. -/
def masterAskedUptoRow : OpenClaim := { program := "ytgnogfjajnnaoaagreatdoor", sum := "13cd1b9be09f2196ceaa18267c22610e6d3c94c8e9b56e96a81b7fada57265b1", func := "spadille/spadillelaw14.MasterAsked", spec := "masterAsked", inPlace := ["internal/bytealg.CountString", "internal/bytealg.IndexByteString", "internal/bytealg.IndexString", "internal/abi.NoEscape"], unfollowed := true, recurses := true, named := ["unicode/utf8.first", "unicode/utf8.acceptRanges", "internal/bytealg.MaxLen", "spadille/stamp.sizes", "internal/strconv.uint64pow10", "math/bits.deBruijn32tab", "math/bits.deBruijn64tab"], apart := false, laid := [("math/bits.deBruijn32tab", laid_math_bits_deBruijn32tab), ("math/bits.deBruijn64tab", laid_math_bits_deBruijn64tab), ("internal/strconv.uint64pow10", laid_internal_strconv_uint64pow10), ("unicode/utf8.acceptRanges", laid_unicode_utf8_acceptRanges), ("spadille/stamp.sizes", laid_spadille_stamp_sizes), ("unicode/utf8.first", laid_unicode_utf8_first)], narrowed := true }
def MasterAskedUptoSaid : Prop := masterAskedUptoRow.holds Tryz.pinned (OpenSpec.upto masterAskedSpec)

/-- 'spadillelaw14.MasterNone', WHERE WHAT IT READS IS OF BULK AT MOST 1048576: true; the input reads as it did. -/
def masterNoneUptoRow : OpenClaim := { program := "ytgnogfjajnnaoaagreatdoor", sum := "13cd1b9be09f2196ceaa18267c22610e6d3c94c8e9b56e96a81b7fada57265b1", func := "spadille/spadillelaw14.MasterNone", spec := "masterNone", inPlace := ["internal/bytealg.CountString", "internal/bytealg.IndexByteString", "internal/bytealg.IndexString", "internal/abi.NoEscape"], unfollowed := true, recurses := true, named := ["unicode/utf8.first", "unicode/utf8.acceptRanges", "internal/bytealg.MaxLen", "spadille/stamp.sizes", "internal/strconv.uint64pow10", "math/bits.deBruijn32tab", "math/bits.deBruijn64tab"], apart := false, laid := [("math/bits.deBruijn32tab", laid_math_bits_deBruijn32tab), ("math/bits.deBruijn64tab", laid_math_bits_deBruijn64tab), ("internal/strconv.uint64pow10", laid_internal_strconv_uint64pow10), ("unicode/utf8.acceptRanges", laid_unicode_utf8_acceptRanges), ("spadille/stamp.sizes", laid_spadille_stamp_sizes), ("unicode/utf8.first", laid_unicode_utf8_first)], narrowed := true }
def MasterNoneUptoSaid : Prop := masterNoneUptoRow.holds Tryz.pinned (OpenSpec.upto masterNoneSpec)

/-- 'spadillelaw14.MasterUndone', WHERE WHAT IT READS IS OF BULK AT MOST 1048576: true; the input reads as it did. -/
def masterUndoneUptoRow : OpenClaim := { program := "ytgnogfjajnnaoaagreatdoor", sum := "13cd1b9be09f2196ceaa18267c22610e6d3c94c8e9b56e96a81b7fada57265b1", func := "spadille/spadillelaw14.MasterUndone", spec := "masterUndone", inPlace := ["internal/bytealg.CountString", "internal/bytealg.IndexByteString", "internal/bytealg.IndexString", "internal/abi.NoEscape"], unfollowed := true, recurses := true, named := ["internal/strconv.uint64pow10", "math/bits.deBruijn32tab", "math/bits.deBruijn64tab", "unicode/utf8.first", "unicode/utf8.acceptRanges", "internal/bytealg.MaxLen", "spadille/stamp.sizes"], apart := false, laid := [("math/bits.deBruijn32tab", laid_math_bits_deBruijn32tab), ("math/bits.deBruijn64tab", laid_math_bits_deBruijn64tab), ("internal/strconv.uint64pow10", laid_internal_strconv_uint64pow10), ("unicode/utf8.acceptRanges", laid_unicode_utf8_acceptRanges), ("spadille/stamp.sizes", laid_spadille_stamp_sizes), ("unicode/utf8.first", laid_unicode_utf8_first)], narrowed := true }
def MasterUndoneUptoSaid : Prop := masterUndoneUptoRow.holds Tryz.pinned (OpenSpec.upto masterUndoneSpec)

/-- 'spadillelaw14.MasterNames', WHERE WHAT IT READS IS OF BULK AT MOST 1048576: true; the input reads as it did. -/
def masterNamesUptoRow : OpenClaim := { program := "ytgnogfjajnnaoaagreatdoor", sum := "13cd1b9be09f2196ceaa18267c22610e6d3c94c8e9b56e96a81b7fada57265b1", func := "spadille/spadillelaw14.MasterNames", spec := "masterNames", inPlace := ["internal/bytealg.CountString", "internal/bytealg.IndexByteString", "internal/bytealg.IndexString", "internal/abi.NoEscape", "internal/bytealg.MakeNoZero"], unfollowed := true, recurses := true, named := ["internal/strconv.uint64pow10", "math/bits.deBruijn32tab", "math/bits.deBruijn64tab", "unicode/utf8.first", "unicode/utf8.acceptRanges", "internal/bytealg.MaxLen", "spadille/stamp.sizes"], apart := false, laid := [("math/bits.deBruijn32tab", laid_math_bits_deBruijn32tab), ("math/bits.deBruijn64tab", laid_math_bits_deBruijn64tab), ("internal/strconv.uint64pow10", laid_internal_strconv_uint64pow10), ("unicode/utf8.acceptRanges", laid_unicode_utf8_acceptRanges), ("spadille/stamp.sizes", laid_spadille_stamp_sizes), ("unicode/utf8.first", laid_unicode_utf8_first)], narrowed := true }
def MasterNamesUptoSaid : Prop := masterNamesUptoRow.holds Tryz.pinned (OpenSpec.upto masterNamesSpec)

/-- 'spadillelaw14.MasterKnown', WHERE WHAT IT READS IS OF BULK AT MOST 1048576: true; the input reads as it did. -/
def masterKnownUptoRow : OpenClaim := { program := "ytgnogfjajnnaoaagreatdoor", sum := "13cd1b9be09f2196ceaa18267c22610e6d3c94c8e9b56e96a81b7fada57265b1", func := "spadille/spadillelaw14.MasterKnown", spec := "masterKnown", inPlace := ["internal/bytealg.CountString", "internal/bytealg.IndexByteString", "internal/bytealg.IndexString", "internal/abi.NoEscape"], unfollowed := true, recurses := true, named := ["unicode/utf8.first", "unicode/utf8.acceptRanges", "internal/bytealg.MaxLen", "spadille/stamp.sizes", "internal/strconv.uint64pow10", "math/bits.deBruijn32tab", "math/bits.deBruijn64tab"], apart := false, laid := [("math/bits.deBruijn32tab", laid_math_bits_deBruijn32tab), ("math/bits.deBruijn64tab", laid_math_bits_deBruijn64tab), ("internal/strconv.uint64pow10", laid_internal_strconv_uint64pow10), ("unicode/utf8.acceptRanges", laid_unicode_utf8_acceptRanges), ("spadille/stamp.sizes", laid_spadille_stamp_sizes), ("unicode/utf8.first", laid_unicode_utf8_first)], narrowed := true }
def MasterKnownUptoSaid : Prop := masterKnownUptoRow.holds Tryz.pinned (OpenSpec.upto masterKnownSpec)

/-- 'spadillelaw14.MasterFiles', WHERE WHAT IT READS IS OF BULK AT MOST 1048576: true; the input reads as it did. -/
def masterFilesUptoRow : OpenClaim := { program := "ytgnogfjajnnaoaagreatdoor", sum := "13cd1b9be09f2196ceaa18267c22610e6d3c94c8e9b56e96a81b7fada57265b1", func := "spadille/spadillelaw14.MasterFiles", spec := "masterFiles", inPlace := ["internal/bytealg.CountString", "internal/bytealg.IndexByteString", "internal/bytealg.IndexString", "internal/abi.NoEscape"], unfollowed := true, recurses := true, named := ["unicode/utf8.first", "unicode/utf8.acceptRanges", "internal/bytealg.MaxLen", "spadille/stamp.sizes", "internal/strconv.uint64pow10", "math/bits.deBruijn32tab", "math/bits.deBruijn64tab"], apart := false, laid := [("math/bits.deBruijn32tab", laid_math_bits_deBruijn32tab), ("math/bits.deBruijn64tab", laid_math_bits_deBruijn64tab), ("internal/strconv.uint64pow10", laid_internal_strconv_uint64pow10), ("unicode/utf8.acceptRanges", laid_unicode_utf8_acceptRanges), ("spadille/stamp.sizes", laid_spadille_stamp_sizes), ("unicode/utf8.first", laid_unicode_utf8_first)], narrowed := true }
def MasterFilesUptoSaid : Prop := masterFilesUptoRow.holds Tryz.pinned (OpenSpec.upto masterFilesSpec)

/-- 'spadillelaw14.MasterRead', WHERE WHAT IT READS IS OF BULK AT MOST 1048576: true; the input reads as it did. -/
def masterReadUptoRow : OpenClaim := { program := "ytgnogfjajnnaoaagreatdoor", sum := "13cd1b9be09f2196ceaa18267c22610e6d3c94c8e9b56e96a81b7fada57265b1", func := "spadille/spadillelaw14.MasterRead", spec := "masterRead", inPlace := ["internal/bytealg.CountString", "internal/bytealg.IndexByteString", "internal/bytealg.IndexString", "internal/abi.NoEscape"], unfollowed := true, recurses := true, named := ["internal/strconv.uint64pow10", "math/bits.deBruijn32tab", "math/bits.deBruijn64tab", "unicode/utf8.first", "unicode/utf8.acceptRanges", "internal/bytealg.MaxLen", "spadille/stamp.sizes"], apart := false, laid := [("math/bits.deBruijn32tab", laid_math_bits_deBruijn32tab), ("math/bits.deBruijn64tab", laid_math_bits_deBruijn64tab), ("internal/strconv.uint64pow10", laid_internal_strconv_uint64pow10), ("unicode/utf8.acceptRanges", laid_unicode_utf8_acceptRanges), ("spadille/stamp.sizes", laid_spadille_stamp_sizes), ("unicode/utf8.first", laid_unicode_utf8_first)], narrowed := true }
def MasterReadUptoSaid : Prop := masterReadUptoRow.holds Tryz.pinned (OpenSpec.upto masterReadSpec)

/-- 'spadillelaw14.MasterPaid', WHERE WHAT IT READS IS OF BULK AT MOST 1048576: true; the input reads as it did. -/
def masterPaidUptoRow : OpenClaim := { program := "ytgnogfjajnnaoaagreatdoor", sum := "13cd1b9be09f2196ceaa18267c22610e6d3c94c8e9b56e96a81b7fada57265b1", func := "spadille/spadillelaw14.MasterPaid", spec := "masterPaid", inPlace := ["internal/bytealg.CountString", "internal/bytealg.IndexByteString", "internal/bytealg.IndexString", "internal/abi.NoEscape"], unfollowed := true, recurses := true, named := ["internal/strconv.uint64pow10", "math/bits.deBruijn32tab", "math/bits.deBruijn64tab", "unicode/utf8.first", "unicode/utf8.acceptRanges", "internal/bytealg.MaxLen", "strconv.ErrSyntax", "strconv.ErrRange", "spadille/stamp.sizes"], apart := false, laid := [("math/bits.deBruijn32tab", laid_math_bits_deBruijn32tab), ("math/bits.deBruijn64tab", laid_math_bits_deBruijn64tab), ("internal/strconv.uint64pow10", laid_internal_strconv_uint64pow10), ("unicode/utf8.acceptRanges", laid_unicode_utf8_acceptRanges), ("spadille/stamp.sizes", laid_spadille_stamp_sizes), ("strconv.ErrRange", laid_strconv_ErrRange), ("strconv.ErrSyntax", laid_strconv_ErrSyntax), ("unicode/utf8.first", laid_unicode_utf8_first)], narrowed := true }
def MasterPaidUptoSaid : Prop := masterPaidUptoRow.holds Tryz.pinned (OpenSpec.upto masterPaidSpec)

/-- 'spadillelaw14.MasterPacks', WHERE WHAT IT READS IS OF BULK AT MOST 1048576: true; the input reads as it did. -/
def masterPacksUptoRow : OpenClaim := { program := "ytgnogfjajnnaoaagreatdoor", sum := "13cd1b9be09f2196ceaa18267c22610e6d3c94c8e9b56e96a81b7fada57265b1", func := "spadille/spadillelaw14.MasterPacks", spec := "masterPacks", inPlace := ["internal/bytealg.CountString", "internal/bytealg.IndexByteString", "internal/bytealg.IndexString", "internal/abi.NoEscape"], unfollowed := true, recurses := true, named := ["internal/strconv.uint64pow10", "math/bits.deBruijn32tab", "math/bits.deBruijn64tab", "unicode/utf8.first", "unicode/utf8.acceptRanges", "internal/bytealg.MaxLen", "strconv.ErrSyntax", "strconv.ErrRange", "spadille/stamp.sizes"], apart := false, laid := [("math/bits.deBruijn32tab", laid_math_bits_deBruijn32tab), ("math/bits.deBruijn64tab", laid_math_bits_deBruijn64tab), ("internal/strconv.uint64pow10", laid_internal_strconv_uint64pow10), ("unicode/utf8.acceptRanges", laid_unicode_utf8_acceptRanges), ("spadille/stamp.sizes", laid_spadille_stamp_sizes), ("strconv.ErrRange", laid_strconv_ErrRange), ("strconv.ErrSyntax", laid_strconv_ErrSyntax), ("unicode/utf8.first", laid_unicode_utf8_first)], narrowed := true }
def MasterPacksUptoSaid : Prop := masterPacksUptoRow.holds Tryz.pinned (OpenSpec.upto masterPacksSpec)

/-- 'spadillelaw14.MasterMore', WHERE WHAT IT READS IS OF BULK AT MOST 1048576: true; the input reads as it did. -/
def masterMoreUptoRow : OpenClaim := { program := "ytgnogfjajnnaoaagreatdoor", sum := "13cd1b9be09f2196ceaa18267c22610e6d3c94c8e9b56e96a81b7fada57265b1", func := "spadille/spadillelaw14.MasterMore", spec := "masterMore", inPlace := ["internal/bytealg.CountString", "internal/bytealg.IndexByteString", "internal/bytealg.IndexString", "internal/abi.NoEscape"], unfollowed := true, recurses := true, named := ["internal/strconv.uint64pow10", "math/bits.deBruijn32tab", "math/bits.deBruijn64tab", "unicode/utf8.first", "unicode/utf8.acceptRanges", "internal/bytealg.MaxLen", "spadille/stamp.sizes", "strconv.ErrSyntax", "strconv.ErrRange"], apart := false, laid := [("math/bits.deBruijn32tab", laid_math_bits_deBruijn32tab), ("math/bits.deBruijn64tab", laid_math_bits_deBruijn64tab), ("internal/strconv.uint64pow10", laid_internal_strconv_uint64pow10), ("unicode/utf8.acceptRanges", laid_unicode_utf8_acceptRanges), ("spadille/stamp.sizes", laid_spadille_stamp_sizes), ("strconv.ErrRange", laid_strconv_ErrRange), ("strconv.ErrSyntax", laid_strconv_ErrSyntax), ("unicode/utf8.first", laid_unicode_utf8_first)], narrowed := true }
def MasterMoreUptoSaid : Prop := masterMoreUptoRow.holds Tryz.pinned (OpenSpec.upto masterMoreSpec)

/-- 'spadillelaw14.MasterClaims', WHERE WHAT IT READS IS OF BULK AT MOST 1048576: true; the input reads as it did. -/
def masterClaimsUptoRow : OpenClaim := { program := "ytgnogfjajnnaoaagreatdoor", sum := "13cd1b9be09f2196ceaa18267c22610e6d3c94c8e9b56e96a81b7fada57265b1", func := "spadille/spadillelaw14.MasterClaims", spec := "masterClaims", inPlace := ["internal/bytealg.CountString", "internal/bytealg.IndexByteString", "internal/bytealg.IndexString", "internal/abi.NoEscape"], unfollowed := true, recurses := true, named := ["internal/strconv.uint64pow10", "math/bits.deBruijn32tab", "math/bits.deBruijn64tab", "unicode/utf8.first", "unicode/utf8.acceptRanges", "internal/bytealg.MaxLen", "strconv.ErrSyntax", "strconv.ErrRange", "spadille/stamp.sizes"], apart := false, laid := [("math/bits.deBruijn32tab", laid_math_bits_deBruijn32tab), ("math/bits.deBruijn64tab", laid_math_bits_deBruijn64tab), ("internal/strconv.uint64pow10", laid_internal_strconv_uint64pow10), ("unicode/utf8.acceptRanges", laid_unicode_utf8_acceptRanges), ("spadille/stamp.sizes", laid_spadille_stamp_sizes), ("strconv.ErrRange", laid_strconv_ErrRange), ("strconv.ErrSyntax", laid_strconv_ErrSyntax), ("unicode/utf8.first", laid_unicode_utf8_first)], narrowed := true }
def MasterClaimsUptoSaid : Prop := masterClaimsUptoRow.holds Tryz.pinned (OpenSpec.upto masterClaimsSpec)

end Rows
end Go.Proofs.YtgnogfjajnnaoaaGreatDoor
