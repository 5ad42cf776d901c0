/-
  NARROWER THAN 'FOR EVERY INPUT', by the rows' own cells (each row's printed sentence says how): StampFlows: laid · StampOther: laid · StampAgainst: laid · StampSpans: laid · StampBounds: laid · StampHoffman: laid · StampTrue: laid · StampSaid: laid · StampNext: laid · StampMore: laid · StampTurned: laid · StampKnown: laid.
  DERIVED. THE GIVEN ROWS OF THIS SEAT. 12 by the template 'for every input the law returns true; each argument reads behind the call as it read before'; 0 by the template 'total and deterministic' (their statements: YtildfacbjdhbnaaDoorTotals.lean).
  GIVEN WITH THE SEED: the statements are not yours to turn. If you find one false, say at which input.
  Laid BY PROGRAM, IN A SANDBOX (cutbox-rows.mjs): the forced cells as the released guide's own fill.sh prints them over the translation 7a0021002cfe88b6… (all of the seat's roots in one cut). By AI agents, Wed Nov 11 2026. No macro, syntax, notation, axiom, sorry.
-/
import Derived.Test.YtildfacbjdhbnaaDoorChecked
import GoSem.Claim
import GoSem.ClaimJoined
import GoSem.ClaimMapViews
import Derived.JoinedTies
import Derived.KernelRfl
namespace Go.Proofs.YtildfacbjdhbnaaDoor
/- THE CELL 'sum', in the pinned program and in every row, IS THE sha256 OF THE DUMP (.gsa) THAT YtildfacbjdhbnaaDoorProg.lean LOADS. Nothing in Lean hashes anything: it is a label: what it is worth is what the hold of that sum in a sandbox is worth. -/
noncomputable def Tryd.pinned : Pinned := { name := "ytildfacbjdhbnaadoor", sum := "7a0021002cfe88b6f0fa5b084d4f025a2c702072ecf32f05040570f02acf9ff4", checked := Tryd.checked }
namespace Rows
def none {H : Type} : Left H := { results := [], args := [] }

/- WHAT THE LISTED PACKAGE-LEVEL VARIABLES READ AS WHEN THE CALL BEGINS. Each datum BY PROGRAM (the guide's laid-datum.mjs) off the statement by which the dump's own 'gosem.cut.vars' lays the variable. In a bare row this is a premise. The card (YtildfacbjdhbnaaDoorCards.lean) ties it to the program's text. -/
def laid_spadille_stamp_sizes {H : Type} : DataW H := .agg [.lit (.int .i8 0), .lit (.int .i8 1), .lit (.int .i8 1), .lit (.int .i8 2), .lit (.int .i8 1), .lit (.int .i8 2), .lit (.int .i8 2), .lit (.int .i8 3), .lit (.int .i8 1), .lit (.int .i8 2), .lit (.int .i8 2), .lit (.int .i8 3), .lit (.int .i8 2), .lit (.int .i8 3), .lit (.int .i8 3), .lit (.int .i8 4), .lit (.int .i8 1), .lit (.int .i8 2), .lit (.int .i8 2), .lit (.int .i8 3), .lit (.int .i8 2), .lit (.int .i8 3), .lit (.int .i8 3), .lit (.int .i8 4), .lit (.int .i8 2), .lit (.int .i8 3), .lit (.int .i8 3), .lit (.int .i8 4), .lit (.int .i8 3), .lit (.int .i8 4), .lit (.int .i8 4), .lit (.int .i8 5), .lit (.int .i8 1), .lit (.int .i8 2), .lit (.int .i8 2), .lit (.int .i8 3), .lit (.int .i8 2), .lit (.int .i8 3), .lit (.int .i8 3), .lit (.int .i8 4), .lit (.int .i8 2), .lit (.int .i8 3), .lit (.int .i8 3), .lit (.int .i8 4), .lit (.int .i8 3), .lit (.int .i8 4), .lit (.int .i8 4), .lit (.int .i8 5), .lit (.int .i8 2), .lit (.int .i8 3), .lit (.int .i8 3), .lit (.int .i8 4), .lit (.int .i8 3), .lit (.int .i8 4), .lit (.int .i8 4), .lit (.int .i8 5), .lit (.int .i8 3), .lit (.int .i8 4), .lit (.int .i8 4), .lit (.int .i8 5), .lit (.int .i8 4), .lit (.int .i8 5), .lit (.int .i8 5), .lit (.int .i8 6)]

/-- 'spadillelaw01.StampFlows': WHATEVER THE INPUT: true; the input reads as it did. -/
def stampFlowsSpec : ChangeSpec := { name := "stampFlows", fn := fun _ => fun
  | [d1, d2] => { results := [.lit (.bool true)], args := [d1, d2] }
  | _ => none }
def stampFlowsRow : OpenClaim := { program := "ytildfacbjdhbnaadoor", sum := "7a0021002cfe88b6f0fa5b084d4f025a2c702072ecf32f05040570f02acf9ff4", func := "spadille/spadillelaw01.StampFlows", spec := "stampFlows", unfollowed := true, recurses := true, named := ["spadille/stamp.sizes"], apart := false, laid := [("spadille/stamp.sizes", laid_spadille_stamp_sizes)] }
def StampFlowsSaid : Prop := stampFlowsRow.holds Tryd.pinned (OpenSpec.ofChange stampFlowsSpec)

/-- ITS FALSE NEIGHBOUR: 'it returns false'. Refute it at one input. -/
def stampFlowsWrong : ChangeSpec := { name := "stampFlows", fn := fun _ => fun
  | [d1, d2] => { results := [.lit (.bool false)], args := [d1, d2] }
  | _ => none }
def StampFlowsWrongFalsely : Prop := stampFlowsRow.holds Tryd.pinned (OpenSpec.ofChange stampFlowsWrong)

/-- 'spadillelaw01.StampOther': WHATEVER THE INPUT: true; the input reads as it did. -/
def stampOtherSpec : ChangeSpec := { name := "stampOther", fn := fun _ => fun
  | [d1, d2] => { results := [.lit (.bool true)], args := [d1, d2] }
  | _ => none }
def stampOtherRow : OpenClaim := { program := "ytildfacbjdhbnaadoor", sum := "7a0021002cfe88b6f0fa5b084d4f025a2c702072ecf32f05040570f02acf9ff4", func := "spadille/spadillelaw01.StampOther", spec := "stampOther", unfollowed := true, recurses := true, named := ["spadille/stamp.sizes"], apart := false, laid := [("spadille/stamp.sizes", laid_spadille_stamp_sizes)] }
def StampOtherSaid : Prop := stampOtherRow.holds Tryd.pinned (OpenSpec.ofChange stampOtherSpec)

/-- ITS FALSE NEIGHBOUR: 'it returns false'. Refute it at one input. -/
def stampOtherWrong : ChangeSpec := { name := "stampOther", fn := fun _ => fun
  | [d1, d2] => { results := [.lit (.bool false)], args := [d1, d2] }
  | _ => none }
def StampOtherWrongFalsely : Prop := stampOtherRow.holds Tryd.pinned (OpenSpec.ofChange stampOtherWrong)

/-- 'spadillelaw01.StampAgainst': WHATEVER THE INPUT: true; the input reads as it did. -/
def stampAgainstSpec : ChangeSpec := { name := "stampAgainst", fn := fun _ => fun
  | [d1, d2] => { results := [.lit (.bool true)], args := [d1, d2] }
  | _ => none }
def stampAgainstRow : OpenClaim := { program := "ytildfacbjdhbnaadoor", sum := "7a0021002cfe88b6f0fa5b084d4f025a2c702072ecf32f05040570f02acf9ff4", func := "spadille/spadillelaw01.StampAgainst", spec := "stampAgainst", unfollowed := true, recurses := true, named := ["spadille/stamp.sizes"], apart := false, laid := [("spadille/stamp.sizes", laid_spadille_stamp_sizes)] }
def StampAgainstSaid : Prop := stampAgainstRow.holds Tryd.pinned (OpenSpec.ofChange stampAgainstSpec)

/-- ITS FALSE NEIGHBOUR: 'it returns false'. Refute it at one input. -/
def stampAgainstWrong : ChangeSpec := { name := "stampAgainst", fn := fun _ => fun
  | [d1, d2] => { results := [.lit (.bool false)], args := [d1, d2] }
  | _ => none }
def StampAgainstWrongFalsely : Prop := stampAgainstRow.holds Tryd.pinned (OpenSpec.ofChange stampAgainstWrong)

/-- 'spadillelaw01.StampSpans': WHATEVER THE INPUT: true; the input reads as it did. -/
def stampSpansSpec : ChangeSpec := { name := "stampSpans", fn := fun _ => fun
  | [d1, d2] => { results := [.lit (.bool true)], args := [d1, d2] }
  | _ => none }
def stampSpansRow : OpenClaim := { program := "ytildfacbjdhbnaadoor", sum := "7a0021002cfe88b6f0fa5b084d4f025a2c702072ecf32f05040570f02acf9ff4", func := "spadille/spadillelaw01.StampSpans", spec := "stampSpans", unfollowed := true, recurses := true, named := ["spadille/stamp.sizes"], apart := false, laid := [("spadille/stamp.sizes", laid_spadille_stamp_sizes)] }
def StampSpansSaid : Prop := stampSpansRow.holds Tryd.pinned (OpenSpec.ofChange stampSpansSpec)

/-- ITS FALSE NEIGHBOUR: 'it returns false'. Refute it at one input. -/
def stampSpansWrong : ChangeSpec := { name := "stampSpans", fn := fun _ => fun
  | [d1, d2] => { results := [.lit (.bool false)], args := [d1, d2] }
  | _ => none }
def StampSpansWrongFalsely : Prop := stampSpansRow.holds Tryd.pinned (OpenSpec.ofChange stampSpansWrong)

/-- 'spadillelaw01.StampBounds': WHATEVER THE INPUT: true; the input reads as it did. -/
def stampBoundsSpec : ChangeSpec := { name := "stampBounds", fn := fun _ => fun
  | [d1, d2, d3, d4] => { results := [.lit (.bool true)], args := [d1, d2, d3, d4] }
  | _ => none }
def stampBoundsRow : OpenClaim := { program := "ytildfacbjdhbnaadoor", sum := "7a0021002cfe88b6f0fa5b084d4f025a2c702072ecf32f05040570f02acf9ff4", func := "spadille/spadillelaw01.StampBounds", spec := "stampBounds", unfollowed := true, recurses := true, named := ["spadille/stamp.sizes"], apart := false, laid := [("spadille/stamp.sizes", laid_spadille_stamp_sizes)] }
def StampBoundsSaid : Prop := stampBoundsRow.holds Tryd.pinned (OpenSpec.ofChange stampBoundsSpec)

/-- ITS FALSE NEIGHBOUR: 'it returns false'. Refute it at one input. -/
def stampBoundsWrong : ChangeSpec := { name := "stampBounds", fn := fun _ => fun
  | [d1, d2, d3, d4] => { results := [.lit (.bool false)], args := [d1, d2, d3, d4] }
  | _ => none }
def StampBoundsWrongFalsely : Prop := stampBoundsRow.holds Tryd.pinned (OpenSpec.ofChange stampBoundsWrong)

/-- 'spadillelaw01.StampHoffman': WHATEVER THE INPUT: true; the input reads as it did. -/
def stampHoffmanSpec : ChangeSpec := { name := "stampHoffman", fn := fun _ => fun
  | [d] => { results := [.lit (.bool true)], args := [d] }
  | _ => none }
def stampHoffmanRow : OpenClaim := { program := "ytildfacbjdhbnaadoor", sum := "7a0021002cfe88b6f0fa5b084d4f025a2c702072ecf32f05040570f02acf9ff4", func := "spadille/spadillelaw01.StampHoffman", spec := "stampHoffman", unfollowed := true, recurses := true, named := ["spadille/stamp.sizes"], apart := false, laid := [("spadille/stamp.sizes", laid_spadille_stamp_sizes)] }
def StampHoffmanSaid : Prop := stampHoffmanRow.holds Tryd.pinned (OpenSpec.ofChange stampHoffmanSpec)

/-- ITS FALSE NEIGHBOUR: 'it returns false'. Refute it at one input. -/
def stampHoffmanWrong : ChangeSpec := { name := "stampHoffman", fn := fun _ => fun
  | [d] => { results := [.lit (.bool false)], args := [d] }
  | _ => none }
def StampHoffmanWrongFalsely : Prop := stampHoffmanRow.holds Tryd.pinned (OpenSpec.ofChange stampHoffmanWrong)

/-- 'spadillelaw01.StampTrue': WHATEVER THE INPUT: true; the input reads as it did. -/
def stampTrueSpec : ChangeSpec := { name := "stampTrue", fn := fun _ => fun
  | [d] => { results := [.lit (.bool true)], args := [d] }
  | _ => none }
def stampTrueRow : OpenClaim := { program := "ytildfacbjdhbnaadoor", sum := "7a0021002cfe88b6f0fa5b084d4f025a2c702072ecf32f05040570f02acf9ff4", func := "spadille/spadillelaw01.StampTrue", spec := "stampTrue", unfollowed := true, recurses := true, named := ["spadille/stamp.sizes"], apart := false, laid := [("spadille/stamp.sizes", laid_spadille_stamp_sizes)] }
def StampTrueSaid : Prop := stampTrueRow.holds Tryd.pinned (OpenSpec.ofChange stampTrueSpec)

/-- ITS FALSE NEIGHBOUR: 'it returns false'. Refute it at one input. -/
def stampTrueWrong : ChangeSpec := { name := "stampTrue", fn := fun _ => fun
  | [d] => { results := [.lit (.bool false)], args := [d] }
  | _ => none }
def StampTrueWrongFalsely : Prop := stampTrueRow.holds Tryd.pinned (OpenSpec.ofChange stampTrueWrong)

/-- 'spadillelaw01.StampSaid': WHATEVER THE INPUT: true; the input reads as it did. -/
def stampSaidSpec : ChangeSpec := { name := "stampSaid", fn := fun _ => fun
  | [d1, d2] => { results := [.lit (.bool true)], args := [d1, d2] }
  | _ => none }
def stampSaidRow : OpenClaim := { program := "ytildfacbjdhbnaadoor", sum := "7a0021002cfe88b6f0fa5b084d4f025a2c702072ecf32f05040570f02acf9ff4", func := "spadille/spadillelaw01.StampSaid", spec := "stampSaid", unfollowed := true, recurses := true, named := ["spadille/stamp.sizes"], apart := false, laid := [("spadille/stamp.sizes", laid_spadille_stamp_sizes)] }
def StampSaidSaid : Prop := stampSaidRow.holds Tryd.pinned (OpenSpec.ofChange stampSaidSpec)

/-- ITS FALSE NEIGHBOUR: 'it returns false'. Refute it at one input. -/
def stampSaidWrong : ChangeSpec := { name := "stampSaid", fn := fun _ => fun
  | [d1, d2] => { results := [.lit (.bool false)], args := [d1, d2] }
  | _ => none }
def StampSaidWrongFalsely : Prop := stampSaidRow.holds Tryd.pinned (OpenSpec.ofChange stampSaidWrong)

/-- 'spadillelaw01.StampNext': WHATEVER THE INPUT: true; the input reads as it did. -/
def stampNextSpec : ChangeSpec := { name := "stampNext", fn := fun _ => fun
  | [d1, d2] => { results := [.lit (.bool true)], args := [d1, d2] }
  | _ => none }
def stampNextRow : OpenClaim := { program := "ytildfacbjdhbnaadoor", sum := "7a0021002cfe88b6f0fa5b084d4f025a2c702072ecf32f05040570f02acf9ff4", func := "spadille/spadillelaw01.StampNext", spec := "stampNext", unfollowed := true, recurses := true, named := ["spadille/stamp.sizes"], apart := false, laid := [("spadille/stamp.sizes", laid_spadille_stamp_sizes)] }
def StampNextSaid : Prop := stampNextRow.holds Tryd.pinned (OpenSpec.ofChange stampNextSpec)

/-- ITS FALSE NEIGHBOUR: 'it returns false'. Refute it at one input. -/
def stampNextWrong : ChangeSpec := { name := "stampNext", fn := fun _ => fun
  | [d1, d2] => { results := [.lit (.bool false)], args := [d1, d2] }
  | _ => none }
def StampNextWrongFalsely : Prop := stampNextRow.holds Tryd.pinned (OpenSpec.ofChange stampNextWrong)

/-- 'spadillelaw01.StampMore': WHATEVER THE INPUT: true; the input reads as it did. -/
def stampMoreSpec : ChangeSpec := { name := "stampMore", fn := fun _ => fun
  | [d1, d2, d3, d4] => { results := [.lit (.bool true)], args := [d1, d2, d3, d4] }
  | _ => none }
def stampMoreRow : OpenClaim := { program := "ytildfacbjdhbnaadoor", sum := "7a0021002cfe88b6f0fa5b084d4f025a2c702072ecf32f05040570f02acf9ff4", func := "spadille/spadillelaw01.StampMore", spec := "stampMore", unfollowed := true, recurses := true, named := ["spadille/stamp.sizes"], apart := false, laid := [("spadille/stamp.sizes", laid_spadille_stamp_sizes)] }
def StampMoreSaid : Prop := stampMoreRow.holds Tryd.pinned (OpenSpec.ofChange stampMoreSpec)

/-- ITS FALSE NEIGHBOUR: 'it returns false'. Refute it at one input. -/
def stampMoreWrong : ChangeSpec := { name := "stampMore", fn := fun _ => fun
  | [d1, d2, d3, d4] => { results := [.lit (.bool false)], args := [d1, d2, d3, d4] }
  | _ => none }
def StampMoreWrongFalsely : Prop := stampMoreRow.holds Tryd.pinned (OpenSpec.ofChange stampMoreWrong)

/-- 'spadillelaw01.StampTurned': WHATEVER THE INPUT: true; the input reads as it did. -/
def stampTurnedSpec : ChangeSpec := { name := "stampTurned", fn := fun _ => fun
  | [d1, d2, d3, d4] => { results := [.lit (.bool true)], args := [d1, d2, d3, d4] }
  | _ => none }
def stampTurnedRow : OpenClaim := { program := "ytildfacbjdhbnaadoor", sum := "7a0021002cfe88b6f0fa5b084d4f025a2c702072ecf32f05040570f02acf9ff4", func := "spadille/spadillelaw01.StampTurned", spec := "stampTurned", unfollowed := true, recurses := true, named := ["spadille/stamp.sizes"], apart := false, laid := [("spadille/stamp.sizes", laid_spadille_stamp_sizes)] }
def StampTurnedSaid : Prop := stampTurnedRow.holds Tryd.pinned (OpenSpec.ofChange stampTurnedSpec)

/-- ITS FALSE NEIGHBOUR: 'it returns false'. Refute it at one input. -/
def stampTurnedWrong : ChangeSpec := { name := "stampTurned", fn := fun _ => fun
  | [d1, d2, d3, d4] => { results := [.lit (.bool false)], args := [d1, d2, d3, d4] }
  | _ => none }
def StampTurnedWrongFalsely : Prop := stampTurnedRow.holds Tryd.pinned (OpenSpec.ofChange stampTurnedWrong)

/-- 'spadillelaw01.StampKnown': WHATEVER THE INPUT: true; the input reads as it did. -/
def stampKnownSpec : ChangeSpec := { name := "stampKnown", fn := fun _ => fun
  | [] => { results := [.lit (.bool true)], args := [] }
  | _ => none }
def stampKnownRow : OpenClaim := { program := "ytildfacbjdhbnaadoor", sum := "7a0021002cfe88b6f0fa5b084d4f025a2c702072ecf32f05040570f02acf9ff4", func := "spadille/spadillelaw01.StampKnown", spec := "stampKnown", unfollowed := true, recurses := true, named := ["spadille/stamp.sizes"], apart := false, laid := [("spadille/stamp.sizes", laid_spadille_stamp_sizes)] }
def StampKnownSaid : Prop := stampKnownRow.holds Tryd.pinned (OpenSpec.ofChange stampKnownSpec)

/-- ITS FALSE NEIGHBOUR: 'it returns false'. Refute it at one input. -/
def stampKnownWrong : ChangeSpec := { name := "stampKnown", fn := fun _ => fun
  | [] => { results := [.lit (.bool false)], args := [] }
  | _ => none }
def StampKnownWrongFalsely : Prop := stampKnownRow.holds Tryd.pinned (OpenSpec.ofChange stampKnownWrong)

/- THE SECOND FORM. 'bulk': how many values and letters a reading holds, each counted each time it is reached (what is shared counts as often as it is met; a slice's spare places count too). A statement '..UptoSaid' is the law's where the arguments, and the package variables that the reading takes, are together of bulk at most 1048576: NARROWER than '..Said'. Prove '..Said' where nothing that the law and all that it calls make is longer than what came in: it says more and counts as full. Else prove '..UptoSaid'. A law counts once. -/
mutual
def uptoBulk {H : Type} : DataW H → Nat
  | .lit (.string bytes) => bytes.length + 1
  | .lit _ => 1
  | .nil => 1
  | .ptr d => uptoBulk d + 1
  | .slice elems spare => uptoBulkAll elems + uptoBulkAll spare + 1
  | .agg parts => uptoBulkAll parts + 1
  | .iface _ d => uptoBulk d + 1
  | .map entries => uptoBulkEntries entries + 1
  | .held _ => 1
def uptoBulkAll {H : Type} : List (DataW H) → Nat
  | [] => 0
  | d :: r => uptoBulk d + uptoBulkAll r
def uptoBulkEntries {H : Type} : List (Lit × DataW H) → Nat
  | [] => 0
  | x :: r => uptoBulkEntry x + uptoBulkEntries r
def uptoBulkEntry {H : Type} : Lit × DataW H → Nat
  | (.string bytes, d) => bytes.length + uptoBulk d + 1
  | (_, d) => uptoBulk d + 1
 end
def uptoSmall : (H : Type) → List (DataW H) → Bool := fun _ ds => decide (uptoBulkAll ds ≤ 1048576)
def OpenSpec.upto (s : _root_.Go.ChangeSpec) : _root_.Go.OpenSpec := { _root_.Go.OpenSpec.ofChange s with cond := some uptoSmall }

/-- 'spadillelaw01.StampFlows', WHERE WHAT IT READS IS OF BULK AT MOST 1048576: true; the input reads as it did. -/
def stampFlowsUptoRow : OpenClaim := { program := "ytildfacbjdhbnaadoor", sum := "7a0021002cfe88b6f0fa5b084d4f025a2c702072ecf32f05040570f02acf9ff4", func := "spadille/spadillelaw01.StampFlows", spec := "stampFlows", unfollowed := true, recurses := true, named := ["spadille/stamp.sizes"], apart := false, laid := [("spadille/stamp.sizes", laid_spadille_stamp_sizes)], narrowed := true }
def StampFlowsUptoSaid : Prop := stampFlowsUptoRow.holds Tryd.pinned (OpenSpec.upto stampFlowsSpec)

/-- 'spadillelaw01.StampOther', WHERE WHAT IT READS IS OF BULK AT MOST 1048576: true; the input reads as it did. -/
def stampOtherUptoRow : OpenClaim := { program := "ytildfacbjdhbnaadoor", sum := "7a0021002cfe88b6f0fa5b084d4f025a2c702072ecf32f05040570f02acf9ff4", func := "spadille/spadillelaw01.StampOther", spec := "stampOther", unfollowed := true, recurses := true, named := ["spadille/stamp.sizes"], apart := false, laid := [("spadille/stamp.sizes", laid_spadille_stamp_sizes)], narrowed := true }
def StampOtherUptoSaid : Prop := stampOtherUptoRow.holds Tryd.pinned (OpenSpec.upto stampOtherSpec)

/-- 'spadillelaw01.StampAgainst', WHERE WHAT IT READS IS OF BULK AT MOST 1048576: true; the input reads as it did. -/
def stampAgainstUptoRow : OpenClaim := { program := "ytildfacbjdhbnaadoor", sum := "7a0021002cfe88b6f0fa5b084d4f025a2c702072ecf32f05040570f02acf9ff4", func := "spadille/spadillelaw01.StampAgainst", spec := "stampAgainst", unfollowed := true, recurses := true, named := ["spadille/stamp.sizes"], apart := false, laid := [("spadille/stamp.sizes", laid_spadille_stamp_sizes)], narrowed := true }
def StampAgainstUptoSaid : Prop := stampAgainstUptoRow.holds Tryd.pinned (OpenSpec.upto stampAgainstSpec)

/-- 'spadillelaw01.StampSpans', WHERE WHAT IT READS IS OF BULK AT MOST 1048576: true; the input reads as it did. -/
def stampSpansUptoRow : OpenClaim := { program := "ytildfacbjdhbnaadoor", sum := "7a0021002cfe88b6f0fa5b084d4f025a2c702072ecf32f05040570f02acf9ff4", func := "spadille/spadillelaw01.StampSpans", spec := "stampSpans", unfollowed := true, recurses := true, named := ["spadille/stamp.sizes"], apart := false, laid := [("spadille/stamp.sizes", laid_spadille_stamp_sizes)], narrowed := true }
def StampSpansUptoSaid : Prop := stampSpansUptoRow.holds Tryd.pinned (OpenSpec.upto stampSpansSpec)

/-- 'spadillelaw01.StampBounds', WHERE WHAT IT READS IS OF BULK AT MOST 1048576: true; the input reads as it did. -/
def stampBoundsUptoRow : OpenClaim := { program := "ytildfacbjdhbnaadoor", sum := "7a0021002cfe88b6f0fa5b084d4f025a2c702072ecf32f05040570f02acf9ff4", func := "spadille/spadillelaw01.StampBounds", spec := "stampBounds", unfollowed := true, recurses := true, named := ["spadille/stamp.sizes"], apart := false, laid := [("spadille/stamp.sizes", laid_spadille_stamp_sizes)], narrowed := true }
def StampBoundsUptoSaid : Prop := stampBoundsUptoRow.holds Tryd.pinned (OpenSpec.upto stampBoundsSpec)

/-- 'spadillelaw01.StampHoffman', WHERE WHAT IT READS IS OF BULK AT MOST 1048576: true; the input reads as it did. -/
def stampHoffmanUptoRow : OpenClaim := { program := "ytildfacbjdhbnaadoor", sum := "7a0021002cfe88b6f0fa5b084d4f025a2c702072ecf32f05040570f02acf9ff4", func := "spadille/spadillelaw01.StampHoffman", spec := "stampHoffman", unfollowed := true, recurses := true, named := ["spadille/stamp.sizes"], apart := false, laid := [("spadille/stamp.sizes", laid_spadille_stamp_sizes)], narrowed := true }
def StampHoffmanUptoSaid : Prop := stampHoffmanUptoRow.holds Tryd.pinned (OpenSpec.upto stampHoffmanSpec)

/-- 'spadillelaw01.StampTrue', WHERE WHAT IT READS IS OF BULK AT MOST 1048576: true; the input reads as it did. -/
def stampTrueUptoRow : OpenClaim := { program := "ytildfacbjdhbnaadoor", sum := "7a0021002cfe88b6f0fa5b084d4f025a2c702072ecf32f05040570f02acf9ff4", func := "spadille/spadillelaw01.StampTrue", spec := "stampTrue", unfollowed := true, recurses := true, named := ["spadille/stamp.sizes"], apart := false, laid := [("spadille/stamp.sizes", laid_spadille_stamp_sizes)], narrowed := true }
def StampTrueUptoSaid : Prop := stampTrueUptoRow.holds Tryd.pinned (OpenSpec.upto stampTrueSpec)

/-- 'spadillelaw01.StampSaid', WHERE WHAT IT READS IS OF BULK AT MOST 1048576: true; the input reads as it did. -/
def stampSaidUptoRow : OpenClaim := { program := "ytildfacbjdhbnaadoor", sum := "7a0021002cfe88b6f0fa5b084d4f025a2c702072ecf32f05040570f02acf9ff4", func := "spadille/spadillelaw01.StampSaid", spec := "stampSaid", unfollowed := true, recurses := true, named := ["spadille/stamp.sizes"], apart := false, laid := [("spadille/stamp.sizes", laid_spadille_stamp_sizes)], narrowed := true }
def StampSaidUptoSaid : Prop := stampSaidUptoRow.holds Tryd.pinned (OpenSpec.upto stampSaidSpec)

/-- 'spadillelaw01.StampNext', WHERE WHAT IT READS IS OF BULK AT MOST 1048576: true; the input reads as it did. -/
def stampNextUptoRow : OpenClaim := { program := "ytildfacbjdhbnaadoor", sum := "7a0021002cfe88b6f0fa5b084d4f025a2c702072ecf32f05040570f02acf9ff4", func := "spadille/spadillelaw01.StampNext", spec := "stampNext", unfollowed := true, recurses := true, named := ["spadille/stamp.sizes"], apart := false, laid := [("spadille/stamp.sizes", laid_spadille_stamp_sizes)], narrowed := true }
def StampNextUptoSaid : Prop := stampNextUptoRow.holds Tryd.pinned (OpenSpec.upto stampNextSpec)

/-- 'spadillelaw01.StampMore', WHERE WHAT IT READS IS OF BULK AT MOST 1048576: true; the input reads as it did. -/
def stampMoreUptoRow : OpenClaim := { program := "ytildfacbjdhbnaadoor", sum := "7a0021002cfe88b6f0fa5b084d4f025a2c702072ecf32f05040570f02acf9ff4", func := "spadille/spadillelaw01.StampMore", spec := "stampMore", unfollowed := true, recurses := true, named := ["spadille/stamp.sizes"], apart := false, laid := [("spadille/stamp.sizes", laid_spadille_stamp_sizes)], narrowed := true }
def StampMoreUptoSaid : Prop := stampMoreUptoRow.holds Tryd.pinned (OpenSpec.upto stampMoreSpec)

/-- 'spadillelaw01.StampTurned', WHERE WHAT IT READS IS OF BULK AT MOST 1048576: true; the input reads as it did. -/
def stampTurnedUptoRow : OpenClaim := { program := "ytildfacbjdhbnaadoor", sum := "7a0021002cfe88b6f0fa5b084d4f025a2c702072ecf32f05040570f02acf9ff4", func := "spadille/spadillelaw01.StampTurned", spec := "stampTurned", unfollowed := true, recurses := true, named := ["spadille/stamp.sizes"], apart := false, laid := [("spadille/stamp.sizes", laid_spadille_stamp_sizes)], narrowed := true }
def StampTurnedUptoSaid : Prop := stampTurnedUptoRow.holds Tryd.pinned (OpenSpec.upto stampTurnedSpec)

/-- 'spadillelaw01.StampKnown', WHERE WHAT IT READS IS OF BULK AT MOST 1048576: true; the input reads as it did. -/
def stampKnownUptoRow : OpenClaim := { program := "ytildfacbjdhbnaadoor", sum := "7a0021002cfe88b6f0fa5b084d4f025a2c702072ecf32f05040570f02acf9ff4", func := "spadille/spadillelaw01.StampKnown", spec := "stampKnown", unfollowed := true, recurses := true, named := ["spadille/stamp.sizes"], apart := false, laid := [("spadille/stamp.sizes", laid_spadille_stamp_sizes)], narrowed := true }
def StampKnownUptoSaid : Prop := stampKnownUptoRow.holds Tryd.pinned (OpenSpec.upto stampKnownSpec)

end Rows
end Go.Proofs.YtildfacbjdhbnaaDoor
