/-
  No cell of these rows narrows 'for every input' (looked for: loops, veiled, ifaces, maps, wideKeys, modest, calm, conditions, laid).
  DERIVED. THE GIVEN ROWS OF THIS SEAT. 12 by the template 'for every input the law returns true; each argument reads behind the call as it read before'; 0 by the template 'total and deterministic' (their statements: YtenkokebdgekbaaTotals.lean).
  GIVEN WITH THE SEED: the statements are not yours to turn. If you find one false, say at which input.
  Laid BY PROGRAM, IN A SANDBOX (cutbox-rows.mjs): the forced cells as the released guide's own fill.sh prints them over the translation 1ae17f0fdc51e06c… (all of the seat's roots in one cut). By AI agents, Wed Nov 11 2026. No macro, syntax, notation, axiom, sorry.
-/
import Derived.Test.YtenkokebdgekbaaChecked
import GoSem.Claim
import GoSem.ClaimJoined
import GoSem.ClaimMapViews
import Derived.JoinedTies
import Derived.KernelRfl
namespace Go.Proofs.Ytenkokebdgekbaa
/- THE CELL 'sum', in the pinned program and in every row, IS THE sha256 OF THE DUMP (.gsa) THAT YtenkokebdgekbaaProg.lean LOADS. Nothing in Lean hashes anything: it is a label: what it is worth is what the hold of that sum in a sandbox is worth. -/
noncomputable def Try.pinned : Pinned := { name := "ytenkokebdgekbaa", sum := "1ae17f0fdc51e06cf5d40fba69f8fbb13fae575b9a48372425ab49b3b0f51690", checked := Try.checked }
namespace Rows
def none {H : Type} : Left H := { results := [], args := [] }

/-- 'spadillelaw13.PatiencePiles': WHATEVER THE INPUT: true; the input reads as it did. -/
def patiencePilesSpec : ChangeSpec := { name := "patiencePiles", fn := fun _ => fun
  | [d] => { results := [.lit (.bool true)], args := [d] }
  | _ => none }
def patiencePilesRow : OpenClaim := { program := "ytenkokebdgekbaa", sum := "1ae17f0fdc51e06cf5d40fba69f8fbb13fae575b9a48372425ab49b3b0f51690", func := "spadille/spadillelaw13.PatiencePiles", spec := "patiencePiles", unfollowed := true, recurses := true, plainKeys := false, apart := false }
def PatiencePilesSaid : Prop := patiencePilesRow.holds Try.pinned (OpenSpec.ofChange patiencePilesSpec)

/-- ITS FALSE NEIGHBOUR: 'it returns false'. Refute it at one input. -/
def patiencePilesWrong : ChangeSpec := { name := "patiencePiles", fn := fun _ => fun
  | [d] => { results := [.lit (.bool false)], args := [d] }
  | _ => none }
def PatiencePilesWrongFalsely : Prop := patiencePilesRow.holds Try.pinned (OpenSpec.ofChange patiencePilesWrong)

/-- 'spadillelaw13.PatienceMoved': WHATEVER THE INPUT: true; the input reads as it did. -/
def patienceMovedSpec : ChangeSpec := { name := "patienceMoved", fn := fun _ => fun
  | [d1, d2] => { results := [.lit (.bool true)], args := [d1, d2] }
  | _ => none }
def patienceMovedRow : OpenClaim := { program := "ytenkokebdgekbaa", sum := "1ae17f0fdc51e06cf5d40fba69f8fbb13fae575b9a48372425ab49b3b0f51690", func := "spadille/spadillelaw13.PatienceMoved", spec := "patienceMoved", unfollowed := true, recurses := true, plainKeys := false, apart := false }
def PatienceMovedSaid : Prop := patienceMovedRow.holds Try.pinned (OpenSpec.ofChange patienceMovedSpec)

/-- ITS FALSE NEIGHBOUR: 'it returns false'. Refute it at one input. -/
def patienceMovedWrong : ChangeSpec := { name := "patienceMoved", fn := fun _ => fun
  | [d1, d2] => { results := [.lit (.bool false)], args := [d1, d2] }
  | _ => none }
def PatienceMovedWrongFalsely : Prop := patienceMovedRow.holds Try.pinned (OpenSpec.ofChange patienceMovedWrong)

/-- 'spadillelaw13.PatienceTables': WHATEVER THE INPUT: true; the input reads as it did. -/
def patienceTablesSpec : ChangeSpec := { name := "patienceTables", fn := fun _ => fun
  | [d1, d2, d3] => { results := [.lit (.bool true)], args := [d1, d2, d3] }
  | _ => none }
def patienceTablesRow : OpenClaim := { program := "ytenkokebdgekbaa", sum := "1ae17f0fdc51e06cf5d40fba69f8fbb13fae575b9a48372425ab49b3b0f51690", func := "spadille/spadillelaw13.PatienceTables", spec := "patienceTables", unfollowed := true, recurses := true, plainKeys := false, apart := false }
def PatienceTablesSaid : Prop := patienceTablesRow.holds Try.pinned (OpenSpec.ofChange patienceTablesSpec)

/-- ITS FALSE NEIGHBOUR: 'it returns false'. Refute it at one input. -/
def patienceTablesWrong : ChangeSpec := { name := "patienceTables", fn := fun _ => fun
  | [d1, d2, d3] => { results := [.lit (.bool false)], args := [d1, d2, d3] }
  | _ => none }
def PatienceTablesWrongFalsely : Prop := patienceTablesRow.holds Try.pinned (OpenSpec.ofChange patienceTablesWrong)

/-- 'spadillelaw13.PatienceMost': WHATEVER THE INPUT: true; the input reads as it did. -/
def patienceMostSpec : ChangeSpec := { name := "patienceMost", fn := fun _ => fun
  | [d1, d2, d3] => { results := [.lit (.bool true)], args := [d1, d2, d3] }
  | _ => none }
def patienceMostRow : OpenClaim := { program := "ytenkokebdgekbaa", sum := "1ae17f0fdc51e06cf5d40fba69f8fbb13fae575b9a48372425ab49b3b0f51690", func := "spadille/spadillelaw13.PatienceMost", spec := "patienceMost", unfollowed := true, recurses := true, plainKeys := false, apart := false }
def PatienceMostSaid : Prop := patienceMostRow.holds Try.pinned (OpenSpec.ofChange patienceMostSpec)

/-- ITS FALSE NEIGHBOUR: 'it returns false'. Refute it at one input. -/
def patienceMostWrong : ChangeSpec := { name := "patienceMost", fn := fun _ => fun
  | [d1, d2, d3] => { results := [.lit (.bool false)], args := [d1, d2, d3] }
  | _ => none }
def PatienceMostWrongFalsely : Prop := patienceMostRow.holds Try.pinned (OpenSpec.ofChange patienceMostWrong)

/-- 'spadillelaw13.PatienceCount': WHATEVER THE INPUT: true; the input reads as it did. -/
def patienceCountSpec : ChangeSpec := { name := "patienceCount", fn := fun _ => fun
  | [d1, d2, d3] => { results := [.lit (.bool true)], args := [d1, d2, d3] }
  | _ => none }
def patienceCountRow : OpenClaim := { program := "ytenkokebdgekbaa", sum := "1ae17f0fdc51e06cf5d40fba69f8fbb13fae575b9a48372425ab49b3b0f51690", func := "spadille/spadillelaw13.PatienceCount", spec := "patienceCount", unfollowed := true, recurses := true, plainKeys := false, apart := false }
def PatienceCountSaid : Prop := patienceCountRow.holds Try.pinned (OpenSpec.ofChange patienceCountSpec)

/-- ITS FALSE NEIGHBOUR: 'it returns false'. Refute it at one input. -/
def patienceCountWrong : ChangeSpec := { name := "patienceCount", fn := fun _ => fun
  | [d1, d2, d3] => { results := [.lit (.bool false)], args := [d1, d2, d3] }
  | _ => none }
def PatienceCountWrongFalsely : Prop := patienceCountRow.holds Try.pinned (OpenSpec.ofChange patienceCountWrong)

/-- 'spadillelaw13.PatienceRobinson': WHATEVER THE INPUT: true; the input reads as it did. -/
def patienceRobinsonSpec : ChangeSpec := { name := "patienceRobinson", fn := fun _ => fun
  | [d1, d2, d3] => { results := [.lit (.bool true)], args := [d1, d2, d3] }
  | _ => none }
def patienceRobinsonRow : OpenClaim := { program := "ytenkokebdgekbaa", sum := "1ae17f0fdc51e06cf5d40fba69f8fbb13fae575b9a48372425ab49b3b0f51690", func := "spadille/spadillelaw13.PatienceRobinson", spec := "patienceRobinson", unfollowed := true, recurses := true, plainKeys := false, apart := false }
def PatienceRobinsonSaid : Prop := patienceRobinsonRow.holds Try.pinned (OpenSpec.ofChange patienceRobinsonSpec)

/-- ITS FALSE NEIGHBOUR: 'it returns false'. Refute it at one input. -/
def patienceRobinsonWrong : ChangeSpec := { name := "patienceRobinson", fn := fun _ => fun
  | [d1, d2, d3] => { results := [.lit (.bool false)], args := [d1, d2, d3] }
  | _ => none }
def PatienceRobinsonWrongFalsely : Prop := patienceRobinsonRow.holds Try.pinned (OpenSpec.ofChange patienceRobinsonWrong)

/-- 'spadillelaw13.PatienceKnown': WHATEVER THE INPUT: true; the input reads as it did. -/
def patienceKnownSpec : ChangeSpec := { name := "patienceKnown", fn := fun _ => fun
  | [] => { results := [.lit (.bool true)], args := [] }
  | _ => none }
def patienceKnownRow : OpenClaim := { program := "ytenkokebdgekbaa", sum := "1ae17f0fdc51e06cf5d40fba69f8fbb13fae575b9a48372425ab49b3b0f51690", func := "spadille/spadillelaw13.PatienceKnown", spec := "patienceKnown", unfollowed := true, recurses := true, plainKeys := false, apart := false }
def PatienceKnownSaid : Prop := patienceKnownRow.holds Try.pinned (OpenSpec.ofChange patienceKnownSpec)

/-- ITS FALSE NEIGHBOUR: 'it returns false'. Refute it at one input. -/
def patienceKnownWrong : ChangeSpec := { name := "patienceKnown", fn := fun _ => fun
  | [] => { results := [.lit (.bool false)], args := [] }
  | _ => none }
def PatienceKnownWrongFalsely : Prop := patienceKnownRow.holds Try.pinned (OpenSpec.ofChange patienceKnownWrong)

/-- 'spadillelaw13.PatienceTurned': WHATEVER THE INPUT: true; the input reads as it did. -/
def patienceTurnedSpec : ChangeSpec := { name := "patienceTurned", fn := fun _ => fun
  | [d1, d2, d3] => { results := [.lit (.bool true)], args := [d1, d2, d3] }
  | _ => none }
def patienceTurnedRow : OpenClaim := { program := "ytenkokebdgekbaa", sum := "1ae17f0fdc51e06cf5d40fba69f8fbb13fae575b9a48372425ab49b3b0f51690", func := "spadille/spadillelaw13.PatienceTurned", spec := "patienceTurned", unfollowed := true, recurses := true, plainKeys := false, apart := false }
def PatienceTurnedSaid : Prop := patienceTurnedRow.holds Try.pinned (OpenSpec.ofChange patienceTurnedSpec)

/-- ITS FALSE NEIGHBOUR: 'it returns false'. Refute it at one input. -/
def patienceTurnedWrong : ChangeSpec := { name := "patienceTurned", fn := fun _ => fun
  | [d1, d2, d3] => { results := [.lit (.bool false)], args := [d1, d2, d3] }
  | _ => none }
def PatienceTurnedWrongFalsely : Prop := patienceTurnedRow.holds Try.pinned (OpenSpec.ofChange patienceTurnedWrong)

/-- 'spadillelaw13.PatienceSorted': WHATEVER THE INPUT: true; the input reads as it did. -/
def patienceSortedSpec : ChangeSpec := { name := "patienceSorted", fn := fun _ => fun
  | [d1, d2] => { results := [.lit (.bool true)], args := [d1, d2] }
  | _ => none }
def patienceSortedRow : OpenClaim := { program := "ytenkokebdgekbaa", sum := "1ae17f0fdc51e06cf5d40fba69f8fbb13fae575b9a48372425ab49b3b0f51690", func := "spadille/spadillelaw13.PatienceSorted", spec := "patienceSorted", unfollowed := true, recurses := true, plainKeys := false, apart := false }
def PatienceSortedSaid : Prop := patienceSortedRow.holds Try.pinned (OpenSpec.ofChange patienceSortedSpec)

/-- ITS FALSE NEIGHBOUR: 'it returns false'. Refute it at one input. -/
def patienceSortedWrong : ChangeSpec := { name := "patienceSorted", fn := fun _ => fun
  | [d1, d2] => { results := [.lit (.bool false)], args := [d1, d2] }
  | _ => none }
def PatienceSortedWrongFalsely : Prop := patienceSortedRow.holds Try.pinned (OpenSpec.ofChange patienceSortedWrong)

/-- 'spadillelaw13.PatienceSzekeres': WHATEVER THE INPUT: true; the input reads as it did. -/
def patienceSzekeresSpec : ChangeSpec := { name := "patienceSzekeres", fn := fun _ => fun
  | [d1, d2, d3, d4] => { results := [.lit (.bool true)], args := [d1, d2, d3, d4] }
  | _ => none }
def patienceSzekeresRow : OpenClaim := { program := "ytenkokebdgekbaa", sum := "1ae17f0fdc51e06cf5d40fba69f8fbb13fae575b9a48372425ab49b3b0f51690", func := "spadille/spadillelaw13.PatienceSzekeres", spec := "patienceSzekeres", unfollowed := true, recurses := true, plainKeys := false, apart := false }
def PatienceSzekeresSaid : Prop := patienceSzekeresRow.holds Try.pinned (OpenSpec.ofChange patienceSzekeresSpec)

/-- ITS FALSE NEIGHBOUR: 'it returns false'. Refute it at one input. -/
def patienceSzekeresWrong : ChangeSpec := { name := "patienceSzekeres", fn := fun _ => fun
  | [d1, d2, d3, d4] => { results := [.lit (.bool false)], args := [d1, d2, d3, d4] }
  | _ => none }
def PatienceSzekeresWrongFalsely : Prop := patienceSzekeresRow.holds Try.pinned (OpenSpec.ofChange patienceSzekeresWrong)

/-- 'spadillelaw13.PatienceSchensted': WHATEVER THE INPUT: true; the input reads as it did. -/
def patienceSchenstedSpec : ChangeSpec := { name := "patienceSchensted", fn := fun _ => fun
  | [d1, d2] => { results := [.lit (.bool true)], args := [d1, d2] }
  | _ => none }
def patienceSchenstedRow : OpenClaim := { program := "ytenkokebdgekbaa", sum := "1ae17f0fdc51e06cf5d40fba69f8fbb13fae575b9a48372425ab49b3b0f51690", func := "spadille/spadillelaw13.PatienceSchensted", spec := "patienceSchensted", unfollowed := true, recurses := true, plainKeys := false, apart := false }
def PatienceSchenstedSaid : Prop := patienceSchenstedRow.holds Try.pinned (OpenSpec.ofChange patienceSchenstedSpec)

/-- ITS FALSE NEIGHBOUR: 'it returns false'. Refute it at one input. -/
def patienceSchenstedWrong : ChangeSpec := { name := "patienceSchensted", fn := fun _ => fun
  | [d1, d2] => { results := [.lit (.bool false)], args := [d1, d2] }
  | _ => none }
def PatienceSchenstedWrongFalsely : Prop := patienceSchenstedRow.holds Try.pinned (OpenSpec.ofChange patienceSchenstedWrong)

/-- 'spadillelaw13.PatienceGreene': WHATEVER THE INPUT: true; the input reads as it did. -/
def patienceGreeneSpec : ChangeSpec := { name := "patienceGreene", fn := fun _ => fun
  | [d1, d2, d3, d4] => { results := [.lit (.bool true)], args := [d1, d2, d3, d4] }
  | _ => none }
def patienceGreeneRow : OpenClaim := { program := "ytenkokebdgekbaa", sum := "1ae17f0fdc51e06cf5d40fba69f8fbb13fae575b9a48372425ab49b3b0f51690", func := "spadille/spadillelaw13.PatienceGreene", spec := "patienceGreene", unfollowed := true, recurses := true, plainKeys := false, apart := false }
def PatienceGreeneSaid : Prop := patienceGreeneRow.holds Try.pinned (OpenSpec.ofChange patienceGreeneSpec)

/-- ITS FALSE NEIGHBOUR: 'it returns false'. Refute it at one input. -/
def patienceGreeneWrong : ChangeSpec := { name := "patienceGreene", fn := fun _ => fun
  | [d1, d2, d3, d4] => { results := [.lit (.bool false)], args := [d1, d2, d3, d4] }
  | _ => none }
def PatienceGreeneWrongFalsely : Prop := patienceGreeneRow.holds Try.pinned (OpenSpec.ofChange patienceGreeneWrong)

/- THE SECOND FORM. 'bulk': how many values and letters a reading holds, each counted each time it is reached (what is shared counts as often as it is met; a slice's spare places count too). A statement '..UptoSaid' is the law's where the arguments, and the package variables that the reading takes, are together of bulk at most 1048576: NARROWER than '..Said'. Prove '..Said' where nothing that the law and all that it calls make is longer than what came in: it says more and counts as full. Else prove '..UptoSaid'. A law counts once. -/
mutual
def uptoBulk {H : Type} : DataW H → Nat
  | .lit (.string bytes) => bytes.length + 1
  | .lit _ => 1
  | .nil => 1
  | .ptr d => uptoBulk d + 1
  | .slice elems spare => uptoBulkAll elems + uptoBulkAll spare + 1
  | .agg parts => uptoBulkAll parts + 1
  | .iface _ d => uptoBulk d + 1
  | .map entries => uptoBulkEntries entries + 1
  | .held _ => 1
def uptoBulkAll {H : Type} : List (DataW H) → Nat
  | [] => 0
  | d :: r => uptoBulk d + uptoBulkAll r
def uptoBulkEntries {H : Type} : List (Lit × DataW H) → Nat
  | [] => 0
  | x :: r => uptoBulkEntry x + uptoBulkEntries r
def uptoBulkEntry {H : Type} : Lit × DataW H → Nat
  | (.string bytes, d) => bytes.length + uptoBulk d + 1
  | (_, d) => uptoBulk d + 1
 end
def uptoSmall : (H : Type) → List (DataW H) → Bool := fun _ ds => decide (uptoBulkAll ds ≤ 1048576)
def OpenSpec.upto (s : _root_.Go.ChangeSpec) : _root_.Go.OpenSpec := { _root_.Go.OpenSpec.ofChange s with cond := some uptoSmall }

/-- 'spadillelaw13.PatiencePiles', WHERE WHAT IT READS IS OF BULK AT MOST 1048576: true; the input reads as it did. -/
def patiencePilesUptoRow : OpenClaim := { program := "ytenkokebdgekbaa", sum := "1ae17f0fdc51e06cf5d40fba69f8fbb13fae575b9a48372425ab49b3b0f51690", func := "spadille/spadillelaw13.PatiencePiles", spec := "patiencePiles", unfollowed := true, recurses := true, plainKeys := false, apart := false, narrowed := true }
def PatiencePilesUptoSaid : Prop := patiencePilesUptoRow.holds Try.pinned (OpenSpec.upto patiencePilesSpec)

/-- 'spadillelaw13.PatienceMoved', WHERE WHAT IT READS IS OF BULK AT MOST 1048576: true; the input reads as it did. -/
def patienceMovedUptoRow : OpenClaim := { program := "ytenkokebdgekbaa", sum := "1ae17f0fdc51e06cf5d40fba69f8fbb13fae575b9a48372425ab49b3b0f51690", func := "spadille/spadillelaw13.PatienceMoved", spec := "patienceMoved", unfollowed := true, recurses := true, plainKeys := false, apart := false, narrowed := true }
def PatienceMovedUptoSaid : Prop := patienceMovedUptoRow.holds Try.pinned (OpenSpec.upto patienceMovedSpec)

/-- 'spadillelaw13.PatienceTables', WHERE WHAT IT READS IS OF BULK AT MOST 1048576: true; the input reads as it did. -/
def patienceTablesUptoRow : OpenClaim := { program := "ytenkokebdgekbaa", sum := "1ae17f0fdc51e06cf5d40fba69f8fbb13fae575b9a48372425ab49b3b0f51690", func := "spadille/spadillelaw13.PatienceTables", spec := "patienceTables", unfollowed := true, recurses := true, plainKeys := false, apart := false, narrowed := true }
def PatienceTablesUptoSaid : Prop := patienceTablesUptoRow.holds Try.pinned (OpenSpec.upto patienceTablesSpec)

/-- 'spadillelaw13.PatienceMost', WHERE WHAT IT READS IS OF BULK AT MOST 1048576: true; the input reads as it did. -/
def patienceMostUptoRow : OpenClaim := { program := "ytenkokebdgekbaa", sum := "1ae17f0fdc51e06cf5d40fba69f8fbb13fae575b9a48372425ab49b3b0f51690", func := "spadille/spadillelaw13.PatienceMost", spec := "patienceMost", unfollowed := true, recurses := true, plainKeys := false, apart := false, narrowed := true }
def PatienceMostUptoSaid : Prop := patienceMostUptoRow.holds Try.pinned (OpenSpec.upto patienceMostSpec)

/-- 'spadillelaw13.PatienceCount', WHERE WHAT IT READS IS OF BULK AT MOST 1048576: true; the input reads as it did. -/
def patienceCountUptoRow : OpenClaim := { program := "ytenkokebdgekbaa", sum := "1ae17f0fdc51e06cf5d40fba69f8fbb13fae575b9a48372425ab49b3b0f51690", func := "spadille/spadillelaw13.PatienceCount", spec := "patienceCount", unfollowed := true, recurses := true, plainKeys := false, apart := false, narrowed := true }
def PatienceCountUptoSaid : Prop := patienceCountUptoRow.holds Try.pinned (OpenSpec.upto patienceCountSpec)

/-- 'spadillelaw13.PatienceRobinson', WHERE WHAT IT READS IS OF BULK AT MOST 1048576: true; the input reads as it did. -/
def patienceRobinsonUptoRow : OpenClaim := { program := "ytenkokebdgekbaa", sum := "1ae17f0fdc51e06cf5d40fba69f8fbb13fae575b9a48372425ab49b3b0f51690", func := "spadille/spadillelaw13.PatienceRobinson", spec := "patienceRobinson", unfollowed := true, recurses := true, plainKeys := false, apart := false, narrowed := true }
def PatienceRobinsonUptoSaid : Prop := patienceRobinsonUptoRow.holds Try.pinned (OpenSpec.upto patienceRobinsonSpec)

/-- 'spadillelaw13.PatienceKnown', WHERE WHAT IT READS IS OF BULK AT MOST 1048576: true; the input reads as it did. -/
def patienceKnownUptoRow : OpenClaim := { program := "ytenkokebdgekbaa", sum := "1ae17f0fdc51e06cf5d40fba69f8fbb13fae575b9a48372425ab49b3b0f51690", func := "spadille/spadillelaw13.PatienceKnown", spec := "patienceKnown", unfollowed := true, recurses := true, plainKeys := false, apart := false, narrowed := true }
def PatienceKnownUptoSaid : Prop := patienceKnownUptoRow.holds Try.pinned (OpenSpec.upto patienceKnownSpec)

/-- 'spadillelaw13.PatienceTurned', WHERE WHAT IT READS IS OF BULK AT MOST 1048576: true; the input reads as it did. -/
def patienceTurnedUptoRow : OpenClaim := { program := "ytenkokebdgekbaa", sum := "1ae17f0fdc51e06cf5d40fba69f8fbb13fae575b9a48372425ab49b3b0f51690", func := "spadille/spadillelaw13.PatienceTurned", spec := "patienceTurned", unfollowed := true, recurses := true, plainKeys := false, apart := false, narrowed := true }
def PatienceTurnedUptoSaid : Prop := patienceTurnedUptoRow.holds Try.pinned (OpenSpec.upto patienceTurnedSpec)

/-- 'spadillelaw13.PatienceSorted', WHERE WHAT IT READS IS OF BULK AT MOST 1048576: true; the input reads as it did. -/
def patienceSortedUptoRow : OpenClaim := { program := "ytenkokebdgekbaa", sum := "1ae17f0fdc51e06cf5d40fba69f8fbb13fae575b9a48372425ab49b3b0f51690", func := "spadille/spadillelaw13.PatienceSorted", spec := "patienceSorted", unfollowed := true, recurses := true, plainKeys := false, apart := false, narrowed := true }
def PatienceSortedUptoSaid : Prop := patienceSortedUptoRow.holds Try.pinned (OpenSpec.upto patienceSortedSpec)

/-- 'spadillelaw13.PatienceSzekeres', WHERE WHAT IT READS IS OF BULK AT MOST 1048576: true; the input reads as it did. -/
def patienceSzekeresUptoRow : OpenClaim := { program := "ytenkokebdgekbaa", sum := "1ae17f0fdc51e06cf5d40fba69f8fbb13fae575b9a48372425ab49b3b0f51690", func := "spadille/spadillelaw13.PatienceSzekeres", spec := "patienceSzekeres", unfollowed := true, recurses := true, plainKeys := false, apart := false, narrowed := true }
def PatienceSzekeresUptoSaid : Prop := patienceSzekeresUptoRow.holds Try.pinned (OpenSpec.upto patienceSzekeresSpec)

/-- 'spadillelaw13.PatienceSchensted', WHERE WHAT IT READS IS OF BULK AT MOST 1048576: true; the input reads as it did. -/
def patienceSchenstedUptoRow : OpenClaim := { program := "ytenkokebdgekbaa", sum := "1ae17f0fdc51e06cf5d40fba69f8fbb13fae575b9a48372425ab49b3b0f51690", func := "spadille/spadillelaw13.PatienceSchensted", spec := "patienceSchensted", unfollowed := true, recurses := true, plainKeys := false, apart := false, narrowed := true }
def PatienceSchenstedUptoSaid : Prop := patienceSchenstedUptoRow.holds Try.pinned (OpenSpec.upto patienceSchenstedSpec)

/-- 'spadillelaw13.PatienceGreene', WHERE WHAT IT READS IS OF BULK AT MOST 1048576: true; the input reads as it did. -/
def patienceGreeneUptoRow : OpenClaim := { program := "ytenkokebdgekbaa", sum := "1ae17f0fdc51e06cf5d40fba69f8fbb13fae575b9a48372425ab49b3b0f51690", func := "spadille/spadillelaw13.PatienceGreene", spec := "patienceGreene", unfollowed := true, recurses := true, plainKeys := false, apart := false, narrowed := true }
def PatienceGreeneUptoSaid : Prop := patienceGreeneUptoRow.holds Try.pinned (OpenSpec.upto patienceGreeneSpec)

end Rows
end Go.Proofs.Ytenkokebdgekbaa
