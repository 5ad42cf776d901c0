/-
  Layer 13, the plain part: the number of tables of a shape, two ways.
  Conditions: none.
-/
import Derived.Test.YtenkokebdgekbaaPt5
namespace Go.Am
open Go.Gr

/-- All shapes. -/
def parts : Nat → Nat → Nat → List (List Int)
  | 0, _, _ => [[]]
  | d + 1, m, s => [] :: (List.range (min m s)).flatMap fun a => (parts d (a + 1) (s - (a + 1))).map fun p => ((a : Int) + 1) :: p

end Go.Am
