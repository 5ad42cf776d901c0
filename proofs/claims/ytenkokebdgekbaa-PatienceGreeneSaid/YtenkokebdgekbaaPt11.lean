/-
  Layer 13, the plain part: orders without long rows, found by trying all.
  Conditions: none.
-/
import Derived.Test.YtenkokebdgekbaaPt3
namespace Go.Am
open Go.Gr

def up (l : List Nat) : List Int := l.map fun n : Nat => (n : Int)

end Go.Am
