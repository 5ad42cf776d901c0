/-
  Layer 13, the plain part: how many cards some rows can have together.
  Conditions: none.
-/
import Derived.Test.YtenkokebdgekbaaPt8
namespace Go.Am
open Go.Gr

/-- How long rows and columns are. -/
def rowLens (T : List (List Int)) : List Int := T.map fun R => (R.length : Int)

end Go.Am
