/-
  Layer 13, the plain part: which cards sort a pack if they are moved; the program's and the reference's fewest are the same.
  Conditions: none.
-/
import Derived.Test.YtenkokebdgekbaaPt4
namespace Go.Am
open Go.Gr

/-- The first error of some. -/
def firstE (b : Nat → Option Int) (n : Nat) : Int := ((List.range n).findSome? b).getD 0
theorem firstE_none {b : Nat → Option Int} {n : Nat} (h : ∀ j, j < n → b j = none) : firstE b n = 0 := by
  rw [firstE, List.findSome?_eq_none_iff.2 (by intro x hx; exact h x (List.mem_range.1 hx))]; rfl

/-- Fewer, or as many and ahead. -/
def fewer (a b : List Int) : Bool := decide (a.length < b.length) || (decide (a.length = b.length) && lexB a b)

/-- The places of the cards that stay. -/
def stays (l r : List Int) : List Int := ((List.range l.length).filter fun x : Nat => !decide ((x : Int) ∈ r)).map fun x => (placesL l).getD x 0

end Go.Am
