/-
  Layer 13, the plain part: which cards sort a pack if they are moved; the program's and the reference's fewest are the same.
  Conditions: none.
-/
import Derived.Test.YtenkokebdgekbaaPt4
namespace Go.Am
open Go.Gr

/-- The first error of some. -/
def firstE (b : Nat → Option Int) (n : Nat) : Int := ((List.range n).findSome? b).getD 0
theorem firstE_none {b : Nat → Option Int} {n : Nat} (h : ∀ j, j < n → b j = none) : firstE b n = 0 := by
  rw [firstE, List.findSome?_eq_none_iff.2 (by intro x hx; exact h x (List.mem_range.1 hx))]; rfl
theorem firstE_at {b : Nat → Option Int} {n i : Nat} {e : Int} (hi : i < n) (h : ∀ j, j < i → b j = none) (he : b i = some e) : firstE b n = e := by
  have hr : List.range n = List.range i ++ i :: (List.range' (i + 1) (n - i - 1)) := by
    have ha := List.range'_append_1 (s := 0) (m := i) (n := n - i - 1 + 1)
    rw [Nat.zero_add] at ha
    rw [List.range_eq_range', List.range_eq_range', ← List.range'_succ, ha]
    congr 1; omega
  rw [firstE, hr, List.findSome?_append, List.findSome?_eq_none_iff.2 (by intro x hx; exact h x (List.mem_range.1 hx))]
  simp [List.findSome?_cons, he]
theorem firstE_zero {b : Nat → Option Int} {n : Nat} (hb : ∀ i, b i ≠ some 0) (h : firstE b n = 0) : ∀ j, j < n → b j = none := by
  have key : ∀ i, i ≤ n → ∀ j, j < i → b j = none := by
    intro i
    induction i with
    | zero => intro _ j hj; omega
    | succ i ih =>
      intro hi j hj
      have ih' := ih (by omega)
      by_cases hji : j = i
      · subst hji
        cases hq : b j with
        | none => rfl
        | some e =>
          have h1 := firstE_at (n := n) (by omega) ih' hq
          rw [h] at h1
          subst h1
          exact absurd hq (hb j)
      · exact ih' j (by omega)
  exact fun i hi => key n (Nat.le_refl _) i hi

/-- Fewer, or as many and ahead. -/
def fewer (a b : List Int) : Bool := decide (a.length < b.length) || (decide (a.length = b.length) && lexB a b)

/-- The places of the cards that stay. -/
def stays (l r : List Int) : List Int := ((List.range l.length).filter fun x : Nat => !decide ((x : Int) ∈ r)).map fun x => (placesL l).getD x 0

end Go.Am
