/-
  Layer 13, the plain part: tables in order.
  Conditions: none.
-/
import Derived.Test.YtenkokebdgekbaaPt5
import Derived.Test.YtenkokebdgekbaaPt6
import Derived.Test.YtenkokebdgekbaaCf
namespace Go.Am
open Go.Gr

def rowBad (T : List (List Int)) (i : Nat) : Option Int := if (T.getD i []).length = 0 then some 4 else if 0 < i ∧ (T.getD (i - 1) []).length < (T.getD i []).length then some 5 else none
def cellBad (T : List (List Int)) (i k : Nat) : Prop := (0 < k ∧ (T.getD i []).getD k 0 < (T.getD i []).getD (k - 1) 0) ∨ (0 < i ∧ (T.getD i []).getD k 0 < (T.getD (i - 1) []).getD k 0)
instance (T : List (List Int)) (i k : Nat) : Decidable (cellBad T i k) := by unfold cellBad; exact inferInstance
def ordB (T : List (List Int)) : Bool := (List.range T.length).any fun i => (List.range (T.getD i []).length).any fun k => decide (cellBad T i k)
def rowsE (T : List (List Int)) : Int := firstE (rowBad T) T.length
def stdE (T : List (List Int)) : Int := if T.length = 0 then 4 else if rowsE T = 0 then (if 9 < T.flatten.length then 3 else if eachE T.flatten = 0 then (if ordB T then 7 else 0) else eachE T.flatten) else rowsE T
theorem ordB_false {T : List (List Int)} (h : ∀ i, i < T.length → ∀ k, k < (T.getD i []).length → ¬ cellBad T i k) : ordB T = false := by
  rw [ordB, List.any_eq_false]
  intro i hi
  rw [Bool.not_eq_true, List.any_eq_false]
  intro k hk
  rw [decide_eq_false (h i (List.mem_range.1 hi) k (List.mem_range.1 hk))]
  decide
/-- Sizes of tables that are not huge. -/
def Small (T : List (List Int)) : Prop := T.length ≤ 41 ∧ ∀ i, (T.getD i []).length ≤ 40
theorem Small.of {T : List (List Int)} (h : hugeB T = false) : Small T := by
  have h1 : ∀ i, i < T.length → ¬ 40 < i ∧ ¬ 40 < (T.getD i []).length := by
    intro i hi
    refine ⟨fun h2 => ?_, fun h2 => ?_⟩
    · rw [hugeB_true hi (.inl h2)] at h; cases h
    · rw [hugeB_true hi (.inr h2)] at h; cases h
  refine ⟨?_, fun i => ?_⟩
  · rcases Nat.lt_or_ge 41 T.length with h2 | h2
    · have := h1 41 h2; omega
    · exact h2
  · rcases Nat.lt_or_ge i T.length with h2 | h2
    · have := h1 i h2; omega
    · rw [getDL_out h2]; simp
theorem flat_succ {T : List (List Int)} {i : Nat} (hi : i < T.length) : (T.take (i + 1)).flatten = (T.take i).flatten ++ T.getD i [] := by
  rw [List.take_add_one, List.flatten_append, List.getD_eq_getElem?_getD, List.getElem?_eq_getElem hi]; simp

end Go.Am
