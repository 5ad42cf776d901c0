/-
  Layer 13, the plain part: how many cards some rows can have together.
  Conditions: none.
-/
import Derived.Test.YtenkokebdgekbaaPt8
namespace Go.Am
open Go.Gr

theorem tab_first {T : List (List Int)} (h : Tab T) : ∀ R ∈ T, R.length ≤ (T.getD 0 []).length := by
  induction T with
  | nil => simp
  | cons R T ih =>
    intro S hS
    rw [List.getD_cons_zero]
    rcases List.mem_cons.1 hS with rfl | hS
    · exact Nat.le_refl _
    · have h1 := ih h.2.2.2 S hS
      have h2 := h.2.2.1.1
      cases T with
      | nil => simp at hS
      | cons Q T => simp at h1 h2; omega

def mostOf (l : List Int) (k : Nat) (f : Bool) : Nat := if f then colSum k (insAll l) else rowSum k (insAll l)

/-- How long rows and columns are. -/
def rowLens (T : List (List Int)) : List Int := T.map fun R => (R.length : Int)
def colCnt (T : List (List Int)) (q : Nat) : Nat := T.countP fun R => decide (q < R.length)
def colLens (T : List (List Int)) : List Int := (List.range (T.getD 0 []).length).map fun q => (colCnt T q : Int)
theorem rowLens_sum (T : List (List Int)) (k : Nat) : ((rowLens T).take k).sum = (rowSum k T : Int) := by
  induction T generalizing k with
  | nil => simp [rowLens, rowSum]
  | cons R T ih =>
    cases k with
    | zero => simp [rowSum]
    | succ k =>
      have := ih k
      simp only [rowLens, rowSum, List.map_cons, List.take_succ_cons, List.sum_cons] at this ⊢
      omega
theorem colCnt_sum (T : List (List Int)) (m : Nat) : ((List.range m).map fun q => (colCnt T q : Int)).sum = (colSum m T : Int) := by
  induction m with
  | zero =>
    have : colSum 0 T = 0 := by
      unfold colSum
      induction T with
      | nil => rfl
      | cons R T ih => simpa using ih
    simp [this]
  | succ m ih =>
    rw [List.range_succ, List.map_append, List.sum_append, ih]
    have : colSum (m + 1) T = colSum m T + colCnt T m := by
      clear ih
      unfold colSum colCnt
      induction T with
      | nil => rfl
      | cons R T ih =>
        rw [List.map_cons, List.sum_cons, List.map_cons, List.sum_cons, ih, List.countP_cons]
        by_cases h : m < R.length
        · simp [h]; omega
        · simp [h]; omega
    rw [this]
    simp
theorem colLens_sum {T : List (List Int)} (h : Tab T) (k : Nat) : ((colLens T).take k).sum = (colSum k T : Int) := by
  unfold colLens
  rw [← List.map_take, List.take_range, colCnt_sum]
  congr 1
  unfold colSum
  congr 1
  apply List.map_congr_left
  intro R hR
  have := tab_first h R hR
  omega

end Go.Am
