/-
  Layer 13, the plain part: how many cards some rows can have together.
  Conditions: none.
-/
import Derived.Test.YtenkokebdgekbaaPt8
namespace Go.Am
open Go.Gr

theorem best_top {r : List Int} (hn : r.Nodup) {f : Bool} {s : List Int} (hs : s.Sublist r) (hm : Mono f s) : s.length ≤ (bestOf r f).length := by
  have h1 := (bestOf_is r f).top s hs ((runs_mono (hn.sublist hs)).2 hm)
  rcases Nat.lt_or_ge (bestOf r f).length s.length with h | h
  · rw [better_long h] at h1; cases h1
  · exact h
theorem best_mono {r : List Int} (hn : r.Nodup) (f : Bool) : Mono f (bestOf r f) := (runs_mono (hn.sublist (bestOf_is r f).sub)).1 (bestOf_is r f).run

theorem tab_first {T : List (List Int)} (h : Tab T) : ∀ R ∈ T, R.length ≤ (T.getD 0 []).length := by
  induction T with
  | nil => simp
  | cons R T ih =>
    intro S hS
    rw [List.getD_cons_zero]
    rcases List.mem_cons.1 hS with rfl | hS
    · exact Nat.le_refl _
    · have h1 := ih h.2.2.2 S hS
      have h2 := h.2.2.1.1
      cases T with
      | nil => simp at hS
      | cons Q T => simp at h1 h2; omega

def colCnt (T : List (List Int)) (q : Nat) : Nat := T.countP fun R => decide (q < R.length)

end Go.Am
