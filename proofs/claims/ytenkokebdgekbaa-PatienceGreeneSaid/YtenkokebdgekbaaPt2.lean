/-
  Layer 13, the plain part: rows of a pack as sets, the first one of the longest.
  Conditions: none.
-/
import Derived.Test.YtenkokebdgekbaaPt1
namespace Go.Am
open Go.Gr

/-- Order by the first difference. -/
def lexB : List Int → List Int → Bool
  | a :: p, b :: q => if a = b then lexB p q else decide (a < b)
  | _, _ => false
theorem lexB_nil (b : List Int) : lexB [] b = false := by cases b <;> rfl
theorem lexB_nil2 (b : List Int) : lexB b [] = false := by cases b <;> rfl
theorem lexB_trans : ∀ {a b c : List Int}, lexB a b = true → lexB b c = true → lexB a c = true := by
  intro a
  induction a with
  | nil => intro b c h _; rw [lexB_nil] at h; cases h
  | cons x a ih =>
    intro b c h1 h2
    cases b with
    | nil => rw [lexB_nil2] at h1; cases h1
    | cons y b =>
      cases c with
      | nil => rw [lexB_nil2] at h2; cases h2
      | cons z c =>
        simp only [lexB] at h1 h2 ⊢
        by_cases e1 : x = y
        · subst e1
          rw [if_pos rfl] at h1
          by_cases e2 : x = z
          · subst e2; rw [if_pos rfl] at h2 ⊢; exact ih h1 h2
          · rw [if_neg e2] at h2 ⊢; exact h2
        · rw [if_neg e1] at h1
          have h1 := of_decide_eq_true h1
          by_cases e2 : y = z
          · subst e2; rw [if_neg e1]; exact decide_eq_true h1
          · rw [if_neg e2] at h2
            have h2 := of_decide_eq_true h2
            rw [if_neg (by omega)]
            exact decide_eq_true (by omega)

/-- A row that rises, or falls. -/
def runsB (l : List Int) (f : Bool) : Bool := (List.range l.length).all fun i => decide (i = 0) || (decide (l.getD (i - 1) 0 < l.getD i 0) != f)

/-- One card may stand behind another. -/
def ris (f : Bool) (a b : Int) : Bool := if f then decide (b < a) else decide (a < b)
theorem ris_trans {f : Bool} {a b c : Int} (h1 : ris f a b = true) (h2 : ris f b c = true) : ris f a c = true := by
  cases f <;> simp [ris] at h1 h2 ⊢ <;> omega
abbrev Mono (f : Bool) (l : List Int) : Prop := l.Pairwise (fun a b => ris f a b = true)

def better (a b : List Int) : Bool := decide (b.length < a.length) || (decide (a.length = b.length) && lexB a b)

/-- The first one of the longest rows. -/
structure IsBest (l : List Int) (f : Bool) (r : List Int) : Prop where
  sub : r.Sublist l
  run : runsB r f = true
  top : ∀ s : List Int, s.Sublist l → runsB s f = true → better s r = false

end Go.Am
