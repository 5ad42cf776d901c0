/-
  Contracts of layer 13: a pack out of two tables.
  Conditions: none.
-/
import Derived.Test.YtenkokebdgekbaaCi
import Derived.Test.YtenkokebdgekbaaPt7
import Derived.Test.YtenkokebdgekbaaPt8
namespace Go.Am
open Go.Gr
def packE (T S : List (List Int)) : Int := if stdE T = 0 then (if stdE S = 0 then (if shapeL T = shapeL S then 0 else 13) else stdE S) else stdE T
def packOf (T S : List (List Int)) : List Int := if packE T S = 0 then unpack S S.flatten.length T else []

/-- Which row becomes longer by each number, so far. -/
def Says (S : List (List Int)) (L : List Int) (k x : Nat) : Prop := L.length = 9 ∧ ∀ r y, (r < k ∧ y < (S.getD r []).length) ∨ (r = k ∧ y < x) → L.getD ((S.getD r []).getD y 0).toNat 0 = (r : Int)
theorem Says.row {S : List (List Int)} {L : List Int} {k : Nat} (h : Says S L k (S.getD k []).length) : Says S L (k + 1) 0 := by
  refine ⟨h.1, ?_⟩
  rintro r y (⟨h1, h2⟩ | ⟨_, h2⟩)
  · rcases Nat.lt_succ_iff_lt_or_eq.1 h1 with h3 | rfl
    · exact h.2 r y (.inl ⟨h3, h2⟩)
    · exact h.2 r y (.inr ⟨rfl, h2⟩)
  · omega
theorem Says.next {S : List (List Int)} {L : List Int} {k x : Nat} (h : Says S L k x) (hp : IsPack S.flatten) (h9 : S.flatten.length ≤ 9) (hk : k < S.length) (hx : x < (S.getD k []).length) : Says S (L.set ((S.getD k []).getD x 0).toNat k) k (x + 1) := by
  have hb : ∀ r y, y < (S.getD r []).length → 0 ≤ (S.getD r []).getD y 0 ∧ (S.getD r []).getD y 0 < 9 := by
    intro r y hy
    have := hp.2 _ (memL_flat (getD_mem hy))
    omega
  have hkb := hb k x hx
  refine ⟨by rw [List.length_set]; exact h.1, ?_⟩
  intro r y hry
  rw [getD_set (by have := h.1; omega)]
  have hy : y < (S.getD r []).length := by rcases hry with h1 | ⟨rfl, h1⟩ <;> omega
  have hrb := hb r y hy
  have hrl : r < S.length := by
    rcases Nat.lt_or_ge r S.length with h1 | h1
    · exact h1
    · rw [getDL_out h1] at hy; simp at hy
  by_cases he : r = k ∧ y = x
  · obtain ⟨rfl, rfl⟩ := he
    rw [if_pos rfl]
  · rw [if_neg]
    · refine h.2 r y ?_
      rcases hry with h1 | ⟨rfl, h1⟩
      · exact .inl h1
      · exact .inr ⟨rfl, by omega⟩
    · have := flat_ne hp.1 r k y x hrl hk hy hx (by omega)
      omega
theorem Says.all {S : List (List Int)} {L : List Int} (h : Says S L S.length 0) (hS : Tab S) (hp : IsPack S.flatten) {i : Nat} (hi : i < S.flatten.length) : L.getD i 0 = (rowOf S i : Int) := by
  obtain ⟨h1, h2, _⟩ := row_facts hS hp hi
  obtain ⟨y, hy, hye⟩ := mem_getD h2
  have := h.2 (rowOf S i) y (.inl ⟨h1, hy⟩)
  rw [hye] at this
  simpa using this

end Go.Am
