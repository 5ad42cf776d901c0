/-
  Layer 13, the plain part: what a pack without an error is; piles.
  Conditions: none.
-/
import Derived.Test.YtenkokebdgekbaaCa
import Derived.Test.YtenkokebdgekbaaGrA
namespace Go.Am
open Go.Gr

/-- The numbers from 0 on, each once. -/
def IsPack (l : List Int) : Prop := l.Nodup ∧ ∀ x ∈ l, 0 ≤ x ∧ x < l.length
theorem eachE_ok {l : List Int} (h : eachE l = 0) : ∀ i, i < l.length → badAt l i = none := by
  have key : ∀ i, i ≤ l.length → ∀ j, j < i → badAt l j = none := by
    intro i
    induction i with
    | zero => intro _ j hj; omega
    | succ i ih =>
      intro hi j hj
      have ih' := ih (by omega)
      by_cases hji : j = i
      · subst hji
        cases hb : badAt l j with
        | none => rfl
        | some e =>
          have h1 := eachE_at (by omega) ih' hb
          have h2 : e = 2 ∨ e = 6 := by
            unfold badAt at hb
            split at hb
            · split at hb
              · cases hb; exact .inr rfl
              · cases hb
            · cases hb; exact .inl rfl
          omega
      · exact ih' j (by omega)
  exact fun i hi => key l.length (Nat.le_refl _) i hi
theorem eachE_pack {l : List Int} (h : eachE l = 0) : IsPack l := by
  have h1 := eachE_ok h
  refine ⟨?_, ?_⟩
  · refine List.pairwise_iff_getElem.2 ?_
    intro i j hi hj hij he
    have h2 := (badAt_in (h1 j hj)).2.2
    apply h2
    have e1 : l.getD j 0 = l[i] := by rw [List.getD_eq_getElem?_getD, List.getElem?_eq_getElem hj, Option.getD_some, he]
    rw [e1]
    have : (l.take j)[i]'(by rw [List.length_take]; omega) = l[i] := by simp
    rw [← this]
    exact List.getElem_mem _
  · intro x hx
    obtain ⟨i, hi, rfl⟩ := mem_getD hx
    have h2 := badAt_in (h1 i hi)
    omega
theorem eachE_of {l : List Int} (h : IsPack l) : eachE l = 0 := by
  refine eachE_none fun j hj => ?_
  have h1 := h.2 _ (getD_mem hj)
  rw [badAt, if_pos (by omega), if_neg]
  intro hm
  obtain ⟨i, hi, he⟩ := mem_getD hm
  rw [List.length_take] at hi
  have h2 := List.pairwise_iff_getElem.1 h.1 i j (by omega) hj (by omega)
  simp only [List.getD_eq_getElem?_getD, List.getElem?_take, show i < j by omega, if_true, List.getElem?_eq_getElem hj, List.getElem?_eq_getElem (show i < l.length by omega), Option.getD_some] at he
  exact h2 he
theorem checkE_ok {l : List Int} (h : checkE l = 0) : 0 < l.length ∧ l.length ≤ 9 ∧ IsPack l := by
  unfold checkE at h
  split at h
  · omega
  · split at h
    · omega
    · exact ⟨by omega, by omega, eachE_pack h⟩
theorem checkE_of {l : List Int} (h0 : 0 < l.length) (h9 : l.length ≤ 9) (hp : IsPack l) : checkE l = 0 := by
  rw [checkE, if_neg (by omega), if_neg (by omega), eachE_of hp]

def okE {α : Type} (l : List Int) (d x : α) : α := if checkE l = 0 then x else d
theorem okE_yes {α : Type} {l : List Int} (h : checkE l = 0) (d x : α) : okE l d x = x := if_pos h
theorem okE_no {α : Type} {l : List Int} (h : ¬ checkE l = 0) (d x : α) : okE l d x = d := if_neg h

/-- Piles. -/
def lastD (p : List Int) : Int := p.getD (p.length - 1) 0
def roomy (ps : List (List Int)) (k : Nat) : List (List Int) := if k = ps.length then ps ++ [[]] else ps
theorem roomy_length (ps : List (List Int)) (k : Nat) : (roomy ps k).length = if k = ps.length then ps.length + 1 else ps.length := by
  unfold roomy; split <;> simp
theorem roomy_lt {ps : List (List Int)} {k : Nat} (h : k ≤ ps.length) : k < (roomy ps k).length := by rw [roomy_length]; split <;> omega
theorem getDL_set {ps : List (List Int)} {i j : Nat} {q : List Int} (hi : i < ps.length) : (ps.set i q).getD j [] = if i = j then q else ps.getD j [] := by
  simp only [List.getD_eq_getElem?_getD, List.getElem?_set]
  by_cases h : i = j
  · subst h; simp [hi]
  · simp [h]
theorem getDL_snoc (ps : List (List Int)) (q : List Int) (j : Nat) : (ps ++ [q]).getD j [] = if j = ps.length then q else ps.getD j [] := by
  simp only [List.getD_eq_getElem?_getD]
  rcases Nat.lt_trichotomy j ps.length with h | h | h
  · rw [List.getElem?_append_left h, if_neg (by omega)]
  · subst h; simp
  · rw [List.getElem?_eq_none (by simp; omega), if_neg (by omega), List.getElem?_eq_none (by omega)]
theorem roomy_getD (ps : List (List Int)) (k j : Nat) : (roomy ps k).getD j [] = ps.getD j [] := by
  unfold roomy
  split
  · rw [getDL_snoc]
    split
    · rename_i h; subst h; rw [List.getD_eq_getElem?_getD, List.getElem?_eq_none (Nat.le_refl _)]; rfl
    · rfl
  · rfl
theorem roomy_yes {ps : List (List Int)} {k : Nat} (h : k = ps.length) : roomy ps k = ps ++ [[]] := if_pos h
theorem roomy_no {ps : List (List Int)} {k : Nat} (h : ¬ k = ps.length) : roomy ps k = ps := if_neg h

end Go.Am
