/-
  Layer 13, the plain part: what a pack without an error is; piles.
  Conditions: none.
-/
import Derived.Test.YtenkokebdgekbaaCa
import Derived.Test.YtenkokebdgekbaaGrA
namespace Go.Am
open Go.Gr

/-- The numbers from 0 on, each once. -/
def IsPack (l : List Int) : Prop := l.Nodup ∧ ∀ x ∈ l, 0 ≤ x ∧ x < l.length
theorem eachE_ok {l : List Int} (h : eachE l = 0) : ∀ i, i < l.length → badAt l i = none := by
  have key : ∀ i, i ≤ l.length → ∀ j, j < i → badAt l j = none := by
    intro i
    induction i with
    | zero => intro _ j hj; omega
    | succ i ih =>
      intro hi j hj
      have ih' := ih (by omega)
      by_cases hji : j = i
      · subst hji
        cases hb : badAt l j with
        | none => rfl
        | some e =>
          have h1 := eachE_at (by omega) ih' hb
          have h2 : e = 2 ∨ e = 6 := by
            unfold badAt at hb
            split at hb
            · split at hb
              · cases hb; exact .inr rfl
              · cases hb
            · cases hb; exact .inl rfl
          omega
      · exact ih' j (by omega)
  exact fun i hi => key l.length (Nat.le_refl _) i hi
theorem eachE_pack {l : List Int} (h : eachE l = 0) : IsPack l := by
  have h1 := eachE_ok h
  refine ⟨?_, ?_⟩
  · refine List.pairwise_iff_getElem.2 ?_
    intro i j hi hj hij he
    have h2 := (badAt_in (h1 j hj)).2.2
    apply h2
    have e1 : l.getD j 0 = l[i] := by rw [List.getD_eq_getElem?_getD, List.getElem?_eq_getElem hj, Option.getD_some, he]
    rw [e1]
    have : (l.take j)[i]'(by rw [List.length_take]; omega) = l[i] := by simp
    rw [← this]
    exact List.getElem_mem _
  · intro x hx
    obtain ⟨i, hi, rfl⟩ := mem_getD hx
    have h2 := badAt_in (h1 i hi)
    omega
theorem eachE_of {l : List Int} (h : IsPack l) : eachE l = 0 := by
  refine eachE_none fun j hj => ?_
  have h1 := h.2 _ (getD_mem hj)
  rw [badAt, if_pos (by omega), if_neg]
  intro hm
  obtain ⟨i, hi, he⟩ := mem_getD hm
  rw [List.length_take] at hi
  have h2 := List.pairwise_iff_getElem.1 h.1 i j (by omega) hj (by omega)
  simp only [List.getD_eq_getElem?_getD, List.getElem?_take, show i < j by omega, if_true, List.getElem?_eq_getElem hj, List.getElem?_eq_getElem (show i < l.length by omega), Option.getD_some] at he
  exact h2 he
theorem checkE_ok {l : List Int} (h : checkE l = 0) : 0 < l.length ∧ l.length ≤ 9 ∧ IsPack l := by
  unfold checkE at h
  split at h
  · omega
  · split at h
    · omega
    · exact ⟨by omega, by omega, eachE_pack h⟩
theorem checkE_of {l : List Int} (h0 : 0 < l.length) (h9 : l.length ≤ 9) (hp : IsPack l) : checkE l = 0 := by
  rw [checkE, if_neg (by omega), if_neg (by omega), eachE_of hp]

def okE {α : Type} (l : List Int) (d x : α) : α := if checkE l = 0 then x else d
theorem okE_yes {α : Type} {l : List Int} (h : checkE l = 0) (d x : α) : okE l d x = x := if_pos h
theorem okE_no {α : Type} {l : List Int} (h : ¬ checkE l = 0) (d x : α) : okE l d x = d := if_neg h

/-- Piles. -/
def lastD (p : List Int) : Int := p.getD (p.length - 1) 0
theorem lastD_snoc (p : List Int) (c : Int) : lastD (p ++ [c]) = c := by simp [lastD]
def pileAt (ps : List (List Int)) (c : Int) : Nat := ps.findIdx fun p => !decide (lastD p < c)
def roomy (ps : List (List Int)) (k : Nat) : List (List Int) := if k = ps.length then ps ++ [[]] else ps
def pilesStep (ps : List (List Int)) (c : Int) : List (List Int) := (roomy ps (pileAt ps c)).set (pileAt ps c) ((roomy ps (pileAt ps c)).getD (pileAt ps c) [] ++ [c])
def pilesOf (l : List Int) : List (List Int) := l.foldl pilesStep []
theorem pilesOf_snoc (l : List Int) (c : Int) : pilesOf (l ++ [c]) = pilesStep (pilesOf l) c := by simp [pilesOf]
theorem pilesOf_take {l : List Int} {i : Nat} (hi : i < l.length) : pilesOf (l.take (i + 1)) = pilesStep (pilesOf (l.take i)) (l.getD i 0) := by rw [take_snoc hi, pilesOf_snoc]
theorem pileAt_le (ps : List (List Int)) (c : Int) : pileAt ps c ≤ ps.length := List.findIdx_le_length
theorem roomy_length (ps : List (List Int)) (k : Nat) : (roomy ps k).length = if k = ps.length then ps.length + 1 else ps.length := by
  unfold roomy; split <;> simp
theorem roomy_lt {ps : List (List Int)} {k : Nat} (h : k ≤ ps.length) : k < (roomy ps k).length := by rw [roomy_length]; split <;> omega
theorem pilesStep_length (ps : List (List Int)) (c : Int) : (pilesStep ps c).length ≤ ps.length + 1 := by
  unfold pilesStep; rw [List.length_set, roomy_length]; split <;> omega
theorem getDL_set {ps : List (List Int)} {i j : Nat} {q : List Int} (hi : i < ps.length) : (ps.set i q).getD j [] = if i = j then q else ps.getD j [] := by
  simp only [List.getD_eq_getElem?_getD, List.getElem?_set]
  by_cases h : i = j
  · subst h; simp [hi]
  · simp [h]
theorem getDL_snoc (ps : List (List Int)) (q : List Int) (j : Nat) : (ps ++ [q]).getD j [] = if j = ps.length then q else ps.getD j [] := by
  simp only [List.getD_eq_getElem?_getD]
  rcases Nat.lt_trichotomy j ps.length with h | h | h
  · rw [List.getElem?_append_left h, if_neg (by omega)]
  · subst h; simp
  · rw [List.getElem?_eq_none (by simp; omega), if_neg (by omega), List.getElem?_eq_none (by omega)]
theorem roomy_getD (ps : List (List Int)) (k j : Nat) : (roomy ps k).getD j [] = ps.getD j [] := by
  unfold roomy
  split
  · rw [getDL_snoc]
    split
    · rename_i h; subst h; rw [List.getD_eq_getElem?_getD, List.getElem?_eq_none (Nat.le_refl _)]; rfl
    · rfl
  · rfl
/-- Each pile has a card, and no more than there are. -/
theorem pilesOf_row (l : List Int) : ∀ j, ((pilesOf l).getD j []).length ≤ l.length ∧ (j < (pilesOf l).length → 0 < ((pilesOf l).getD j []).length) := by
  induction l using snoc_ind with
  | h0 => intro j; simp [pilesOf]
  | h1 l c ih =>
    intro j
    have hk := roomy_lt (pileAt_le (pilesOf l) c)
    rw [pilesOf_snoc]
    unfold pilesStep
    rw [getDL_set hk, List.length_set, roomy_length]
    simp only [roomy_getD]
    have h1 := ih j
    have h2 := ih (pileAt (pilesOf l) c)
    have h3 := pileAt_le (pilesOf l) c
    split
    · rename_i he; subst he; simp only [List.length_append, List.length_singleton]; omega
    · refine ⟨by simp only [List.length_append, List.length_singleton]; omega, fun hj => h1.2 ?_⟩
      split at hj <;> omega
theorem pilesOf_len (l : List Int) : (pilesOf l).length ≤ l.length := by
  induction l using snoc_ind with
  | h0 => simp [pilesOf]
  | h1 l c ih => rw [pilesOf_snoc]; have := pilesStep_length (pilesOf l) c; simp; omega
/-- The uppermost cards. -/
def topsOf (ps : List (List Int)) : List Int := ps.map lastD
theorem topsOf_len (ps : List (List Int)) : (topsOf ps).length = ps.length := by simp [topsOf]
theorem topsOf_getD (ps : List (List Int)) (j : Nat) (hj : j < ps.length) : (topsOf ps).getD j 0 = lastD (ps.getD j []) := by
  simp [topsOf, List.getD_eq_getElem?_getD, List.getElem?_map, List.getElem?_eq_getElem hj]
theorem topsOf_pos (ps : List (List Int)) (c : Int) : pos (topsOf ps) c = pileAt ps c := by
  unfold pos topsOf pileAt
  rw [List.findIdx_map]
  rfl
theorem pileAt_eq {ps : List (List Int)} {c : Int} {k : Nat} (h1 : ∀ j, j < k → lastD (ps.getD j []) < c) (h2 : k < ps.length → ¬ lastD (ps.getD k []) < c) (h3 : k ≤ ps.length) : k = pileAt ps c := by
  rw [← topsOf_pos]
  symm
  refine pos_unique ?_ ?_ (by rw [topsOf_len]; exact h3)
  · intro j hj; rw [topsOf_getD _ _ (by omega)]; exact h1 j hj
  · intro hk; rw [topsOf_len] at hk; rw [topsOf_getD _ _ hk]; have := h2 hk; omega
theorem roomy_yes {ps : List (List Int)} {k : Nat} (h : k = ps.length) : roomy ps k = ps ++ [[]] := if_pos h
theorem roomy_no {ps : List (List Int)} {k : Nat} (h : ¬ k = ps.length) : roomy ps k = ps := if_neg h
theorem topsOf_step (ps : List (List Int)) (c : Int) : topsOf (pilesStep ps c) = (if pileAt ps c = ps.length then topsOf ps ++ [c] else topsOf ps).set (pileAt ps c) c := by
  unfold pilesStep
  rw [topsOf, List.map_set, lastD_snoc]
  unfold roomy
  split
  · rename_i h
    rw [h]
    simp [topsOf]
  · rfl
theorem topsOf_mono (l : List Int) : ∀ i j, i < j → j < (topsOf (pilesOf l)).length → (topsOf (pilesOf l)).getD i 0 ≤ (topsOf (pilesOf l)).getD j 0 := by
  induction l using snoc_ind with
  | h0 => intro i j _ hj; simp [pilesOf, topsOf] at hj
  | h1 l c ih =>
    intro i j hij hj
    rw [pilesOf_snoc, topsOf_step] at hj ⊢
    have hk := pileAt_le (pilesOf l) c
    have hlo : ∀ q, q < pileAt (pilesOf l) c → (topsOf (pilesOf l)).getD q 0 < c := fun q hq => pos_lt (by rw [topsOf_pos]; exact hq)
    have hl := topsOf_len (pilesOf l)
    split at hj
    · rename_i he
      rw [if_pos he]
      have hkl : pileAt (pilesOf l) c < (topsOf (pilesOf l) ++ [c]).length := by simp; omega
      rw [getD_set hkl, getD_set hkl]
      rw [List.length_set] at hj
      simp at hj
      rw [getD_snoc, getD_snoc]
      by_cases h1 : pileAt (pilesOf l) c = j
      · rw [if_pos h1, if_neg (by omega), if_neg (by omega)]
        have := hlo i (by omega); omega
      · rw [if_neg (by omega), if_neg (by omega), if_neg (by omega), if_neg (by omega)]
        exact ih i j hij (by omega)
    · rename_i he
      rw [if_neg he]
      rw [List.length_set] at hj
      have hkl : pileAt (pilesOf l) c < (topsOf (pilesOf l)).length := by omega
      have hhi := pos_at (R := topsOf (pilesOf l)) (c := c) (by rw [topsOf_pos]; exact hkl)
      rw [topsOf_pos] at hhi
      rw [getD_set hkl, getD_set hkl]
      split
      · rename_i h1
        rw [if_neg (by omega)]
        subst h1
        have := ih _ _ hij hj
        omega
      · split
        · rename_i h1 h2; subst h2
          have := hlo i (by omega); omega
        · exact ih i j hij hj

end Go.Am
