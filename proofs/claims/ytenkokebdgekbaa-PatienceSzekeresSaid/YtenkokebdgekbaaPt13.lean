/-
  Layer 13, the plain part: there are as many piles as the longest rising row has cards; a pile falls.
  Conditions: none.
-/
import Derived.Test.YtenkokebdgekbaaPt9
import Derived.Test.YtenkokebdgekbaaPt5
namespace Go.Am
open Go.Gr

theorem tops_row (l : List Int) : topsOf (pilesOf l) = (insAll l).getD 0 [] := by
  induction l using snoc_ind with
  | h0 => rfl
  | h1 l c ih =>
    rw [pilesOf_snoc, topsOf_step, insAll_snoc, ← topsOf_pos, ← topsOf_len (pilesOf l)]
    cases hT : insAll l with
    | nil =>
      rw [hT] at ih
      have ih : topsOf (pilesOf l) = [] := ih
      rw [ih]
      rfl
    | cons R T =>
      rw [hT] at ih
      have ih : topsOf (pilesOf l) = R := ih
      rw [ih, ins_cons]
      by_cases h : pos R c = R.length
      · rw [if_pos h, if_pos h, h]; simp
      · rw [if_neg h, if_neg h]; rfl
theorem piles_rise {l : List Int} (hn : l.Nodup) : (pilesOf l).length = (bestOf l false).length := by
  rw [schen_rise hn, ← tops_row, topsOf_len]
/-- A pile falls. -/
theorem piles_fall (l : List Int) : ∀ i j, 0 < j → j < ((pilesOf l).getD i []).length → ((pilesOf l).getD i []).getD j 0 ≤ ((pilesOf l).getD i []).getD (j - 1) 0 := by
  induction l using snoc_ind with
  | h0 => intro i j _ hj; simp [pilesOf] at hj
  | h1 l c ih =>
    intro i j h0 hj
    have hk := roomy_lt (pileAt_le (pilesOf l) c)
    rw [pilesOf_snoc] at hj ⊢
    unfold pilesStep at hj ⊢
    rw [getDL_set hk] at hj ⊢
    simp only [roomy_getD] at hj ⊢
    by_cases hi : pileAt (pilesOf l) c = i
    · rw [if_pos hi] at hj ⊢
      rw [List.length_append, List.length_singleton] at hj
      rw [getD_snoc, getD_snoc]
      by_cases he : j = ((pilesOf l).getD (pileAt (pilesOf l) c) []).length
      · rw [if_pos he, if_neg (by omega)]
        have hlt : pileAt (pilesOf l) c < (pilesOf l).length := by
          rcases Nat.lt_or_ge (pileAt (pilesOf l) c) (pilesOf l).length with h | h
          · exact h
          · rw [List.getD_eq_getElem?_getD, List.getElem?_eq_none h] at he
            simp at he
            omega
        have h1 := pos_at (R := topsOf (pilesOf l)) (c := c) (by rw [topsOf_pos, topsOf_len]; exact hlt)
        rw [topsOf_pos, topsOf_getD _ _ hlt] at h1
        rw [he]
        exact h1
      · rw [if_neg he, if_neg (by omega)]
        exact ih _ j h0 (by omega)
    · rw [if_neg hi] at hj ⊢
      exact ih i j h0 hj
theorem piles_mem (l : List Int) : ∀ i x, x ∈ (pilesOf l).getD i [] → x ∈ l := by
  induction l using snoc_ind with
  | h0 => intro i x hx; simp [pilesOf] at hx
  | h1 l c ih =>
    intro i x hx
    have hk := roomy_lt (pileAt_le (pilesOf l) c)
    rw [pilesOf_snoc] at hx
    unfold pilesStep at hx
    rw [getDL_set hk] at hx
    simp only [roomy_getD] at hx
    split at hx
    · rcases List.mem_append.1 hx with h | h
      · exact List.mem_append_left _ (ih _ x h)
      · exact List.mem_append_right _ h
    · exact List.mem_append_left _ (ih _ x hx)
theorem tops_ne {l : List Int} (hn : l.Nodup) {i : Nat} (hi : i < l.length) {j : Nat} (hj : j < (pilesOf (l.take i)).length) : lastD ((pilesOf (l.take i)).getD j []) ≠ l.getD i 0 := by
  intro he
  have h1 : lastD ((pilesOf (l.take i)).getD j []) ∈ (pilesOf (l.take i)).getD j [] := getD_mem (by have := (pilesOf_row (l.take i) j).2 hj; omega)
  have h2 := piles_mem _ _ _ h1
  rw [he] at h2
  obtain ⟨q, hq, hqe⟩ := mem_getD h2
  rw [List.length_take] at hq
  have h4 : (l.take i).getD q 0 = l.getD q 0 := by simp [List.getD_eq_getElem?_getD, show q < i by omega]
  rw [h4] at hqe
  have := nodup_inj hn (i := q) (j := i) (x := l.getD i 0) (by rw [← hqe, List.getD_eq_getElem?_getD, List.getElem?_eq_getElem (by omega)]; rfl) (by rw [List.getD_eq_getElem?_getD, List.getElem?_eq_getElem hi]; rfl)
  omega
theorem schen_row0 {l : List Int} (hn : l.Nodup) (h0 : 0 < l.length) : 0 < (bestOf l true).length := by
  have hb := (bestOf_is l true).top [l.getD 0 0] (List.singleton_sublist.2 (getD_mem h0)) ((runs_mono (List.nodup_cons.2 ⟨List.not_mem_nil, List.nodup_nil⟩)).2 (List.pairwise_singleton _ _))
  rcases Nat.eq_zero_or_pos (bestOf l true).length with h | h
  · rw [better_long (by rw [h]; simp)] at hb; cases hb
  · exact h

end Go.Am
