/-
  Layer 13, the plain part: a pack without a card; columns, number by number.
  Conditions: none.
-/
import Derived.Test.YtenkokebdgekbaaPt16
namespace Go.Am
open Go.Gr

/-- The pack without a card, the greater ones one less. -/
def lessL (l : List Int) (x : Int) : List Int := l.filterMap fun c => if c < x then some c else if c > x then some (c - 1) else none
def lessF (x c : Int) : Int := if c < x then c else c - 1
theorem lessL_eq (l : List Int) (x : Int) : lessL l x = (l.filter fun c => decide (c ≠ x)).map (lessF x) := by
  unfold lessL lessF
  induction l with
  | nil => rfl
  | cons c l ih =>
    by_cases h1 : c < x
    · rw [List.filterMap_cons_some (by rw [if_pos h1]), ih, List.filter_cons_of_pos (by simp; omega), List.map_cons, if_pos h1]
    · by_cases h2 : c > x
      · rw [List.filterMap_cons_some (by rw [if_neg h1, if_pos h2]), ih, List.filter_cons_of_pos (by simp; omega), List.map_cons, if_neg h1]
      · rw [List.filterMap_cons_none (by rw [if_neg h1, if_neg h2]), ih, List.filter_cons_of_neg (by simp; omega)]
theorem lessL_take {l : List Int} {x : Int} {i : Nat} (hi : i < l.length) : lessL (l.take (i + 1)) x = lessL (l.take i) x ++ (if l.getD i 0 < x then [l.getD i 0] else if l.getD i 0 > x then [l.getD i 0 - 1] else []) := by
  unfold lessL
  rw [take_snoc hi, List.filterMap_append]
  congr 1
  by_cases h1 : l.getD i 0 < x
  · rw [List.filterMap_cons_some (by rw [if_pos h1]), if_pos h1]; rfl
  · by_cases h2 : l.getD i 0 > x
    · rw [List.filterMap_cons_some (by rw [if_neg h1, if_pos h2]), if_neg h1, if_pos h2]; rfl
    · rw [List.filterMap_cons_none (by rw [if_neg h1, if_neg h2]), if_neg h1, if_neg h2]; rfl
theorem lessL_len (l : List Int) (x : Int) : (lessL l x).length ≤ l.length := List.length_filterMap_le _ _
theorem ne_count {l : List Int} (hn : l.Nodup) (x : Int) : l.length ≤ (l.filter fun c => decide (c ≠ x)).length + 1 := by
  induction l with
  | nil => simp
  | cons a l ih =>
    have h2 := List.nodup_cons.1 hn
    by_cases h : a = x
    · subst h
      rw [List.filter_cons_of_neg (by simp)]
      have : l.filter (fun c => decide (c ≠ a)) = l := List.filter_eq_self.2 fun c hc => by simp; rintro rfl; exact h2.1 hc
      rw [this]; simp
    · rw [List.filter_cons_of_pos (by simpa using h), List.length_cons, List.length_cons]
      have := ih h2.2
      omega
theorem less_pack {l : List Int} (hp : IsPack l) {x : Int} (h0 : 0 ≤ x) (hx : x < l.length) : IsPack (lessL l x) ∧ (lessL l x).length + 1 = l.length := by
  have hlen : (lessL l x).length + 1 = l.length := by
    rw [lessL_eq, List.length_map]
    have h1 := ne_count hp.1 x
    have h2 : (l.filter fun c => decide (c ≠ x)).length < l.length := by
      rw [List.length_filter_lt_length_iff_exists]
      exact ⟨x, hp.onto h0 hx, by simp⟩
    omega
  refine ⟨⟨?_, ?_⟩, hlen⟩
  · rw [lessL_eq]
    unfold List.Nodup
    rw [List.pairwise_map]
    refine (hp.1.sublist List.filter_sublist).imp_of_mem ?_
    intro a b ha hb hab he
    have ha := (List.mem_filter.1 ha).2
    have hb := (List.mem_filter.1 hb).2
    simp only [decide_eq_true_eq] at ha hb
    unfold lessF at he
    split at he <;> split at he <;> omega
  · intro y hy
    rw [lessL_eq] at hy
    obtain ⟨c, hc, rfl⟩ := List.mem_map.1 hy
    obtain ⟨hc1, hc2⟩ := List.mem_filter.1 hc
    have := hp.2 c hc1
    simp only [decide_eq_true_eq] at hc2
    unfold lessF
    split <;> omega
theorem ris_less {f : Bool} {x a b : Int} (ha : a ≠ x) (hb : b ≠ x) : ris f (lessF x a) (lessF x b) = ris f a b := by
  unfold lessF
  cases f <;> simp only [ris] <;> split <;> split <;> (congr 1; simp; omega)
/-- Without a card no longest row is longer, or shorter by more than one. -/
theorem less_best {l : List Int} (hp : IsPack l) {x : Int} (h0 : 0 ≤ x) (hx : x < l.length) (f : Bool) : (bestOf (lessL l x) f).length ≤ (bestOf l f).length ∧ (bestOf l f).length ≤ (bestOf (lessL l x) f).length + 1 := by
  have hpl := (less_pack hp h0 hx).1
  constructor
  · have h1 := (bestOf_is (lessL l x) f).sub
    have h2 := best_mono hpl.1 f
    rw [lessL_eq] at h1
    obtain ⟨s, hs, he⟩ := List.sublist_map_iff.1 h1
    rw [← lessL_eq] at he
    rw [he, List.length_map]
    refine best_top hp.1 (hs.trans List.filter_sublist) ?_
    rw [he] at h2
    have h3 := List.pairwise_map.1 h2
    refine h3.imp_of_mem ?_
    intro a b ha hb hab
    have ha := (List.mem_filter.1 (hs.subset ha)).2
    have hb := (List.mem_filter.1 (hs.subset hb)).2
    simp only [decide_eq_true_eq] at ha hb
    rwa [ris_less ha hb] at hab
  · have h1 := (bestOf_is l f).sub
    have h2 := best_mono hp.1 f
    have h3 := ne_count (hp.1.sublist h1) x
    have h4 : (((bestOf l f).filter fun c => decide (c ≠ x)).map (lessF x)).length ≤ (bestOf (lessL l x) f).length := by
      refine best_top hpl.1 ?_ ?_
      · rw [lessL_eq]; exact (h1.filter _).map _
      · refine List.pairwise_map.2 ((h2.sublist List.filter_sublist).imp_of_mem ?_)
        intro a b ha hb hab
        have ha := (List.mem_filter.1 ha).2
        have hb := (List.mem_filter.1 hb).2
        simp only [decide_eq_true_eq] at ha hb
        rwa [ris_less ha hb]
    rw [List.length_map] at h4
    omega
/-- Upside down, rising and falling rows are exchanged. -/
theorem rev_best {l : List Int} (hn : l.Nodup) : (bestOf l false).length = (bestOf l.reverse true).length := by
  have hr : l.reverse.Nodup := (List.reverse_perm l).nodup_iff.2 hn
  have key : ∀ (l : List Int) (f : Bool), l.Nodup → l.reverse.Nodup → (bestOf l f).length ≤ (bestOf l.reverse (!f)).length := by
    intro l f hn hr
    have h2 := best_mono hn f
    have := best_top hr (f := !f) (s := (bestOf l f).reverse) ((bestOf_is l f).sub.reverse) ?_
    · rwa [List.length_reverse] at this
    · refine List.pairwise_reverse.2 (h2.imp ?_)
      intro a b hab
      cases f <;> simpa [ris] using hab
  have h1 := key l false hn hr
  have h2 := key l.reverse true hr (by rw [List.reverse_reverse]; exact hn)
  rw [List.reverse_reverse] at h2
  exact Nat.le_antisymm h1 h2
theorem inv_places {l : List Int} (hp : IsPack l) : InvL l (placesL l) := by
  refine InvL.of hp (placesL_len l) fun i hi => ?_
  have hb := hp.2 _ (getD_mem hi)
  rw [placesL_getD (by omega), show ((l.getD i 0).toNat : Int) = l.getD i 0 by omega, idxOf_getD hp.1 hi]

/-- Columns, of which some have got one number more. -/
def colsIn (C : List (List Int)) (R : List Int) (j : Nat) : List (List Int) := (List.range (max C.length j)).map fun k => C.getD k [] ++ if k < j then [R.getD k 0] else []
theorem colsIn_zero (C : List (List Int)) (R : List Int) : colsIn C R 0 = C := by
  unfold colsIn
  apply List.ext_getElem (by simp)
  intro i h1 h2
  simp [List.getD_eq_getElem?_getD, List.getElem?_eq_getElem h2]
theorem colsIn_len (C : List (List Int)) (R : List Int) (j : Nat) : (colsIn C R j).length = max C.length j := by simp [colsIn]
theorem colsIn_get (C : List (List Int)) (R : List Int) (j k : Nat) : (colsIn C R j).getD k [] = C.getD k [] ++ if k < j then [R.getD k 0] else [] := by
  unfold colsIn
  rw [List.getD_eq_getElem?_getD, List.getElem?_map]
  by_cases h : k < max C.length j
  · rw [List.getElem?_range h]; rfl
  · rw [List.getElem?_eq_none (by simp; omega), getDL_out (by omega), if_neg (by omega)]; rfl
theorem listL_ext {A B : List (List Int)} (hl : A.length = B.length) (h : ∀ k, A.getD k [] = B.getD k []) : A = B := by
  apply List.ext_getElem hl
  intro i h1 h2
  have := h i
  rw [List.getD_eq_getElem?_getD, List.getD_eq_getElem?_getD, List.getElem?_eq_getElem h1, List.getElem?_eq_getElem h2] at this
  exact this
theorem colsIn_succ (C : List (List Int)) (R : List Int) (j : Nat) : (roomy (colsIn C R j) j).set j ((roomy (colsIn C R j) j).getD j [] ++ [R.getD j 0]) = colsIn C R (j + 1) := by
  have hle : j ≤ (colsIn C R j).length := by rw [colsIn_len]; omega
  refine listL_ext ?_ fun k => ?_
  · rw [List.length_set, roomy_length, colsIn_len, colsIn_len]
    split <;> omega
  · rw [getDL_set (roomy_lt hle), roomy_getD, roomy_getD, colsIn_get, colsIn_get, colsIn_get]
    by_cases h : j = k
    · subst h
      rw [if_pos rfl, if_neg (by omega), if_pos (by omega), List.append_nil]
    · rw [if_neg h]
      by_cases h2 : k < j
      · rw [if_pos h2, if_pos (by omega)]
      · rw [if_neg h2, if_neg (by omega)]
theorem tab_take {T : List (List Int)} (ht : Tab T) (i : Nat) : Tab (T.take i) := by
  induction T generalizing i with
  | nil => simp; trivial
  | cons R T ih =>
    cases i with
    | zero => trivial
    | succ i =>
      rw [List.take_succ_cons]
      refine ⟨ht.1, ht.2.1, ?_, ih ht.2.2.2 i⟩
      have h1 := ht.2.2.1
      cases T with
      | nil => simpa using h1
      | cons S T =>
        cases i with
        | zero => exact ⟨Nat.zero_le _, fun j hj => absurd hj (Nat.not_lt_zero _)⟩
        | succ i => exact h1
theorem cols_end {T : List (List Int)} (ht : Tab T) {i : Nat} (hi : i < T.length) : colsIn (colsOf (T.take i)) (T.getD i []) (T.getD i []).length = colsOf (T.take (i + 1)) := by
  have h1 := tab_take ht i
  have h2 := tab_take ht (i + 1)
  have h0 : (T.getD i []).length ≤ (T.getD 0 []).length := tab_first ht _ (getDL_mem hi)
  have hz : ∀ k, 0 < k → (T.take k).getD 0 [] = T.getD 0 [] := by
    intro k hk
    rw [List.getD_eq_getElem?_getD, List.getElem?_take, if_pos hk, ← List.getD_eq_getElem?_getD]
  have hcl : ∀ T : List (List Int), (colsOf T).length = (T.getD 0 []).length := fun T => by simp [colsOf]
  refine listL_ext ?_ fun k => ?_
  · rw [colsIn_len, hcl, hcl, hz (i + 1) (by omega)]
    by_cases hi0 : i = 0
    · subst hi0; simp
    · rw [hz i (by omega)]; omega
  · rw [colsIn_get, colsOf_get h1, colsOf_get h2]
    have e : T.take (i + 1) = T.take i ++ [T.getD i []] := by
      rw [List.take_add_one, List.getElem?_eq_getElem hi, List.getD_eq_getElem?_getD, List.getElem?_eq_getElem hi]; rfl
    unfold colT
    rw [e, List.filterMap_append]
    congr 1
    by_cases hk : k < (T.getD i []).length
    · have h5 : List.filterMap (fun R => R[k]?) [T.getD i []] = (T.getD i [])[k] :: List.filterMap (fun R => R[k]?) [] := List.filterMap_cons_some (List.getElem?_eq_getElem hk)
      rw [if_pos hk, h5, List.getD_eq_getElem?_getD (i := k), List.getElem?_eq_getElem hk]; rfl
    · have h5 : List.filterMap (fun R => R[k]?) [T.getD i []] = List.filterMap (fun R => R[k]?) [] := List.filterMap_cons_none (List.getElem?_eq_none (by omega))
      rw [if_neg hk, h5]; rfl
theorem colsOf_row {T : List (List Int)} (ht : Tab T) (k : Nat) : ((colsOf T).getD k []).length ≤ T.length := by
  rw [colsOf_get ht]; exact List.length_filterMap_le _ _
end Go.Am
