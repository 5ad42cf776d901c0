/-
  Layer 13, the plain part: the two tables of a pack.
  Conditions: none.
-/
import Derived.Test.YtenkokebdgekbaaPt1
namespace Go.Am
open Go.Gr

/-- The row that becomes longer. -/
def insRow : List (List Int) → Int → Nat
  | [], _ => 0
  | R :: T, c => match bump R c with
    | none => 0
    | some (b, _) => insRow T b + 1
theorem ins_cons (R : List Int) (T : List (List Int)) (c : Int) : ins (R :: T) c = if pos R c = R.length then (R ++ [c]) :: T else R.set (pos R c) c :: ins T (R.getD (pos R c) 0) := by
  rw [ins, bump_pos]
  split <;> rename_i h <;> split at h <;> simp_all
theorem insRow_cons (R : List Int) (T : List (List Int)) (c : Int) : insRow (R :: T) c = if pos R c = R.length then 0 else insRow T (R.getD (pos R c) 0) + 1 := by
  rw [insRow, bump_pos]
  split <;> rename_i h <;> split at h <;> simp_all

theorem dropL_cons {T : List (List Int)} {k : Nat} (h : k < T.length) : T.drop k = T.getD k [] :: T.drop (k + 1) := by
  rw [List.drop_eq_getElem_cons h, List.getD_eq_getElem?_getD, List.getElem?_eq_getElem h]; rfl
theorem setL_eq {T : List (List Int)} {k : Nat} (h : k < T.length) (q : List Int) : T.set k q = T.take k ++ q :: T.drop (k + 1) := by
  rw [List.set_eq_take_append_cons_drop, if_pos h]

/-- On the way of a card through a table. -/
structure Way (T0 : List (List Int)) (c0 : Int) (T : List (List Int)) (k : Nat) (c : Int) : Prop where
  len : T.length = T0.length
  le : k ≤ T0.length
  same : ∀ j, k ≤ j → T.getD j [] = T0.getD j []
  ins : ins T0 c0 = T.take k ++ Go.Gr.ins (T.drop k) c
  row : insRow T0 c0 = k + insRow (T.drop k) c
theorem Way.start (T : List (List Int)) (c : Int) : Way T c T 0 c := ⟨rfl, Nat.zero_le _, fun _ _ => rfl, rfl, by simp⟩
theorem Way.next {T0 T : List (List Int)} {c0 c : Int} {k : Nat} (w : Way T0 c0 T k c) (hk : k < T0.length) (hp : pos (T.getD k []) c ≠ (T.getD k []).length) : Way T0 c0 (T.set k ((T.getD k []).set (pos (T.getD k []) c) c)) (k + 1) ((T.getD k []).getD (pos (T.getD k []) c) 0) := by
  have hkT : k < T.length := by rw [w.len]; exact hk
  have ht : (T.set k ((T.getD k []).set (pos (T.getD k []) c) c)).take (k + 1) = T.take k ++ [(T.getD k []).set (pos (T.getD k []) c) c] := by
    rw [setL_eq hkT, List.take_append, List.length_take, List.take_take, Nat.min_eq_right (by omega), show k + 1 - min k T.length = 1 by omega]
    simp
  have hd : (T.set k ((T.getD k []).set (pos (T.getD k []) c) c)).drop (k + 1) = T.drop (k + 1) := by
    rw [List.drop_set, if_pos (by omega)]
  refine ⟨by rw [List.length_set]; exact w.len, hk, ?_, ?_, ?_⟩
  · intro j hj
    rw [getDL_set hkT, if_neg (by omega)]
    exact w.same j (by omega)
  · rw [w.ins, ht, hd, dropL_cons hkT, ins_cons, if_neg hp]
    simp
  · rw [w.row, hd, dropL_cons hkT, insRow_cons, if_neg hp]
    omega
theorem Way.last {T0 T : List (List Int)} {c0 c : Int} {k : Nat} (w : Way T0 c0 T k c) (hk : k < T0.length) (hp : pos (T.getD k []) c = (T.getD k []).length) : Go.Gr.ins T0 c0 = T.set k (T.getD k [] ++ [c]) ∧ insRow T0 c0 = k := by
  have hkT : k < T.length := by rw [w.len]; exact hk
  refine ⟨?_, ?_⟩
  · rw [w.ins, dropL_cons hkT, ins_cons, if_pos hp, setL_eq hkT]
  · rw [w.row, dropL_cons hkT, insRow_cons, if_pos hp]; rfl
theorem Way.new {T0 T : List (List Int)} {c0 c : Int} (w : Way T0 c0 T T0.length c) : Go.Gr.ins T0 c0 = T ++ [[c]] ∧ insRow T0 c0 = T0.length := by
  have h1 := w.ins
  have h2 := w.row
  rw [← w.len, List.drop_length, List.take_length] at h1
  rw [← w.len, List.drop_length] at h2
  exact ⟨h1, by rw [h2, ← w.len]; rfl⟩

theorem getDL_out {T : List (List Int)} {k : Nat} (h : T.length ≤ k) : T.getD k [] = [] := by
  rw [List.getD_eq_getElem?_getD, List.getElem?_eq_none h]; rfl
/-- The second table. -/
def recStep (S : List (List Int)) (k : Nat) (i : Nat) : List (List Int) := (roomy S k).set k ((roomy S k).getD k [] ++ [(i : Int)])
def recTo (l : List Int) : Nat → List (List Int)
  | 0 => []
  | i + 1 => recStep (recTo l i) (insRow (insAll (l.take i)) (l.getD i 0)) i
def recOf (l : List Int) : List (List Int) := recTo l l.length
theorem insAll_take {l : List Int} {i : Nat} (hi : i < l.length) : insAll (l.take (i + 1)) = ins (insAll (l.take i)) (l.getD i 0) := by rw [take_snoc hi, insAll_snoc]

def shapeL (T : List (List Int)) : List Nat := T.map List.length
theorem shape_ins (T : List (List Int)) (c : Int) : insRow T c ≤ T.length ∧ shapeL (ins T c) = if insRow T c = T.length then shapeL T ++ [1] else (shapeL T).set (insRow T c) ((T.getD (insRow T c) []).length + 1) := by
  induction T generalizing c with
  | nil => simp [insRow, ins, shapeL]
  | cons R T ih =>
    rw [insRow_cons, ins_cons]
    by_cases hp : pos R c = R.length
    · rw [if_pos hp, if_pos hp]
      simp [shapeL]
    · rw [if_neg hp, if_neg hp]
      obtain ⟨h1, h2⟩ := ih (R.getD (pos R c) 0)
      refine ⟨by simp; exact h1, ?_⟩
      simp only [shapeL, List.map_cons, List.length_set, List.length_cons] at h2 ⊢
      rw [h2]
      by_cases h3 : insRow T (R.getD (pos R c) 0) = T.length
      · rw [if_pos h3, if_pos (by omega)]; rfl
      · rw [if_neg h3, if_neg (by omega)]
        rw [List.set_cons_succ, List.getD_cons_succ]
theorem shape_rec (S : List (List Int)) (k i : Nat) (hk : k ≤ S.length) : shapeL (recStep S k i) = if k = S.length then shapeL S ++ [1] else (shapeL S).set k ((S.getD k []).length + 1) := by
  unfold recStep shapeL
  rw [List.map_set, roomy_getD, List.length_append, List.length_singleton]
  by_cases h : k = S.length
  · rw [if_pos h, roomy_yes h]
    subst h
    simp
  · rw [if_neg h, roomy_no h]
theorem shapes (l : List Int) : ∀ i, i ≤ l.length → shapeL (recTo l i) = shapeL (insAll (l.take i)) := by
  intro i
  induction i with
  | zero => intro _; simp [recTo, insAll, shapeL]
  | succ i ih =>
    intro hi
    have h1 := ih (by omega)
    have hl : (recTo l i).length = (insAll (l.take i)).length := by have := congrArg List.length h1; simpa [shapeL] using this
    obtain ⟨h2, h3⟩ := shape_ins (insAll (l.take i)) (l.getD i 0)
    rw [insAll_take (by omega), h3, recTo, shape_rec _ _ _ (by omega), h1, hl]
    congr 2
    have : ∀ k, ((recTo l i).getD k []).length = (shapeL (recTo l i)).getD k 0 := by
      intro k; simp only [shapeL, List.getD_eq_getElem?_getD, List.getElem?_map]; cases (recTo l i)[k]? <;> rfl
    have h4 : ∀ k, ((insAll (l.take i)).getD k []).length = (shapeL (insAll (l.take i))).getD k 0 := by
      intro k; simp only [shapeL, List.getD_eq_getElem?_getD, List.getElem?_map]; cases (insAll (l.take i))[k]? <;> rfl
    rw [this, h4, h1]
theorem shapes_len (l : List Int) {i : Nat} (hi : i ≤ l.length) : (recTo l i).length = (insAll (l.take i)).length := by
  have := congrArg List.length (shapes l i hi)
  simpa [shapeL] using this
theorem shapes_row (l : List Int) {i : Nat} (hi : i ≤ l.length) (k : Nat) : ((recTo l i).getD k []).length = ((insAll (l.take i)).getD k []).length := by
  have h1 : ∀ T : List (List Int), (T.getD k []).length = (shapeL T).getD k 0 := by
    intro T; simp only [shapeL, List.getD_eq_getElem?_getD, List.getElem?_map]; cases T[k]? <;> rfl
  rw [h1, h1, shapes l i hi]

/-- No row has more than all. -/
theorem row_word (T : List (List Int)) (k : Nat) : (T.getD k []).length ≤ (wordT T).length := by
  induction T generalizing k with
  | nil => simp
  | cons R T ih =>
    rw [wordT_cons, List.length_append]
    cases k with
    | zero => simp
    | succ k => rw [List.getD_cons_succ]; have := ih k; omega
theorem rows_word {T : List (List Int)} (h : ∀ R ∈ T, R ≠ []) : T.length ≤ (wordT T).length := by
  induction T with
  | nil => simp
  | cons R T ih =>
    rw [wordT_cons, List.length_append, List.length_cons]
    have h1 := ih (fun S hS => h S (by simp [hS]))
    have := List.length_pos_iff.2 (h R (by simp))
    omega
theorem tab_ne {T : List (List Int)} (h : Tab T) : ∀ R ∈ T, R ≠ [] := by
  induction T with
  | nil => simp
  | cons R T ih =>
    intro S hS
    rcases List.mem_cons.1 hS with rfl | hS
    · exact h.1
    · exact ih h.2.2.2 S hS
theorem rowT_rise {T : List (List Int)} (h : Go.Gr.Rows T) (k : Nat) : Rise (T.getD k []) := by
  rw [List.getD_eq_getElem?_getD]
  cases hk : T[k]? with
  | none => simp
  | some R => exact h R (List.mem_of_getElem? hk)
theorem rise_mono {R : List Int} (h : Rise R) : ∀ i j, i < j → j < R.length → R.getD i 0 ≤ R.getD j 0 := fun i j hij hj => by have := rise_getD h hij hj; omega
/-- What is known of the tables behind some cards of a pack. -/
theorem insAll_facts {l : List Int} (hn : l.Nodup) {i : Nat} (hi : i ≤ l.length) : Tab (insAll (l.take i)) ∧ (∀ k, ((insAll (l.take i)).getD k []).length ≤ i) ∧ (insAll (l.take i)).length ≤ i ∧ (wordT (insAll (l.take i))).Perm (l.take i) := by
  have h1 : (l.take i).Nodup := hn.sublist (List.take_sublist _ _)
  have h2 := insAll_tab h1
  have h3 := (insAll_ok h1).2.2
  have h4 := h3.length_eq
  rw [List.length_take] at h4
  refine ⟨h2, fun k => ?_, ?_, h3⟩
  · have := row_word (insAll (l.take i)) k; omega
  · have := rows_word (tab_ne h2); omega

end Go.Am
