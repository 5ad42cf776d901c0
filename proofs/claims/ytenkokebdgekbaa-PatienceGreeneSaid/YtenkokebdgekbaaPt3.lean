/-
  Layer 13, the plain part: the first one of the longest rows, card by card.
  Conditions: none.
-/
import Derived.Test.YtenkokebdgekbaaPt2
namespace Go.Am
open Go.Gr

def lgStep (f : Bool) (x : Int) (ys : List (Int × Int)) (m : Int) : Int := ys.foldl (fun m p => if ris f x p.1 then max m (1 + p.2) else m) m
def lgL (f : Bool) : List Int → List Int
  | [] => []
  | x :: xs => lgStep f x (xs.zip (lgL f xs)) 1 :: lgL f xs
theorem lgL_length (f : Bool) (l : List Int) : (lgL f l).length = l.length := by
  induction l with
  | nil => rfl
  | cons x xs ih => simp [lgL, ih]
theorem lgStep_snoc (f : Bool) (x : Int) (ys : List (Int × Int)) (p : Int × Int) (m : Int) : lgStep f x (ys ++ [p]) m = if ris f x p.1 then max (lgStep f x ys m) (1 + p.2) else lgStep f x ys m := by simp [lgStep]
theorem lgStep_ge (f : Bool) (x : Int) (ys : List (Int × Int)) (m : Int) : m ≤ lgStep f x ys m ∧ ∀ p ∈ ys, ris f x p.1 = true → 1 + p.2 ≤ lgStep f x ys m := by
  induction ys using snoc_ind with
  | h0 => exact ⟨Int.le_refl _, by simp⟩
  | h1 ys p ih =>
    rw [lgStep_snoc]
    refine ⟨by split <;> omega, ?_⟩
    intro q hq hr
    rcases List.mem_append.1 hq with hq | hq
    · have := ih.2 q hq hr
      split <;> omega
    · simp at hq; subst hq
      rw [if_pos hr]; omega
theorem lgStep_at (f : Bool) (x : Int) (ys : List (Int × Int)) (m : Int) : lgStep f x ys m = m ∨ ∃ p ∈ ys, ris f x p.1 = true ∧ lgStep f x ys m = 1 + p.2 := by
  induction ys using snoc_ind with
  | h0 => exact .inl rfl
  | h1 ys p ih =>
    rw [lgStep_snoc]
    by_cases h : ris f x p.1 = true
    · rw [if_pos h]
      rcases Int.le_total (lgStep f x ys m) (1 + p.2) with h1 | h1
      · exact .inr ⟨p, by simp, h, by omega⟩
      · rw [show max (lgStep f x ys m) (1 + p.2) = lgStep f x ys m by omega]
        rcases ih with h2 | ⟨q, hq, hr, he⟩
        · exact .inl h2
        · exact .inr ⟨q, by simp [hq], hr, he⟩
    · rw [if_neg h]
      rcases ih with h2 | ⟨q, hq, hr, he⟩
      · exact .inl h2
      · exact .inr ⟨q, by simp [hq], hr, he⟩

theorem cons_sub {l : List Int} {y : Int} {s : List Int} : ∀ {q : Nat}, (y :: s).Sublist (l.drop q) → ∃ j, q ≤ j ∧ j < l.length ∧ l.getD j 0 = y ∧ s.Sublist (l.drop (j + 1)) := by
  induction l with
  | nil => intro q h; simp at h
  | cons x xs ih =>
    intro q h
    cases q with
    | succ q =>
      rw [List.drop_succ_cons] at h
      obtain ⟨j, h1, h2, h3, h4⟩ := ih h
      exact ⟨j + 1, by omega, by simp; omega, by simpa using h3, by simpa using h4⟩
    | zero =>
      rw [List.drop_zero] at h
      cases h with
      | cons _ h =>
        obtain ⟨j, h1, h2, h3, h4⟩ := ih (q := 0) (by simpa using h)
        exact ⟨j + 1, by omega, by simp; omega, by simpa using h3, by simpa using h4⟩
      | cons_cons _ h => exact ⟨0, by omega, by simp, by simp, by simpa using h⟩
theorem drop_cons {l : List Int} {j : Nat} (h : j < l.length) : l.drop j = l.getD j 0 :: l.drop (j + 1) := by
  rw [List.drop_eq_getElem_cons h, List.getD_eq_getElem?_getD, List.getElem?_eq_getElem h]; rfl

theorem zip_getD {xs ys : List Int} (h : ys.length = xs.length) {p : Int × Int} (hp : p ∈ xs.zip ys) : ∃ k, k < xs.length ∧ p = (xs.getD k 0, ys.getD k 0) := by
  obtain ⟨k, hk, rfl⟩ := List.getElem_of_mem hp
  simp at hk
  refine ⟨k, by omega, ?_⟩
  rw [List.getElem_zip]
  simp [List.getD_eq_getElem?_getD, List.getElem?_eq_getElem (show k < xs.length by omega), List.getElem?_eq_getElem (show k < ys.length by omega)]
theorem zip_mem {xs ys : List Int} (h : ys.length = xs.length) {k : Nat} (hk : k < xs.length) : (xs.getD k 0, ys.getD k 0) ∈ xs.zip ys := by
  have : (xs.zip ys)[k]'(by simp; omega) = (xs.getD k 0, ys.getD k 0) := by
    rw [List.getElem_zip]
    simp [List.getD_eq_getElem?_getD, List.getElem?_eq_getElem (show k < xs.length by omega), List.getElem?_eq_getElem (show k < ys.length by omega)]
  rw [← this]
  exact List.getElem_mem _

/-- What the numbers say. -/
theorem lg_says (f : Bool) (l : List Int) : ∀ j, j < l.length →
    (∀ s : List Int, s.Sublist (l.drop (j + 1)) → Mono f (l.getD j 0 :: s) → (s.length : Int) + 1 ≤ (lgL f l).getD j 0) ∧
    (∃ s : List Int, s.Sublist (l.drop (j + 1)) ∧ Mono f (l.getD j 0 :: s) ∧ (s.length : Int) + 1 = (lgL f l).getD j 0) ∧
    ((lgL f l).getD j 0 = 1 ∨ ∃ k, j < k ∧ k < l.length ∧ ris f (l.getD j 0) (l.getD k 0) = true ∧ (lgL f l).getD j 0 = 1 + (lgL f l).getD k 0) := by
  induction l with
  | nil => intro j hj; simp at hj
  | cons x xs ih =>
    have hlen := lgL_length f xs
    intro j hj
    cases j with
    | succ j =>
      obtain ⟨h1, h2, h3⟩ := ih j (by simpa using hj)
      refine ⟨?_, ?_, ?_⟩
      · intro s hs hm; simpa [lgL] using h1 s (by simpa using hs) (by simpa using hm)
      · obtain ⟨s, h4, h5, h6⟩ := h2
        exact ⟨s, by simpa using h4, by simpa using h5, by simpa [lgL] using h6⟩
      · rcases h3 with h3 | ⟨k, h4, h5, h6, h7⟩
        · exact .inl (by simpa [lgL] using h3)
        · exact .inr ⟨k + 1, by omega, by simp; omega, by simpa using h6, by simpa [lgL] using h7⟩
    | zero =>
      have hge := lgStep_ge f x (xs.zip (lgL f xs)) 1
      have hat := lgStep_at f x (xs.zip (lgL f xs)) 1
      have hC : lgStep f x (xs.zip (lgL f xs)) 1 = 1 ∨ ∃ k, k < xs.length ∧ ris f x (xs.getD k 0) = true ∧ lgStep f x (xs.zip (lgL f xs)) 1 = 1 + (lgL f xs).getD k 0 := by
        rcases hat with h | ⟨p, hp, hr, he⟩
        · exact .inl h
        · obtain ⟨k, hk, rfl⟩ := zip_getD hlen hp
          exact .inr ⟨k, hk, hr, he⟩
      simp only [List.getD_cons_zero, List.drop_succ_cons, List.drop_zero, lgL]
      refine ⟨?_, ?_, ?_⟩
      · intro s hs hm
        cases s with
        | nil => simpa using hge.1
        | cons y s =>
          obtain ⟨k, _, hk, hy, hs2⟩ := cons_sub (q := 0) (by simpa using hs)
          have hm2 := List.pairwise_cons.1 hm
          have h1 := (ih k hk).1 s hs2 (by rw [hy]; exact hm2.2)
          have h2 := hge.2 _ (zip_mem hlen hk) (by rw [hy]; exact hm2.1 y (by simp))
          simp only [List.length_cons] at *
          omega
      · rcases hC with h | ⟨k, hk, hr, he⟩
        · exact ⟨[], by simp, by simp, by rw [h]; rfl⟩
        · obtain ⟨_, ⟨s, h4, h5, h6⟩, _⟩ := ih k hk
          refine ⟨xs.getD k 0 :: s, ?_, ?_, ?_⟩
          · have : (xs.getD k 0 :: s).Sublist (xs.drop k) := by rw [drop_cons hk]; exact h4.cons_cons _
            exact this.trans (List.drop_sublist _ _)
          · refine List.pairwise_cons.2 ⟨?_, h5⟩
            intro z hz
            rcases List.mem_cons.1 hz with rfl | hz
            · exact hr
            · exact ris_trans hr ((List.pairwise_cons.1 h5).1 z hz)
          · rw [he, ← h6]; simp only [List.length_cons]; omega
      · rcases hC with h | ⟨k, hk, hr, he⟩
        · exact .inl h
        · exact .inr ⟨k + 1, by omega, by simp; omega, by simpa using hr, by simpa using he⟩

/-- The place (plus 1) of the smallest card of some; 0: there is none. -/
def selB (l : List Int) (ok : Nat → Bool) : Nat → Nat
  | 0 => 0
  | k + 1 => if ok k && (decide (selB l ok k = 0) || decide (l.getD k 0 < l.getD (selB l ok k - 1) 0)) then k + 1 else selB l ok k
theorem selB_is (l : List Int) (ok : Nat → Bool) : ∀ n, (selB l ok n = 0 ∧ ∀ k, k < n → ok k = false) ∨ (0 < selB l ok n ∧ selB l ok n ≤ n ∧ ok (selB l ok n - 1) = true ∧ ∀ k, k < n → ok k = true → l.getD (selB l ok n - 1) 0 ≤ l.getD k 0) := by
  intro n
  induction n with
  | zero => exact .inl ⟨rfl, by omega⟩
  | succ n ih =>
    rw [selB]
    cases hok : ok n with
    | false =>
      simp only [Bool.false_and, Bool.false_eq_true, if_false]
      rcases ih with ⟨h1, h2⟩ | ⟨h1, h2, h3, h4⟩
      · exact .inl ⟨h1, fun k hk => by rcases Nat.lt_succ_iff_lt_or_eq.1 hk with h | rfl; exact h2 k h; exact hok⟩
      · exact .inr ⟨h1, by omega, h3, fun k hk ho => by rcases Nat.lt_succ_iff_lt_or_eq.1 hk with h | rfl; exact h4 k h ho; rw [hok] at ho; cases ho⟩
    | true =>
      simp only [Bool.true_and]
      rcases ih with ⟨h1, h2⟩ | ⟨h1, h2, h3, h4⟩
      · rw [if_pos (by simp [h1])]
        refine .inr ⟨by omega, by omega, by simpa using hok, ?_⟩
        intro k hk ho
        rcases Nat.lt_succ_iff_lt_or_eq.1 hk with h | rfl
        · rw [h2 k h] at ho; cases ho
        · simp
      · by_cases hlt : l.getD n 0 < l.getD (selB l ok n - 1) 0
        · rw [if_pos (by rw [decide_eq_true hlt]; simp)]
          refine .inr ⟨by omega, by omega, by simpa using hok, ?_⟩
          intro k hk ho
          rw [Nat.add_sub_cancel]
          rcases Nat.lt_succ_iff_lt_or_eq.1 hk with h | rfl
          · have := h4 k h ho; omega
          · exact Int.le_refl _
        · rw [if_neg (by rw [decide_eq_false hlt]; simp; omega)]
          refine .inr ⟨h1, by omega, h3, ?_⟩
          intro k hk ho
          rcases Nat.lt_succ_iff_lt_or_eq.1 hk with h | rfl
          · exact h4 k h ho
          · omega

/-- Which card may be the next one: q is the place behind the last one (0: there is none). -/
def okN (f : Bool) (l : List Int) (left q k : Nat) : Bool := decide (q ≤ k) && (decide ((lgL f l).getD k 0 = (left : Int)) && (decide (q = 0) || ris f (l.getD (q - 1) 0) (l.getD k 0)))
/-- There is a next card. -/
def Goes (f : Bool) (l : List Int) (left q : Nat) : Prop := left = 0 ∨ ∃ k, k < l.length ∧ okN f l left q k = true
theorem Goes.next {f : Bool} {l : List Int} {left q : Nat} (h : Goes f l (left + 1) q) : ∃ k, selB l (okN f l (left + 1) q) l.length = k + 1 ∧ q ≤ k ∧ k < l.length ∧ okN f l (left + 1) q k = true ∧ (lgL f l).getD k 0 = (left : Int) + 1 ∧ Goes f l left (k + 1) := by
  rcases h with h | ⟨k0, hk0, hok0⟩
  · omega
  rcases selB_is l (okN f l (left + 1) q) l.length with ⟨_, h2⟩ | ⟨h1, h2, h3, _⟩
  · rw [h2 k0 hk0] at hok0; cases hok0
  · obtain ⟨k, hk⟩ : ∃ k, selB l (okN f l (left + 1) q) l.length = k + 1 := ⟨selB l (okN f l (left + 1) q) l.length - 1, by omega⟩
    rw [hk] at h2 h3
    rw [Nat.add_sub_cancel] at h3
    have h4 := h3
    simp only [okN, Bool.and_eq_true, decide_eq_true_eq, Bool.or_eq_true] at h4
    refine ⟨k, hk, h4.1, by omega, h3, by rw [h4.2.1]; omega, ?_⟩
    by_cases hl : left = 0
    · exact .inl hl
    · right
      rcases (lg_says f l k (by omega)).2.2 with h5 | ⟨k2, h5, h6, h7, h8⟩
      · omega
      · refine ⟨k2, h6, ?_⟩
        simp only [okN, Bool.and_eq_true, decide_eq_true_eq, Bool.or_eq_true, Nat.add_sub_cancel]
        exact ⟨by omega, by omega, .inr h7⟩

end Go.Am
