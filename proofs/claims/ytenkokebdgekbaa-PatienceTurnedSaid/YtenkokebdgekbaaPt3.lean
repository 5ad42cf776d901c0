/-
  Layer 13, the plain part: the first one of the longest rows, card by card.
  Conditions: none.
-/
import Derived.Test.YtenkokebdgekbaaPt2
namespace Go.Am
open Go.Gr

def lgStep (f : Bool) (x : Int) (ys : List (Int × Int)) (m : Int) : Int := ys.foldl (fun m p => if ris f x p.1 then max m (1 + p.2) else m) m
def lgL (f : Bool) : List Int → List Int
  | [] => []
  | x :: xs => lgStep f x (xs.zip (lgL f xs)) 1 :: lgL f xs
theorem lgL_length (f : Bool) (l : List Int) : (lgL f l).length = l.length := by
  induction l with
  | nil => rfl
  | cons x xs ih => simp [lgL, ih]
theorem lgL_drop (f : Bool) (l : List Int) : ∀ k, lgL f (l.drop k) = (lgL f l).drop k := by
  induction l with
  | nil => intro k; simp [lgL]
  | cons x xs ih =>
    intro k
    cases k with
    | zero => rfl
    | succ k => simp only [List.drop_succ_cons, lgL]; exact ih k
theorem lgStep_snoc (f : Bool) (x : Int) (ys : List (Int × Int)) (p : Int × Int) (m : Int) : lgStep f x (ys ++ [p]) m = if ris f x p.1 then max (lgStep f x ys m) (1 + p.2) else lgStep f x ys m := by simp [lgStep]
theorem lgStep_ge (f : Bool) (x : Int) (ys : List (Int × Int)) (m : Int) : m ≤ lgStep f x ys m ∧ ∀ p ∈ ys, ris f x p.1 = true → 1 + p.2 ≤ lgStep f x ys m := by
  induction ys using snoc_ind with
  | h0 => exact ⟨Int.le_refl _, by simp⟩
  | h1 ys p ih =>
    rw [lgStep_snoc]
    refine ⟨by split <;> omega, ?_⟩
    intro q hq hr
    rcases List.mem_append.1 hq with hq | hq
    · have := ih.2 q hq hr
      split <;> omega
    · simp at hq; subst hq
      rw [if_pos hr]; omega
theorem lgStep_at (f : Bool) (x : Int) (ys : List (Int × Int)) (m : Int) : lgStep f x ys m = m ∨ ∃ p ∈ ys, ris f x p.1 = true ∧ lgStep f x ys m = 1 + p.2 := by
  induction ys using snoc_ind with
  | h0 => exact .inl rfl
  | h1 ys p ih =>
    rw [lgStep_snoc]
    by_cases h : ris f x p.1 = true
    · rw [if_pos h]
      rcases Int.le_total (lgStep f x ys m) (1 + p.2) with h1 | h1
      · exact .inr ⟨p, by simp, h, by omega⟩
      · rw [show max (lgStep f x ys m) (1 + p.2) = lgStep f x ys m by omega]
        rcases ih with h2 | ⟨q, hq, hr, he⟩
        · exact .inl h2
        · exact .inr ⟨q, by simp [hq], hr, he⟩
    · rw [if_neg h]
      rcases ih with h2 | ⟨q, hq, hr, he⟩
      · exact .inl h2
      · exact .inr ⟨q, by simp [hq], hr, he⟩

theorem cons_sub {l : List Int} {y : Int} {s : List Int} : ∀ {q : Nat}, (y :: s).Sublist (l.drop q) → ∃ j, q ≤ j ∧ j < l.length ∧ l.getD j 0 = y ∧ s.Sublist (l.drop (j + 1)) := by
  induction l with
  | nil => intro q h; simp at h
  | cons x xs ih =>
    intro q h
    cases q with
    | succ q =>
      rw [List.drop_succ_cons] at h
      obtain ⟨j, h1, h2, h3, h4⟩ := ih h
      exact ⟨j + 1, by omega, by simp; omega, by simpa using h3, by simpa using h4⟩
    | zero =>
      rw [List.drop_zero] at h
      cases h with
      | cons _ h =>
        obtain ⟨j, h1, h2, h3, h4⟩ := ih (q := 0) (by simpa using h)
        exact ⟨j + 1, by omega, by simp; omega, by simpa using h3, by simpa using h4⟩
      | cons_cons _ h => exact ⟨0, by omega, by simp, by simp, by simpa using h⟩
theorem drop_cons {l : List Int} {j : Nat} (h : j < l.length) : l.drop j = l.getD j 0 :: l.drop (j + 1) := by
  rw [List.drop_eq_getElem_cons h, List.getD_eq_getElem?_getD, List.getElem?_eq_getElem h]; rfl
theorem drop_sub {l : List Int} {i j : Nat} (h : i ≤ j) : (l.drop j).Sublist (l.drop i) := by
  obtain ⟨d, rfl⟩ : ∃ d, j = i + d := ⟨j - i, by omega⟩
  rw [← List.drop_drop]
  exact List.drop_sublist _ _

theorem zip_getD {xs ys : List Int} (h : ys.length = xs.length) {p : Int × Int} (hp : p ∈ xs.zip ys) : ∃ k, k < xs.length ∧ p = (xs.getD k 0, ys.getD k 0) := by
  obtain ⟨k, hk, rfl⟩ := List.getElem_of_mem hp
  simp at hk
  refine ⟨k, by omega, ?_⟩
  rw [List.getElem_zip]
  simp [List.getD_eq_getElem?_getD, List.getElem?_eq_getElem (show k < xs.length by omega), List.getElem?_eq_getElem (show k < ys.length by omega)]
theorem zip_mem {xs ys : List Int} (h : ys.length = xs.length) {k : Nat} (hk : k < xs.length) : (xs.getD k 0, ys.getD k 0) ∈ xs.zip ys := by
  have : (xs.zip ys)[k]'(by simp; omega) = (xs.getD k 0, ys.getD k 0) := by
    rw [List.getElem_zip]
    simp [List.getD_eq_getElem?_getD, List.getElem?_eq_getElem (show k < xs.length by omega), List.getElem?_eq_getElem (show k < ys.length by omega)]
  rw [← this]
  exact List.getElem_mem _

/-- What the numbers say. -/
theorem lg_says (f : Bool) (l : List Int) : ∀ j, j < l.length →
    (∀ s : List Int, s.Sublist (l.drop (j + 1)) → Mono f (l.getD j 0 :: s) → (s.length : Int) + 1 ≤ (lgL f l).getD j 0) ∧
    (∃ s : List Int, s.Sublist (l.drop (j + 1)) ∧ Mono f (l.getD j 0 :: s) ∧ (s.length : Int) + 1 = (lgL f l).getD j 0) ∧
    ((lgL f l).getD j 0 = 1 ∨ ∃ k, j < k ∧ k < l.length ∧ ris f (l.getD j 0) (l.getD k 0) = true ∧ (lgL f l).getD j 0 = 1 + (lgL f l).getD k 0) := by
  induction l with
  | nil => intro j hj; simp at hj
  | cons x xs ih =>
    have hlen := lgL_length f xs
    intro j hj
    cases j with
    | succ j =>
      obtain ⟨h1, h2, h3⟩ := ih j (by simpa using hj)
      refine ⟨?_, ?_, ?_⟩
      · intro s hs hm; simpa [lgL] using h1 s (by simpa using hs) (by simpa using hm)
      · obtain ⟨s, h4, h5, h6⟩ := h2
        exact ⟨s, by simpa using h4, by simpa using h5, by simpa [lgL] using h6⟩
      · rcases h3 with h3 | ⟨k, h4, h5, h6, h7⟩
        · exact .inl (by simpa [lgL] using h3)
        · exact .inr ⟨k + 1, by omega, by simp; omega, by simpa using h6, by simpa [lgL] using h7⟩
    | zero =>
      have hge := lgStep_ge f x (xs.zip (lgL f xs)) 1
      have hat := lgStep_at f x (xs.zip (lgL f xs)) 1
      have hC : lgStep f x (xs.zip (lgL f xs)) 1 = 1 ∨ ∃ k, k < xs.length ∧ ris f x (xs.getD k 0) = true ∧ lgStep f x (xs.zip (lgL f xs)) 1 = 1 + (lgL f xs).getD k 0 := by
        rcases hat with h | ⟨p, hp, hr, he⟩
        · exact .inl h
        · obtain ⟨k, hk, rfl⟩ := zip_getD hlen hp
          exact .inr ⟨k, hk, hr, he⟩
      simp only [List.getD_cons_zero, List.drop_succ_cons, List.drop_zero, lgL]
      refine ⟨?_, ?_, ?_⟩
      · intro s hs hm
        cases s with
        | nil => simpa using hge.1
        | cons y s =>
          obtain ⟨k, _, hk, hy, hs2⟩ := cons_sub (q := 0) (by simpa using hs)
          have hm2 := List.pairwise_cons.1 hm
          have h1 := (ih k hk).1 s hs2 (by rw [hy]; exact hm2.2)
          have h2 := hge.2 _ (zip_mem hlen hk) (by rw [hy]; exact hm2.1 y (by simp))
          simp only [List.length_cons] at *
          omega
      · rcases hC with h | ⟨k, hk, hr, he⟩
        · exact ⟨[], by simp, by simp, by rw [h]; rfl⟩
        · obtain ⟨_, ⟨s, h4, h5, h6⟩, _⟩ := ih k hk
          refine ⟨xs.getD k 0 :: s, ?_, ?_, ?_⟩
          · have : (xs.getD k 0 :: s).Sublist (xs.drop k) := by rw [drop_cons hk]; exact h4.cons_cons _
            exact this.trans (List.drop_sublist _ _)
          · refine List.pairwise_cons.2 ⟨?_, h5⟩
            intro z hz
            rcases List.mem_cons.1 hz with rfl | hz
            · exact hr
            · exact ris_trans hr ((List.pairwise_cons.1 h5).1 z hz)
          · rw [he, ← h6]; simp only [List.length_cons]; omega
      · rcases hC with h | ⟨k, hk, hr, he⟩
        · exact .inl h
        · exact .inr ⟨k + 1, by omega, by simp; omega, by simpa using hr, by simpa using he⟩
theorem lg_range (f : Bool) (l : List Int) {j : Nat} (hj : j < l.length) : 1 ≤ (lgL f l).getD j 0 ∧ (lgL f l).getD j 0 ≤ l.length := by
  obtain ⟨h1, ⟨s, h4, _, h6⟩, _⟩ := lg_says f l j hj
  have := h4.length_le
  simp only [List.length_drop] at this
  omega

/-- The place (plus 1) of the smallest card of some; 0: there is none. -/
def selB (l : List Int) (ok : Nat → Bool) : Nat → Nat
  | 0 => 0
  | k + 1 => if ok k && (decide (selB l ok k = 0) || decide (l.getD k 0 < l.getD (selB l ok k - 1) 0)) then k + 1 else selB l ok k
theorem selB_low {l : List Int} {ok : Nat → Bool} : ∀ {q : Nat}, (∀ k, k < q → ok k = false) → selB l ok q = 0 := by
  intro q
  induction q with
  | zero => intro _; rfl
  | succ q ih => intro h; rw [selB, h q (by omega)]; simp [ih (fun k hk => h k (by omega))]
theorem selB_is (l : List Int) (ok : Nat → Bool) : ∀ n, (selB l ok n = 0 ∧ ∀ k, k < n → ok k = false) ∨ (0 < selB l ok n ∧ selB l ok n ≤ n ∧ ok (selB l ok n - 1) = true ∧ ∀ k, k < n → ok k = true → l.getD (selB l ok n - 1) 0 ≤ l.getD k 0) := by
  intro n
  induction n with
  | zero => exact .inl ⟨rfl, by omega⟩
  | succ n ih =>
    rw [selB]
    cases hok : ok n with
    | false =>
      simp only [Bool.false_and, Bool.false_eq_true, if_false]
      rcases ih with ⟨h1, h2⟩ | ⟨h1, h2, h3, h4⟩
      · exact .inl ⟨h1, fun k hk => by rcases Nat.lt_succ_iff_lt_or_eq.1 hk with h | rfl; exact h2 k h; exact hok⟩
      · exact .inr ⟨h1, by omega, h3, fun k hk ho => by rcases Nat.lt_succ_iff_lt_or_eq.1 hk with h | rfl; exact h4 k h ho; rw [hok] at ho; cases ho⟩
    | true =>
      simp only [Bool.true_and]
      rcases ih with ⟨h1, h2⟩ | ⟨h1, h2, h3, h4⟩
      · rw [if_pos (by simp [h1])]
        refine .inr ⟨by omega, by omega, by simpa using hok, ?_⟩
        intro k hk ho
        rcases Nat.lt_succ_iff_lt_or_eq.1 hk with h | rfl
        · rw [h2 k h] at ho; cases ho
        · simp
      · by_cases hlt : l.getD n 0 < l.getD (selB l ok n - 1) 0
        · rw [if_pos (by rw [decide_eq_true hlt]; simp)]
          refine .inr ⟨by omega, by omega, by simpa using hok, ?_⟩
          intro k hk ho
          rw [Nat.add_sub_cancel]
          rcases Nat.lt_succ_iff_lt_or_eq.1 hk with h | rfl
          · have := h4 k h ho; omega
          · exact Int.le_refl _
        · rw [if_neg (by rw [decide_eq_false hlt]; simp; omega)]
          refine .inr ⟨h1, by omega, h3, ?_⟩
          intro k hk ho
          rcases Nat.lt_succ_iff_lt_or_eq.1 hk with h | rfl
          · exact h4 k h ho
          · omega

/-- Which card may be the next one: q is the place behind the last one (0: there is none). -/
def okN (f : Bool) (l : List Int) (left q k : Nat) : Bool := decide (q ≤ k) && (decide ((lgL f l).getD k 0 = (left : Int)) && (decide (q = 0) || ris f (l.getD (q - 1) 0) (l.getD k 0)))
def grd (f : Bool) (l : List Int) : Nat → Nat → List Int
  | 0, _ => []
  | left + 1, q => l.getD (selB l (okN f l (left + 1) q) l.length - 1) 0 :: grd f l left (selB l (okN f l (left + 1) q) l.length)
theorem grd_len (f : Bool) (l : List Int) : ∀ left q, (grd f l left q).length = left := by
  intro left
  induction left with
  | zero => intro q; rfl
  | succ left ih => intro q; simp [grd, ih]
theorem selB_yes {l : List Int} {ok : Nat → Bool} {k : Nat} (h1 : ok k = true) (h2 : selB l ok k = 0 ∨ l.getD k 0 < l.getD (selB l ok k - 1) 0) : selB l ok (k + 1) = k + 1 := by
  rw [selB, if_pos]
  rw [h1]
  rcases h2 with h2 | h2
  · rw [decide_eq_true h2]; rfl
  · rw [decide_eq_true h2]; simp
theorem selB_no {l : List Int} {ok : Nat → Bool} {k : Nat} (h1 : ok k = false) : selB l ok (k + 1) = selB l ok k := by
  rw [selB, if_neg]; rw [h1]; simp
theorem selB_no2 {l : List Int} {ok : Nat → Bool} {k : Nat} (h1 : selB l ok k ≠ 0) (h2 : ¬ l.getD k 0 < l.getD (selB l ok k - 1) 0) : selB l ok (k + 1) = selB l ok k := by
  rw [selB, if_neg]; rw [decide_eq_false h1, decide_eq_false h2]; simp
theorem okN_yes {f : Bool} {l : List Int} {left q k : Nat} (h1 : q ≤ k) (h2 : (lgL f l).getD k 0 = (left : Int)) (h3 : q = 0 ∨ ris f (l.getD (q - 1) 0) (l.getD k 0) = true) : okN f l left q k = true := by
  simp only [okN, Bool.and_eq_true, decide_eq_true_eq, Bool.or_eq_true]; exact ⟨h1, h2, h3⟩
theorem okN_no {f : Bool} {l : List Int} {left q k : Nat} (h2 : ¬ (lgL f l).getD k 0 = (left : Int)) : okN f l left q k = false := by
  rw [okN, decide_eq_false h2]; simp
theorem okN_no2 {f : Bool} {l : List Int} {left q k : Nat} (h1 : q ≠ 0) (h2 : ris f (l.getD (q - 1) 0) (l.getD k 0) = false) : okN f l left q k = false := by
  rw [okN, h2, decide_eq_false h1]; simp
theorem okN_low {f : Bool} {l : List Int} {left q k : Nat} (h1 : k < q) : okN f l left q k = false := by
  rw [okN, decide_eq_false (by omega)]; simp
/-- There is a next card. -/
def Goes (f : Bool) (l : List Int) (left q : Nat) : Prop := left = 0 ∨ ∃ k, k < l.length ∧ okN f l left q k = true
theorem Goes.next {f : Bool} {l : List Int} {left q : Nat} (h : Goes f l (left + 1) q) : ∃ k, selB l (okN f l (left + 1) q) l.length = k + 1 ∧ q ≤ k ∧ k < l.length ∧ okN f l (left + 1) q k = true ∧ (lgL f l).getD k 0 = (left : Int) + 1 ∧ Goes f l left (k + 1) := by
  rcases h with h | ⟨k0, hk0, hok0⟩
  · omega
  rcases selB_is l (okN f l (left + 1) q) l.length with ⟨_, h2⟩ | ⟨h1, h2, h3, _⟩
  · rw [h2 k0 hk0] at hok0; cases hok0
  · obtain ⟨k, hk⟩ : ∃ k, selB l (okN f l (left + 1) q) l.length = k + 1 := ⟨selB l (okN f l (left + 1) q) l.length - 1, by omega⟩
    rw [hk] at h2 h3
    rw [Nat.add_sub_cancel] at h3
    have h4 := h3
    simp only [okN, Bool.and_eq_true, decide_eq_true_eq, Bool.or_eq_true] at h4
    refine ⟨k, hk, h4.1, by omega, h3, by rw [h4.2.1]; omega, ?_⟩
    by_cases hl : left = 0
    · exact .inl hl
    · right
      rcases (lg_says f l k (by omega)).2.2 with h5 | ⟨k2, h5, h6, h7, h8⟩
      · omega
      · refine ⟨k2, h6, ?_⟩
        simp only [okN, Bool.and_eq_true, decide_eq_true_eq, Bool.or_eq_true, Nat.add_sub_cancel]
        exact ⟨by omega, by omega, .inr h7⟩

/-- The rows that may follow. -/
def Fol (f : Bool) (l : List Int) (q : Nat) (s : List Int) : Prop := s.Sublist (l.drop q) ∧ Mono f s ∧ (q ≠ 0 → ∀ x ∈ s, ris f (l.getD (q - 1) 0) x = true)

theorem grd_best {f : Bool} {l : List Int} (hn : l.Nodup) : ∀ left q, Goes f l left q → (∀ s, Fol f l q s → s.length ≤ left) → Fol f l q (grd f l left q) ∧ ∀ s, Fol f l q s → s.length = left → lexB s (grd f l left q) = false := by
  intro left
  induction left with
  | zero =>
    intro q _ _
    refine ⟨⟨by simp [grd], by simp [grd], by simp [grd]⟩, ?_⟩
    intro s _ hs
    rw [List.length_eq_zero_iff.1 hs]
    rfl
  | succ left ih =>
    intro q hg hmax
    obtain ⟨k, hk, hqk, hkl, hok, hlg, hg2⟩ := hg.next
    have hsel := selB_is l (okN f l (left + 1) q) l.length
    rw [hk] at hsel
    rw [grd, hk, Nat.add_sub_cancel]
    have hmax2 : ∀ s, Fol f l (k + 1) s → s.length ≤ left := by
      intro s hs
      have := (lg_says f l k hkl).1 s hs.1 (List.pairwise_cons.2 ⟨by have := hs.2.2 (by omega); simpa using this, hs.2.1⟩)
      omega
    obtain ⟨hf, hlex⟩ := ih (k + 1) hg2 hmax2
    have hris : q ≠ 0 → ris f (l.getD (q - 1) 0) (l.getD k 0) = true := by
      intro hq
      simp only [okN, Bool.and_eq_true, decide_eq_true_eq, Bool.or_eq_true] at hok
      rcases hok.2.2 with h | h
      · exact absurd h hq
      · exact h
    have hk1 : ∀ x ∈ grd f l left (k + 1), ris f (l.getD k 0) x = true := by have := hf.2.2 (by omega); simpa using this
    refine ⟨⟨?_, ?_, ?_⟩, ?_⟩
    · have h1 : (l.getD k 0 :: grd f l left (k + 1)).Sublist (l.drop k) := by rw [drop_cons hkl]; exact hf.1.cons_cons _
      exact h1.trans (drop_sub hqk)
    · exact List.pairwise_cons.2 ⟨hk1, hf.2.1⟩
    · intro hq x hx
      rcases List.mem_cons.1 hx with rfl | hx
      · exact hris hq
      · exact ris_trans (hris hq) (hk1 x hx)
    · intro s hs hl
      cases s with
      | nil => simp at hl
      | cons y s =>
        obtain ⟨j, hj1, hj2, hy, hs2⟩ := cons_sub hs.1
        have hm := List.pairwise_cons.1 hs.2.1
        obtain ⟨hA, ⟨t, ht1, ht2, ht3⟩, _⟩ := lg_says f l j hj2
        have h1 := hA s hs2 (by rw [hy]; exact hs.2.1)
        have h2 : Fol f l q (l.getD j 0 :: t) := by
          refine ⟨?_, ht2, ?_⟩
          · have h3 : (l.getD j 0 :: t).Sublist (l.drop j) := by rw [drop_cons hj2]; exact ht1.cons_cons _
            exact h3.trans (drop_sub hj1)
          · intro hq x hx
            have h4 := hs.2.2 hq y (by simp)
            rcases List.mem_cons.1 hx with rfl | hx
            · rw [hy]; exact h4
            · exact ris_trans (by rw [hy]; exact h4) ((List.pairwise_cons.1 ht2).1 x hx)
        have h3 := hmax _ h2
        simp only [List.length_cons] at h3 hl
        have hokj : okN f l (left + 1) q j = true := by
          simp only [okN, Bool.and_eq_true, decide_eq_true_eq, Bool.or_eq_true]
          refine ⟨hj1, by omega, ?_⟩
          by_cases hq : q = 0
          · exact .inl hq
          · right; rw [hy]; exact hs.2.2 hq y (by simp)
        have hle : l.getD k 0 ≤ l.getD j 0 := by
          rcases hsel with ⟨h, _⟩ | ⟨_, _, _, h⟩
          · omega
          · simpa using h j hj2 hokj
        simp only [lexB]
        by_cases he : y = l.getD k 0
        · rw [if_pos he]
          have hjk : j = k := by
            refine nodup_inj hn (x := y) ?_ ?_
            · rw [← hy, List.getD_eq_getElem?_getD, List.getElem?_eq_getElem hj2]; rfl
            · rw [he, List.getD_eq_getElem?_getD, List.getElem?_eq_getElem hkl]; rfl
          subst hjk
          refine hlex s ⟨hs2, hm.2, ?_⟩ (by omega)
          intro _ x hx
          rw [Nat.add_sub_cancel, hy]
          exact hm.1 x hx
        · rw [if_neg he]
          exact decide_eq_false (by omega)

theorem grd_is {f : Bool} {l : List Int} (hn : l.Nodup) {m : Nat} (hm : ∀ k, k < l.length → (lgL f l).getD k 0 ≤ m) (hx : ∃ k, k < l.length ∧ (lgL f l).getD k 0 = m) : grd f l m 0 = bestOf l f := by
  have hg : Goes f l m 0 := by
    obtain ⟨k, hk, he⟩ := hx
    exact .inr ⟨k, hk, by simp only [okN, Bool.and_eq_true, decide_eq_true_eq, Bool.or_eq_true]; exact ⟨by omega, he, .inl trivial⟩⟩
  have hmax : ∀ s, Fol f l 0 s → s.length ≤ m := by
    intro s hs
    cases s with
    | nil => simp
    | cons y s =>
      obtain ⟨j, _, hj2, hy, hs2⟩ := cons_sub hs.1
      have h1 := (lg_says f l j hj2).1 s hs2 (by rw [hy]; exact hs.2.1)
      have h2 := hm j hj2
      simp only [List.length_cons]
      omega
  obtain ⟨h1, h2⟩ := grd_best hn m 0 hg hmax
  have hsub : (grd f l m 0).Sublist l := by simpa using h1.1
  refine IsBest.unique ⟨hsub, (runs_mono (hn.sublist hsub)).2 h1.2.1, ?_⟩ (bestOf_is l f)
  intro s hs hr
  have h3 : Fol f l 0 s := ⟨by simpa using hs, (runs_mono (hn.sublist hs)).1 hr, fun h => absurd rfl h⟩
  have h4 := hmax s h3
  have h5 := grd_len f l m 0
  by_cases he : s.length = m
  · rw [better_eq (by omega)]
    exact h2 s h3 he
  · exact better_short (by omega) (by omega)

/-- The greatest number. -/
def maxL (l : List Int) : Int := l.tail.foldl max (l.getD 0 0)
theorem foldl_max_ge (l : List Int) : ∀ m : Int, m ≤ l.foldl max m ∧ (∀ x ∈ l, x ≤ l.foldl max m) ∧ (l.foldl max m = m ∨ l.foldl max m ∈ l) := by
  induction l with
  | nil => intro m; simp
  | cons x l ih =>
    intro m
    obtain ⟨h1, h2, h3⟩ := ih (max m x)
    simp only [List.foldl_cons]
    refine ⟨by omega, ?_, ?_⟩
    · intro y hy
      rcases List.mem_cons.1 hy with rfl | hy
      · omega
      · exact h2 y hy
    · rcases h3 with h3 | h3
      · rcases Int.le_total m x with h4 | h4
        · right; rw [h3, show max m x = x by omega]; simp
        · left; omega
      · right; simp [h3]
theorem maxL_is {l : List Int} (h : 0 < l.length) : (∀ k, k < l.length → l.getD k 0 ≤ maxL l) ∧ ∃ k, k < l.length ∧ l.getD k 0 = maxL l := by
  cases l with
  | nil => simp at h
  | cons x l =>
    obtain ⟨h1, h2, h3⟩ := foldl_max_ge l x
    refine ⟨?_, ?_⟩
    · intro k hk
      cases k with
      | zero => exact h1
      | succ k =>
        have : (x :: l).getD (k + 1) 0 ∈ l := by rw [List.getD_cons_succ]; exact getD_mem (by simpa using hk)
        exact h2 _ this
    · rcases h3 with h3 | h3
      · exact ⟨0, by simp, h3.symm⟩
      · obtain ⟨k, hk, he⟩ := mem_getD h3
        exact ⟨k + 1, by simpa using hk, by rw [List.getD_cons_succ]; exact he⟩

end Go.Am
