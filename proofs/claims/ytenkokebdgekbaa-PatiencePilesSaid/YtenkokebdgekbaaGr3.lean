/-
  Greene's theorem: the rows, or columns, of the table of a pack tell how many cards some rising, or falling, rows have together.
  Conditions: none.
-/
import Derived.Test.YtenkokebdgekbaaGr2
namespace Go.Gr

theorem count_succ (k : Nat) (ps : List (Int × Nat)) : ps.countP (fun p => decide (p.2 < k + 1)) = ps.countP (fun p => decide (p.2 < k)) + (rowC k ps).length := by
  induction ps with
  | nil => rfl
  | cons p ps ih =>
    obtain ⟨x, q⟩ := p
    rw [List.countP_cons, List.countP_cons, ih, rowC_cons]
    by_cases h1 : q = k
    · subst h1; simp; omega
    · rw [if_neg h1]
      have : (q < k + 1) ↔ (q < k) := by omega
      simp only [this]
      omega
theorem count_le {ps : List (Int × Nat)} : ∀ {k : Nat}, (∀ c, c < k → (rowC c ps).length ≤ 1) → ps.countP (fun p => decide (p.2 < k)) ≤ k := by
  intro k
  induction k with
  | zero => intro _; simp
  | succ k ih =>
    intro h
    rw [count_succ]
    have := ih (fun c hc => h c (by omega))
    have := h k (by omega)
    omega
theorem rowC_sub (c : Nat) (ps : List (Int × Nat)) : (rowC c ps).Sublist (ps.map (·.1)) := List.filter_sublist.map _
theorem rowC_mono {c : Nat} {ps qs : List (Int × Nat)} (h : ps.Sublist qs) : (rowC c ps).Sublist (rowC c qs) := (h.filter _).map _
theorem rise_fall {l : List Int} (h1 : Rise l) (h2 : l.Pairwise (· > ·)) : l.length ≤ 1 := by
  match l, h1, h2 with
  | [], _, _ => simp
  | [a], _, _ => simp
  | a :: b :: l, h1, h2 =>
    have := (List.pairwise_cons.1 h1).1 b (by simp)
    have := (List.pairwise_cons.1 h2).1 b (by simp)
    omega
/-- Of cards that fall, k colours have one each, at most. -/
theorem count_fall {k : Nat} {ps : List (Int × Nat)} (h : (ps.map (·.1)).Pairwise (· > ·)) (hr : ∀ c, c < k → Rise (rowC c ps)) : ps.countP (fun p => decide (p.2 < k)) ≤ min k ps.length := by
  have h1 : ps.countP (fun p => decide (p.2 < k)) ≤ k := count_le fun c hc => rise_fall (hr c hc) (h.sublist (rowC_sub c ps))
  have h2 := List.countP_le_length (p := fun p : Int × Nat => decide (p.2 < k)) (l := ps)
  omega

/-- How many cards the columns have, k from each row. -/
def colSum (k : Nat) (T : List (List Int)) : Nat := (T.map (fun R => min k R.length)).sum
/-- How many cards the first k rows have. -/
def rowSum (k : Nat) (T : List (List Int)) : Nat := ((T.take k).map List.length).sum

theorem wordT_rev (T : List (List Int)) : (wordT T).reverse = (T.map List.reverse).flatten := by
  induction T with
  | nil => rfl
  | cons R T ih => rw [wordT_cons, List.reverse_append, ih]; rfl

theorem fallUp {k : Nat} {T : List (List Int)} (ht : Rows T) : ∀ {ps : List (Int × Nat)}, ps.map (·.1) = (T.map List.reverse).flatten → (∀ c, c < k → Rise (rowC c ps)) → ps.countP (fun p => decide (p.2 < k)) ≤ colSum k T := by
  induction T with
  | nil => intro ps hm _; simp at hm; subst hm; simp
  | cons R T ih =>
    intro ps hm hr
    rw [List.map_cons, List.flatten_cons] at hm
    obtain ⟨p1, p2, rfl, h1, h2⟩ := List.map_eq_append_iff.1 hm
    rw [List.countP_append]
    have ha := count_fall (k := k) (ps := p1) (by rw [h1, List.pairwise_reverse]; exact (ht R (by simp))) (fun c hc => (hr c hc).sublist (rowC_mono (List.sublist_append_left p1 p2)))
    have hb := ih (fun S hS => ht S (by simp [hS])) h2 (fun c hc => (hr c hc).sublist (rowC_mono (List.sublist_append_right p1 p2)))
    have hl : p1.length = R.length := by have := congrArg List.length h1; simpa using this
    rw [hl] at ha
    simp only [colSum, List.map_cons, List.sum_cons] at hb ⊢
    omega

/-- A column. -/
def colT (c : Nat) (T : List (List Int)) : List Int := T.filterMap (fun R => R[c]?)
theorem colT_gt {c : Nat} {T : List (List Int)} : ∀ {R : List Int}, Tab (R :: T) → ∀ x ∈ colT c T, c < R.length ∧ R.getD c 0 < x := by
  induction T with
  | nil => intro R _ x hx; simp [colT] at hx
  | cons S T ih =>
    intro R ht x hx
    have hov := ht.2.2.1
    simp only [List.headD_cons] at hov
    have key : c < S.length → c < R.length ∧ R.getD c 0 < S.getD c 0 := fun h => ⟨Nat.lt_of_lt_of_le h hov.1, hov.2 c h⟩
    simp only [colT, List.filterMap_cons] at hx
    cases hs : S[c]? with
    | none =>
      rw [hs] at hx
      have := ih ht.2.2.2 x hx
      rw [List.getElem?_eq_none_iff] at hs
      omega
    | some y =>
      rw [hs] at hx
      have hc := (List.getElem?_eq_some_iff.1 hs).1
      have hy : S.getD c 0 = y := by rw [List.getD_eq_getElem?_getD, hs]; rfl
      obtain ⟨k1, k2⟩ := key hc
      rcases List.mem_cons.1 hx with rfl | hx
      · exact ⟨k1, by rw [← hy]; exact k2⟩
      · have := ih ht.2.2.2 x hx
        exact ⟨k1, by omega⟩
theorem colT_rise {c : Nat} {T : List (List Int)} (ht : Tab T) : Rise (colT c T) := by
  induction T with
  | nil => simp [colT]
  | cons R T ih =>
    have h1 := ih ht.2.2.2
    simp only [colT, List.filterMap_cons]
    cases hr : R[c]? with
    | none => exact h1
    | some y =>
      refine List.pairwise_cons.2 ⟨fun x hx => ?_, h1⟩
      have := (colT_gt ht x hx).2
      rwa [List.getD_eq_getElem?_getD, hr] at this

theorem rowC_zip (c : Nat) : ∀ (R : List Int) (i : Nat), rowC c (R.zipIdx i) = if i ≤ c then (R[c - i]?).toList else [] := by
  intro R
  induction R with
  | nil => intro i; simp [rowC]
  | cons x R ih =>
    intro i
    rw [List.zipIdx_cons, rowC_cons, ih]
    by_cases h1 : i = c
    · subst h1; rw [if_pos rfl, if_neg (by omega)]; simp
    · rw [if_neg h1]
      by_cases h2 : i ≤ c
      · rw [if_pos (by omega), if_pos h2]
        obtain ⟨q, hq⟩ : ∃ q, c - i = q + 1 := ⟨c - i - 1, by omega⟩
        rw [hq, show c - (i + 1) = q by omega, List.getElem?_cons_succ]
      · rw [if_neg (by omega), if_neg h2]
theorem count_zip (k : Nat) : ∀ (R : List Int) (i : Nat), (R.zipIdx i).countP (fun p => decide (p.2 < k)) = min (k - i) R.length := by
  intro R
  induction R with
  | nil => intro i; simp
  | cons x R ih =>
    intro i
    rw [List.zipIdx_cons, List.countP_cons, ih, List.length_cons]
    by_cases h : i < k
    · simp [h]; omega
    · simp [h]; omega
theorem zip_fst (R : List Int) (i : Nat) : (R.zipIdx i).map (·.1) = R := by
  induction R generalizing i with
  | nil => rfl
  | cons x R ih => rw [List.zipIdx_cons, List.map_cons, ih]

theorem fallDown (k : Nat) {T : List (List Int)} (ht : Tab T) : Fam k (wordT T).reverse (colSum k T) := by
  refine ⟨(T.map fun R => (R.zipIdx 0).reverse).flatten, ?_, ?_, ?_⟩
  · rw [wordT_rev, List.map_flatten, List.map_map]
    congr 1
    apply List.map_congr_left
    intro R _
    simp [Function.comp, List.map_reverse, zip_fst]
  · intro c _
    have : rowC c ((T.map fun R => (R.zipIdx 0).reverse).flatten) = colT c T := by
      induction T with
      | nil => rfl
      | cons R T ih =>
        rw [List.map_cons, List.flatten_cons, rowC_append, ih ht.2.2.2]
        have h1 : rowC c (R.zipIdx 0).reverse = (R[c]?).toList := by
          have h2 := rowC_zip c R 0
          rw [if_pos (Nat.zero_le _), Nat.sub_zero] at h2
          simp only [rowC, List.filter_reverse, List.map_reverse] at h2 ⊢
          rw [h2]
          cases R[c]? <;> rfl
        rw [h1]
        simp only [colT, List.filterMap_cons]
        cases R[c]? <;> rfl
    rw [this]
    exact colT_rise ht
  · rw [List.countP_flatten, List.map_map]
    simp only [colSum]
    congr 1
    apply List.map_congr_left
    intro R _
    simp only [Function.comp, List.countP_reverse, count_zip]
    rfl

/-- Colours by rows. -/
def rowsPs : Nat → List (List Int) → List (Int × Nat)
  | _, [] => []
  | i, R :: T => rowsPs (i + 1) T ++ R.map (fun x => (x, i))
theorem rowsPs_fst (T : List (List Int)) : ∀ i, (rowsPs i T).map (·.1) = wordT T := by
  induction T with
  | nil => intro i; rfl
  | cons R T ih => intro i; rw [rowsPs, List.map_append, ih, wordT_cons, List.map_map]; simp [Function.comp_def]
theorem rowC_map (c i : Nat) (R : List Int) : rowC c (R.map (fun x => (x, i))) = if i = c then R else [] := by
  induction R with
  | nil => simp [rowC]
  | cons x R ih =>
    rw [List.map_cons, rowC_cons, ih]
    split <;> rfl
theorem rowsPs_row (c : Nat) (T : List (List Int)) : ∀ i, rowC c (rowsPs i T) = if i ≤ c then T.getD (c - i) [] else [] := by
  induction T with
  | nil => intro i; simp [rowsPs, rowC]
  | cons R T ih =>
    intro i
    rw [rowsPs, rowC_append, ih, rowC_map]
    by_cases h1 : i = c
    · subst h1; rw [if_neg (by omega), if_pos rfl, if_pos (Nat.le_refl _)]; simp
    · rw [if_neg h1, List.append_nil]
      by_cases h2 : i ≤ c
      · rw [if_pos (by omega), if_pos h2]
        obtain ⟨q, hq⟩ : ∃ q, c - i = q + 1 := ⟨c - i - 1, by omega⟩
        rw [hq, show c - (i + 1) = q by omega]; simp
      · rw [if_neg (by omega), if_neg h2]
theorem rowsPs_count (k : Nat) (T : List (List Int)) : ∀ i, (rowsPs i T).countP (fun p => decide (p.2 < k)) = rowSum (k - i) T := by
  induction T with
  | nil => intro i; simp [rowsPs, rowSum]
  | cons R T ih =>
    intro i
    rw [rowsPs, List.countP_append, ih, List.countP_map]
    by_cases h : i < k
    · obtain ⟨q, hq⟩ : ∃ q, k - i = q + 1 := ⟨k - i - 1, by omega⟩
      rw [hq, show k - (i + 1) = q by omega]
      have : R.countP ((fun p : Int × Nat => decide (p.2 < k)) ∘ fun x => (x, i)) = R.length := by
        rw [List.countP_eq_length]; intro x _; simp [h]
      rw [this]
      simp only [rowSum, List.take_succ_cons, List.map_cons, List.sum_cons]
      omega
    · rw [show k - i = 0 by omega, show k - (i + 1) = 0 by omega]
      have : R.countP ((fun p : Int × Nat => decide (p.2 < k)) ∘ fun x => (x, i)) = 0 := by
        rw [List.countP_eq_zero]; intro x _; simp; omega
      rw [this]
      simp [rowSum]

theorem riseDown (k : Nat) {T : List (List Int)} (ht : Rows T) : Fam k (wordT T) (rowSum k T) := by
  refine ⟨rowsPs 0 T, rowsPs_fst T 0, ?_, by rw [rowsPs_count, Nat.sub_zero]⟩
  intro c _
  rw [rowsPs_row, if_pos (Nat.zero_le _), Nat.sub_zero, List.getD_eq_getElem?_getD]
  cases h : T[c]? with
  | none => simp
  | some R => exact ht R (List.mem_of_getElem? h)

/-- Columns that rise, rows that get no longer. -/
def WTab : List (List Int) → Prop
  | [] => True
  | R :: T => Over R (T.headD []) ∧ WTab T
theorem Tab.w {T : List (List Int)} (h : Tab T) : WTab T := by
  induction T with
  | nil => trivial
  | cons R T ih => exact ⟨h.2.2.1, ih h.2.2.2⟩
theorem Over.tail {R S : List Int} (h : Over R S) : Over R.tail S.tail := by
  refine ⟨by have := h.1; simp only [List.length_tail]; omega, ?_⟩
  intro j hj
  simp only [List.length_tail] at hj
  have := h.2 (j + 1) (by omega)
  simpa [List.getD_eq_getElem?_getD] using this
theorem WTab.tail {T : List (List Int)} (h : WTab T) : WTab (T.map List.tail) := by
  induction T with
  | nil => trivial
  | cons R T ih =>
    refine ⟨?_, ih h.2⟩
    have := h.1.tail
    cases T with
    | nil => simpa using this
    | cons S T => simpa using this
theorem WTab.nil {T : List (List Int)} (h : WTab ([] :: T)) : ∀ R ∈ T, R = [] := by
  induction T with
  | nil => simp
  | cons S T ih =>
    have h1 := h.1.1
    simp only [List.headD_cons, List.length_nil] at h1
    have h2 : S = [] := List.length_eq_zero_iff.1 (by omega)
    subst h2
    intro R hR
    rcases List.mem_cons.1 hR with rfl | hR
    · rfl
    · exact ih h.2 R hR

/-- How many rows there are. -/
def high (T : List (List Int)) : Nat := T.countP (fun R => !R.isEmpty)
theorem rowSum_tail (k : Nat) {T : List (List Int)} (h : WTab T) : rowSum k T = rowSum k (T.map List.tail) + min k (high T) := by
  induction T generalizing k with
  | nil => simp [rowSum, high]
  | cons R T ih =>
    cases k with
    | zero => simp [rowSum]
    | succ k =>
      have h1 := ih k h.2
      simp only [rowSum, List.take_succ_cons, List.map_cons, List.sum_cons, high, List.countP_cons, List.length_tail] at h1 ⊢
      cases R with
      | nil =>
        have hn := h.nil
        have hz : T.countP (fun R => !R.isEmpty) = 0 := by rw [List.countP_eq_zero]; intro R hR; rw [hn R hR]; simp
        rw [hz] at h1 ⊢
        simp only [List.length_nil, List.isEmpty_nil] at h1 ⊢
        simp at h1 ⊢
        omega
      | cons x R =>
        simp only [List.length_cons, List.isEmpty_cons] at h1 ⊢
        simp at h1 ⊢
        omega

theorem rows_split {T : List (List Int)} : ∀ {ps : List (Int × Nat)}, ps.map (·.1) = wordT T → ∃ PS : List (List (Int × Nat)), PS.map (fun l => l.map (·.1)) = T ∧ ps = PS.reverse.flatten := by
  induction T with
  | nil => intro ps h; simp [wordT] at h; exact ⟨[], rfl, by simp [h]⟩
  | cons R T ih =>
    intro ps h
    rw [wordT_cons] at h
    obtain ⟨p1, p2, rfl, h1, h2⟩ := List.map_eq_append_iff.1 h
    obtain ⟨PS, h3, rfl⟩ := ih h1
    exact ⟨p2 :: PS, by simp [h2, h3], by simp⟩

theorem heads_fall {T : List (List Int)} (h : WTab T) : (colT 0 T).Pairwise (· < ·) := by
  have hgt : ∀ {T : List (List Int)} {R : List Int}, WTab (R :: T) → ∀ x ∈ colT 0 T, 0 < R.length ∧ R.getD 0 0 < x := by
    intro T
    induction T with
    | nil => intro R _ x hx; simp [colT] at hx
    | cons S T ih =>
      intro R ht x hx
      have hov := ht.1
      simp only [List.headD_cons] at hov
      simp only [colT, List.filterMap_cons] at hx
      cases hs : S[0]? with
      | none =>
        rw [hs] at hx
        have := ih ht.2 x hx
        rw [List.getElem?_eq_none_iff] at hs
        omega
      | some y =>
        rw [hs] at hx
        have hc := (List.getElem?_eq_some_iff.1 hs).1
        have hy : S.getD 0 0 = y := by rw [List.getD_eq_getElem?_getD, hs]; rfl
        have k1 := hov.1
        have k2 := hov.2 0 hc
        rcases List.mem_cons.1 hx with rfl | hx
        · exact ⟨by omega, by omega⟩
        · have := ih ht.2 x hx
          exact ⟨by omega, by omega⟩
  induction T with
  | nil => simp [colT]
  | cons R T ih =>
    have h1 := ih h.2
    simp only [colT, List.filterMap_cons]
    cases hr : R[0]? with
    | none => exact h1
    | some y =>
      refine List.pairwise_cons.2 ⟨fun x hx => ?_, h1⟩
      have := (hgt h x hx).2
      rwa [List.getD_eq_getElem?_getD, hr] at this

theorem flatten_sub {α : Type} {f : List α → List α} (hf : ∀ l, (f l).Sublist l) (L : List (List α)) : (L.map f).flatten.Sublist L.flatten := by
  induction L with
  | nil => exact .refl _
  | cons l L ih => simp only [List.map_cons, List.flatten_cons]; exact (hf l).append ih

theorem riseUp (k m : Nat) : ∀ {T : List (List Int)}, WTab T → (∀ R ∈ T, R.length ≤ m) → ∀ {ps : List (Int × Nat)}, ps.map (·.1) = wordT T → (∀ c, c < k → Rise (rowC c ps)) → ps.countP (fun p => decide (p.2 < k)) ≤ rowSum k T := by
  induction m with
  | zero =>
    intro T _ hm ps hps _
    have : ps = [] := by
      have h1 : wordT T = [] := by
        rw [wordT, List.flatten_eq_nil_iff]
        intro R hR
        exact List.length_eq_zero_iff.1 (by have := hm R (by simpa using hR); omega)
      rw [h1] at hps
      simpa using hps
    subst this
    simp
  | succ m ih =>
    intro T hw hm ps hps hr
    obtain ⟨PS, h1, rfl⟩ := rows_split hps
    have hsub : (PS.map List.tail).reverse.flatten.Sublist PS.reverse.flatten := by
      rw [← List.map_reverse]; exact flatten_sub (fun l => List.tail_sublist l) _
    have htl : (PS.map List.tail).map (fun l => l.map (·.1)) = T.map List.tail := by
      rw [← h1, List.map_map, List.map_map]
      apply List.map_congr_left
      intro l _
      simp [Function.comp, List.map_tail]
    have ha := ih (T := T.map List.tail) hw.tail
      (by intro R hR; obtain ⟨S, hS, rfl⟩ := List.mem_map.1 hR; have := hm S hS; simp only [List.length_tail]; omega)
      (ps := (PS.map List.tail).reverse.flatten)
      (by rw [List.map_flatten, List.map_reverse, htl]; rfl)
      (fun c hc => (hr c hc).sublist (rowC_mono hsub))
    -- the heads
    have hsub2 : (PS.map (List.take 1)).reverse.flatten.Sublist PS.reverse.flatten := by
      rw [← List.map_reverse]; exact flatten_sub (fun l => List.take_sublist 1 l) _
    have hhd : ((PS.map (List.take 1)).reverse.flatten).map (·.1) = (colT 0 T).reverse := by
      rw [← h1]
      clear hsub hsub2 ha htl hr hps hm hw h1
      induction PS with
      | nil => rfl
      | cons l PS ih2 =>
        simp only [List.map_cons, List.reverse_cons, List.flatten_append, List.map_append, ih2, colT, List.filterMap_cons]
        cases l with
        | nil => simp
        | cons p l => simp
    have hb := count_fall (k := k) (ps := (PS.map (List.take 1)).reverse.flatten) (by rw [hhd, List.pairwise_reverse]; exact heads_fall hw) (fun c hc => (hr c hc).sublist (rowC_mono hsub2))
    have hlen : (PS.map (List.take 1)).reverse.flatten.length = high T := by
      have h2 := congrArg List.length hhd
      rw [List.length_map, List.length_reverse] at h2
      rw [h2]
      clear h2 hhd hb ha hsub hsub2 htl hr hps hm hw h1
      induction T with
      | nil => rfl
      | cons R T ih2 =>
        simp only [colT, List.filterMap_cons, high, List.countP_cons] at ih2 ⊢
        cases R with
        | nil => simpa using ih2
        | cons x R => simp at ih2 ⊢; omega
    rw [hlen] at hb
    have hsum : PS.reverse.flatten.countP (fun p => decide (p.2 < k)) = (PS.map (List.take 1)).reverse.flatten.countP (fun p => decide (p.2 < k)) + (PS.map List.tail).reverse.flatten.countP (fun p => decide (p.2 < k)) := by
      clear hlen hb hhd hsub2 ha htl hsub hr hps hm hw h1
      induction PS with
      | nil => rfl
      | cons l PS ih2 =>
        simp only [List.map_cons, List.reverse_cons, List.flatten_append, List.countP_append, ih2]
        have : l.countP (fun p => decide (p.2 < k)) = (l.take 1).countP (fun p => decide (p.2 < k)) + l.tail.countP (fun p => decide (p.2 < k)) := by
          rw [← List.countP_append]
          congr 1
          cases l <;> simp
        simp only [List.flatten_cons, List.flatten_nil, List.append_nil]
        omega
    rw [hsum, rowSum_tail k hw]
    omega

theorem le_of_mem_bound {T : List (List Int)} : ∃ m, ∀ R ∈ T, R.length ≤ m := by
  induction T with
  | nil => exact ⟨0, by simp⟩
  | cons R T ih =>
    obtain ⟨m, hm⟩ := ih
    refine ⟨max m R.length, ?_⟩
    intro S hS
    rcases List.mem_cons.1 hS with rfl | hS
    · omega
    · have := hm S hS; omega

/-- Greene's theorem, rising rows. -/
theorem greene {w : List Int} (hnd : w.Nodup) (k : Nat) : Fam k w (rowSum k (insAll w)) ∧ ∀ n, Fam k w n → n ≤ rowSum k (insAll w) := by
  obtain ⟨h1, h2, h3⟩ := insAll_ok hnd
  refine ⟨(h2.fam k _).2 (riseDown k h1), fun n hn => ?_⟩
  obtain ⟨ps, hm, hr, rfl⟩ := (h2.fam k n).1 hn
  obtain ⟨m, hb⟩ := le_of_mem_bound (T := insAll w)
  exact riseUp k m (insAll_tab hnd).w hb hm hr
/-- Greene's theorem, falling rows. -/
theorem greeneD {w : List Int} (hnd : w.Nodup) (k : Nat) : Fam k w.reverse (colSum k (insAll w)) ∧ ∀ n, Fam k w.reverse n → n ≤ colSum k (insAll w) := by
  obtain ⟨h1, h2, h3⟩ := insAll_ok hnd
  refine ⟨(h2.rev.fam k _).2 (fallDown k (insAll_tab hnd)), fun n hn => ?_⟩
  obtain ⟨ps, hm, hr, rfl⟩ := (h2.rev.fam k n).1 hn
  exact fallUp h1 (by rw [hm, wordT_rev]) hr

end Go.Gr
