/-
  Layer 13, the plain part: rows of a pack as sets, the first one of the longest.
  Conditions: none.
-/
import Derived.Test.YtenkokebdgekbaaPt1
namespace Go.Am
open Go.Gr

/-- The cards at the places of a set. -/
def rowT (l : List Int) (s i : Nat) : List Int := ((List.range i).filter (fun j => s.testBit j)).map (fun j => l.getD j 0)
def rowS (l : List Int) (s : Nat) : List Int := rowT l s l.length
theorem rowT_zero (l : List Int) (s : Nat) : rowT l s 0 = [] := rfl
theorem rowT_succ (l : List Int) (s i : Nat) : rowT l s (i + 1) = if s.testBit i then rowT l s i ++ [l.getD i 0] else rowT l s i := by
  unfold rowT
  rw [List.range_succ, List.filter_append, List.map_append]
  cases h : s.testBit i <;> simp [h]
theorem rowT_len (l : List Int) (s i : Nat) : (rowT l s i).length ≤ i := by
  unfold rowT
  rw [List.length_map]
  exact Nat.le_trans (List.length_filter_le _ _) (by simp)
theorem rowT_sub (l : List Int) (s : Nat) : ∀ i, i ≤ l.length → (rowT l s i).Sublist (l.take i) := by
  intro i
  induction i with
  | zero => intro _; simp [rowT_zero]
  | succ i ih =>
    intro hi
    rw [rowT_succ, take_snoc (by omega)]
    split
    · exact (ih (by omega)).append (.refl _)
    · exact (ih (by omega)).trans (List.sublist_append_left _ _)
theorem rowS_sub (l : List Int) (s : Nat) : (rowS l s).Sublist l := by
  have := rowT_sub l s l.length (Nat.le_refl _)
  rwa [List.take_of_length_le (Nat.le_refl _)] at this
theorem rowT_congr (l : List Int) (s t : Nat) : ∀ i, (∀ j, j < i → s.testBit j = t.testBit j) → rowT l s i = rowT l t i := by
  intro i
  induction i with
  | zero => intro _; rfl
  | succ i ih =>
    intro h
    rw [rowT_succ, rowT_succ, ih (fun j hj => h j (by omega)), h i (by omega)]
theorem rowT_onto (l : List Int) : ∀ i, i ≤ l.length → ∀ r : List Int, r.Sublist (l.take i) → ∃ s, s < 2 ^ i ∧ rowT l s i = r := by
  intro i
  induction i with
  | zero => intro _ r hr; simp at hr; subst hr; exact ⟨0, by decide, rfl⟩
  | succ i ih =>
    intro hi r hr
    rw [take_snoc (by omega)] at hr
    obtain ⟨r1, r2, rfl, h1, h2⟩ := List.sublist_append_iff.1 hr
    obtain ⟨s, hs, rfl⟩ := ih (by omega) r1 h1
    have hf : s.testBit i = false := Nat.testBit_lt_two_pow hs
    match r2, h2 with
    | [], _ =>
      refine ⟨s, by rw [Nat.pow_succ]; omega, ?_⟩
      rw [rowT_succ, hf]; simp
    | x :: r3, h2 =>
      have h3 : x :: r3 = [l.getD i 0] := by
        have := h2.length_le
        simp at this
        subst this
        have := List.singleton_sublist.1 h2
        simp at this
        rw [this]; simp
      rw [h3]
      refine ⟨2 ^ i + s, by rw [Nat.pow_succ]; omega, ?_⟩
      rw [rowT_succ, Nat.testBit_two_pow_add_eq, hf, rowT_congr l (2 ^ i + s) s i (fun j hj => Nat.testBit_two_pow_add_gt hj s)]
      simp
theorem rowS_onto (l : List Int) (r : List Int) (h : r.Sublist l) : ∃ s, s < 2 ^ l.length ∧ rowS l s = r :=
  rowT_onto l l.length (Nat.le_refl _) r (by rwa [List.take_of_length_le (Nat.le_refl _)])

/-- Order by the first difference. -/
def lexB : List Int → List Int → Bool
  | a :: p, b :: q => if a = b then lexB p q else decide (a < b)
  | _, _ => false
theorem lexB_nil (b : List Int) : lexB [] b = false := by cases b <;> rfl
theorem lexB_nil2 (b : List Int) : lexB b [] = false := by cases b <;> rfl
theorem lexB_self (a : List Int) : lexB a a = false := by
  induction a with
  | nil => rfl
  | cons x a ih => simp [lexB, ih]
theorem lexB_trans : ∀ {a b c : List Int}, lexB a b = true → lexB b c = true → lexB a c = true := by
  intro a
  induction a with
  | nil => intro b c h _; rw [lexB_nil] at h; cases h
  | cons x a ih =>
    intro b c h1 h2
    cases b with
    | nil => rw [lexB_nil2] at h1; cases h1
    | cons y b =>
      cases c with
      | nil => rw [lexB_nil2] at h2; cases h2
      | cons z c =>
        simp only [lexB] at h1 h2 ⊢
        by_cases e1 : x = y
        · subst e1
          rw [if_pos rfl] at h1
          by_cases e2 : x = z
          · subst e2; rw [if_pos rfl] at h2 ⊢; exact ih h1 h2
          · rw [if_neg e2] at h2 ⊢; exact h2
        · rw [if_neg e1] at h1
          have h1 := of_decide_eq_true h1
          by_cases e2 : y = z
          · subst e2; rw [if_neg e1]; exact decide_eq_true h1
          · rw [if_neg e2] at h2
            have h2 := of_decide_eq_true h2
            rw [if_neg (by omega)]
            exact decide_eq_true (by omega)
theorem lexB_total : ∀ {a b : List Int}, a.length = b.length → a ≠ b → lexB a b = true ∨ lexB b a = true := by
  intro a
  induction a with
  | nil => intro b h hne; exact absurd (List.length_eq_zero_iff.1 h.symm).symm hne
  | cons x a ih =>
    intro b h hne
    cases b with
    | nil => cases h
    | cons y b =>
      simp only [lexB]
      by_cases e : x = y
      · subst e
        rw [if_pos rfl, if_pos rfl]
        exact ih (by simpa using h) (fun he => hne (by rw [he]))
      · rw [if_neg e, if_neg (Ne.symm e)]
        rcases Int.lt_or_gt_of_ne e with h | h
        · exact .inl (decide_eq_true h)
        · exact .inr (decide_eq_true h)

/-- A row that rises, or falls. -/
def runsB (l : List Int) (f : Bool) : Bool := (List.range l.length).all fun i => decide (i = 0) || (decide (l.getD (i - 1) 0 < l.getD i 0) != f)
theorem runsB_true {l : List Int} {f : Bool} (h : ∀ i, 0 < i → i < l.length → decide (l.getD (i - 1) 0 < l.getD i 0) ≠ f) : runsB l f = true := by
  rw [runsB, List.all_eq_true]
  intro i hi
  rw [List.mem_range] at hi
  by_cases h0 : i = 0
  · simp [h0]
  · have := h i (by omega) hi
    simp only [Bool.or_eq_true, bne_iff_ne]
    exact .inr this
theorem runsB_false {l : List Int} {f : Bool} {i : Nat} (h0 : 0 < i) (hi : i < l.length) (h : decide (l.getD (i - 1) 0 < l.getD i 0) = f) : runsB l f = false := by
  rw [runsB, List.all_eq_false]
  refine ⟨i, List.mem_range.2 hi, ?_⟩
  rw [h]
  simp; omega
theorem runsB_at {l : List Int} {f : Bool} (h : runsB l f = true) {i : Nat} (h0 : 0 < i) (hi : i < l.length) : decide (l.getD (i - 1) 0 < l.getD i 0) ≠ f := by
  rw [runsB, List.all_eq_true] at h
  have := h i (List.mem_range.2 hi)
  simp only [Bool.or_eq_true, bne_iff_ne, decide_eq_true_eq] at this
  rcases this with h | h
  · omega
  · exact h

/-- One card may stand behind another. -/
def ris (f : Bool) (a b : Int) : Bool := if f then decide (b < a) else decide (a < b)
theorem ris_trans {f : Bool} {a b c : Int} (h1 : ris f a b = true) (h2 : ris f b c = true) : ris f a c = true := by
  cases f <;> simp [ris] at h1 h2 ⊢ <;> omega
abbrev Mono (f : Bool) (l : List Int) : Prop := l.Pairwise (fun a b => ris f a b = true)
theorem mono_of_next {f : Bool} {l : List Int} (h : ∀ i, i + 1 < l.length → ris f (l.getD i 0) (l.getD (i + 1) 0) = true) : Mono f l := by
  refine List.pairwise_iff_getElem.2 ?_
  have key : ∀ d i, i + (d + 1) < l.length → ris f (l.getD i 0) (l.getD (i + (d + 1)) 0) = true := by
    intro d
    induction d with
    | zero => intro i hi; exact h i hi
    | succ d ih =>
      intro i hi
      exact ris_trans (ih i (by omega)) (h (i + (d + 1)) (by omega))
  intro i j hi hj hij
  obtain ⟨d, rfl⟩ : ∃ d, j = i + (d + 1) := ⟨j - i - 1, by omega⟩
  have := key d i hj
  simpa [List.getD_eq_getElem?_getD, List.getElem?_eq_getElem hi, List.getElem?_eq_getElem hj] using this
theorem runs_mono {l : List Int} {f : Bool} (hn : l.Nodup) : runsB l f = true ↔ Mono f l := by
  have hne : ∀ i, i + 1 < l.length → l.getD i 0 ≠ l.getD (i + 1) 0 := by
    intro i hi
    have := List.pairwise_iff_getElem.1 hn i (i + 1) (by omega) hi (by omega)
    simpa [List.getD_eq_getElem?_getD, List.getElem?_eq_getElem hi, List.getElem?_eq_getElem (show i < l.length by omega)] using this
  constructor
  · intro h
    refine mono_of_next fun i hi => ?_
    have h1 := runsB_at h (i := i + 1) (by omega) hi
    have h2 := hne i hi
    simp only [Nat.add_sub_cancel] at h1
    revert h1 h2
    generalize l.getD i 0 = a
    generalize l.getD (i + 1) 0 = b
    intro h2 h1
    cases f with
    | false => simpa [ris] using h1
    | true =>
      have h3 : ¬ a < b := by simpa using h1
      have h4 : b < a := by omega
      simpa [ris] using h4
  · intro h
    refine runsB_true fun i h0 hi => ?_
    obtain ⟨j, rfl⟩ : ∃ j, i = j + 1 := ⟨i - 1, by omega⟩
    have h1 := List.pairwise_iff_getElem.1 h j (j + 1) (by omega) hi (by omega)
    have h1 : ris f (l.getD j 0) (l.getD (j + 1) 0) = true := by simpa [List.getD_eq_getElem?_getD, List.getElem?_eq_getElem hi, List.getElem?_eq_getElem (show j < l.length by omega)] using h1
    simp only [Nat.add_sub_cancel]
    revert h1
    generalize l.getD j 0 = a
    generalize l.getD (j + 1) 0 = b
    intro h1
    cases f <;> simp [ris] at h1 ⊢ <;> omega

/-- The best of some rows. -/
def pickB (bt : List Int → List Int → Bool) (ok : List Int → Bool) (cs : List (List Int)) (b : List Int) : List Int := cs.foldl (fun best r => if ok r && bt r best then r else best) b
theorem pickB_snoc (bt : List Int → List Int → Bool) (ok : List Int → Bool) (cs : List (List Int)) (r b : List Int) : pickB bt ok (cs ++ [r]) b = if ok r && bt r (pickB bt ok cs b) then r else pickB bt ok cs b := by simp [pickB]
theorem pickB_mem (bt : List Int → List Int → Bool) (ok : List Int → Bool) (cs : List (List Int)) (b : List Int) : pickB bt ok cs b = b ∨ (pickB bt ok cs b ∈ cs ∧ ok (pickB bt ok cs b) = true) := by
  induction cs using snoc_ind with
  | h0 => exact .inl rfl
  | h1 cs r ih =>
    rw [pickB_snoc]
    split
    · rename_i h
      simp only [Bool.and_eq_true] at h
      exact .inr ⟨by simp, h.1⟩
    · rcases ih with h | h
      · exact .inl h
      · exact .inr ⟨by simp [h.1], h.2⟩
theorem pickB_top {bt : List Int → List Int → Bool} (ht : ∀ {a b c}, bt a b = true → bt b c = true → bt a c = true) (hi : ∀ a, bt a a = false) {ok : List Int → Bool} (cs : List (List Int)) (b : List Int) :
    bt b (pickB bt ok cs b) = false ∧ ∀ c ∈ cs, ok c = true → bt c (pickB bt ok cs b) = false := by
  induction cs using snoc_ind with
  | h0 => exact ⟨hi b, by simp⟩
  | h1 cs r ih =>
    rw [pickB_snoc]
    split
    · rename_i h
      simp only [Bool.and_eq_true] at h
      have key : ∀ x, bt x (pickB bt ok cs b) = false → bt x r = false := by
        intro x hx
        cases hq : bt x r with
        | false => rfl
        | true => rw [ht hq h.2] at hx; cases hx
      refine ⟨key b ih.1, ?_⟩
      intro c hc hok
      rcases List.mem_append.1 hc with hc | hc
      · exact key c (ih.2 c hc hok)
      · simp at hc; subst hc; exact hi c
    · rename_i h
      refine ⟨ih.1, ?_⟩
      intro c hc hok
      rcases List.mem_append.1 hc with hc | hc
      · exact ih.2 c hc hok
      · simp at hc; subst hc
        cases hq : bt c (pickB bt ok cs b) with
        | false => rfl
        | true => rw [hok, hq] at h; exact absurd rfl h

def better (a b : List Int) : Bool := decide (b.length < a.length) || (decide (a.length = b.length) && lexB a b)
theorem better_iff {a b : List Int} : better a b = true ↔ b.length < a.length ∨ (a.length = b.length ∧ lexB a b = true) := by simp [better]
theorem better_long {a b : List Int} (h : b.length < a.length) : better a b = true := better_iff.2 (.inl h)
theorem better_eq {a b : List Int} (h : a.length = b.length) : better a b = lexB a b := by simp [better, h]
theorem better_short {a b : List Int} (h : ¬ b.length < a.length) (h2 : ¬ a.length = b.length) : better a b = false := by simp [better, h, h2]
theorem better_self (a : List Int) : better a a = false := by
  cases h : better a a with
  | false => rfl
  | true => rcases better_iff.1 h with h | h
            · omega
            · rw [lexB_self] at h; cases h.2
theorem better_trans {a b c : List Int} (h1 : better a b = true) (h2 : better b c = true) : better a c = true := by
  rw [better_iff] at *
  rcases h1 with h1 | ⟨h1, h3⟩ <;> rcases h2 with h2 | ⟨h2, h4⟩
  · exact .inl (by omega)
  · exact .inl (by omega)
  · exact .inl (by omega)
  · exact .inr ⟨by omega, lexB_trans h3 h4⟩
theorem better_total {a b : List Int} (h : a ≠ b) : better a b = true ∨ better b a = true := by
  rw [better_iff, better_iff]
  rcases Nat.lt_trichotomy a.length b.length with h1 | h1 | h1
  · exact .inr (.inl h1)
  · rcases lexB_total h1 h with h2 | h2
    · exact .inl (.inr ⟨h1, h2⟩)
    · exact .inr (.inr ⟨h1.symm, h2⟩)
  · exact .inl (.inl h1)

/-- The first one of the longest rows. -/
structure IsBest (l : List Int) (f : Bool) (r : List Int) : Prop where
  sub : r.Sublist l
  run : runsB r f = true
  top : ∀ s : List Int, s.Sublist l → runsB s f = true → better s r = false
theorem IsBest.unique {l : List Int} {f : Bool} {r s : List Int} (h1 : IsBest l f r) (h2 : IsBest l f s) : r = s := by
  by_cases h : r = s
  · exact h
  · rcases better_total h with h3 | h3
    · rw [h2.top r h1.sub h1.run] at h3; cases h3
    · rw [h1.top s h2.sub h2.run] at h3; cases h3

def bestTo (l : List Int) (f : Bool) (n : Nat) : List Int := pickB better (fun r => runsB r f) ((List.range n).map (rowS l)) []
def bestOf (l : List Int) (f : Bool) : List Int := bestTo l f (2 ^ l.length)
theorem bestOf_is (l : List Int) (f : Bool) : IsBest l f (bestOf l f) := by
  have ht := pickB_top (bt := better) better_trans better_self (ok := fun r => runsB r f) ((List.range (2 ^ l.length)).map (rowS l)) []
  refine ⟨?_, ?_, ?_⟩
  · rcases pickB_mem better (fun r => runsB r f) ((List.range (2 ^ l.length)).map (rowS l)) [] with h | h
    · unfold bestOf bestTo; rw [h]; exact List.nil_sublist _
    · obtain ⟨s, _, hs⟩ := List.mem_map.1 h.1
      unfold bestOf bestTo; rw [← hs]; exact rowS_sub l s
  · rcases pickB_mem better (fun r => runsB r f) ((List.range (2 ^ l.length)).map (rowS l)) [] with h | h
    · unfold bestOf bestTo; rw [h]; rfl
    · exact h.2
  · intro s hs hr
    obtain ⟨n, hn, rfl⟩ := rowS_onto l s hs
    exact ht.2 _ (List.mem_map.2 ⟨n, List.mem_range.2 hn, rfl⟩) hr
theorem bestTo_len (l : List Int) (f : Bool) (n : Nat) : (bestTo l f n).length ≤ l.length := by
  unfold bestTo
  rcases pickB_mem better (fun r => runsB r f) ((List.range n).map (rowS l)) [] with h | h
  · rw [h]; simp
  · obtain ⟨s, _, hs⟩ := List.mem_map.1 h.1
    rw [← hs]; exact rowT_len l s _

end Go.Am
