/-
  Layer 13, the plain part: the number of tables of a shape, two ways.
  Conditions: none.
-/
import Derived.Test.YtenkokebdgekbaaPt5
namespace Go.Am
open Go.Gr

def cntBad (l : List Int) (i : Nat) : Option Int := if 1 ≤ l.getD i 0 ∧ l.getD i 0 ≤ 9 then (if 0 < i ∧ l.getD (i - 1) 0 < l.getD i 0 then some 7 else none) else some 1
def badE (l : List Int) : Int := firstE (cntBad l) l.length
def cntE (l : List Int) : Int := if l.length = 0 then 4 else if badE l = 0 then (if 9 < l.sum then 3 else 0) else badE l
theorem cntE_4 {l : List Int} (h : l.length = 0) : cntE l = 4 := if_pos h
theorem cntE_bad {l : List Int} (h : l.length ≠ 0) {e : Int} (hb : badE l = e) (he : e ≠ 0) : cntE l = e := by
  rw [cntE, if_neg h, if_neg (by rw [hb]; exact he), hb]
theorem cntE_3 {l : List Int} (h : l.length ≠ 0) (hb : badE l = 0) (hs : 9 < l.sum) : cntE l = 3 := by rw [cntE, if_neg h, if_pos hb, if_pos hs]
theorem cntE_0 {l : List Int} (h : l.length ≠ 0) (hb : badE l = 0) (hs : ¬ 9 < l.sum) : cntE l = 0 := by rw [cntE, if_neg h, if_pos hb, if_neg hs]
theorem cntBad_ne (l : List Int) (i : Nat) : cntBad l i ≠ some 0 := by
  unfold cntBad
  split
  · split <;> simp
  · simp
theorem cntBad_none {l : List Int} {i : Nat} (h : cntBad l i = none) : 1 ≤ l.getD i 0 ∧ l.getD i 0 ≤ 9 ∧ (0 < i → l.getD i 0 ≤ l.getD (i - 1) 0) := by
  unfold cntBad at h
  split at h
  · split at h
    · cases h
    · rename_i h1 h2
      exact ⟨h1.1, h1.2, fun h0 => by omega⟩
  · cases h
theorem take_sum1 {l : List Int} {i : Nat} (hi : i < l.length) : (l.take (i + 1)).sum = (l.take i).sum + l.getD i 0 := by rw [take_snoc hi]; simp
theorem sum_ge {l : List Int} (h : ∀ i, i < l.length → 1 ≤ l.getD i 0) : ∀ i, i ≤ l.length → (i : Int) ≤ (l.take i).sum := by
  intro i
  induction i with
  | zero => intro _; simp
  | succ i ih =>
    intro hi
    rw [take_sum1 (by omega)]
    have := ih (by omega)
    have := h i (by omega)
    omega
theorem sum_mono {l : List Int} (h : ∀ i, i < l.length → 0 ≤ l.getD i 0) : ∀ i j, i ≤ j → j ≤ l.length → (l.take i).sum ≤ (l.take j).sum := by
  intro i j hij hj
  induction j with
  | zero => rw [show i = 0 by omega]; exact Int.le_refl _
  | succ j ih =>
    rcases Nat.lt_or_eq_of_le hij with h1 | rfl
    · rw [take_sum1 (by omega)]
      have := ih (by omega) (by omega)
      have := h j (by omega)
      omega
    · exact Int.le_refl _

/-- All orders. -/
def factI : Nat → Int
  | 0 => 1
  | n + 1 => factI n * ((n : Int) + 1)
theorem factI_small : ∀ n, n ≤ 9 → 0 ≤ factI n ∧ factI n ≤ 362880 := by decide
/-- Hooks. -/
def hookC (l : List Int) (i k : Nat) : Int := l.getD i 0 - k + ((l.drop (i + 1)).countP fun m => decide ((k : Int) < m) : Nat)
def hookRow (l : List Int) (i : Nat) : Nat → Int
  | 0 => 1
  | k + 1 => hookRow l i k * hookC l i k
def hooksTo (l : List Int) : Nat → Int
  | 0 => 1
  | i + 1 => hooksTo l i * hookRow l i (l.getD i 0).toNat
theorem mulB {a b : Int} {c : Nat} (ha0 : 1 ≤ a) (ha : a ≤ 18 ^ c) (hb0 : 1 ≤ b) (hb : b ≤ 18) : 1 ≤ a * b ∧ a * b ≤ 18 ^ (c + 1) := by
  refine ⟨?_, ?_⟩
  · have := Int.mul_le_mul ha0 hb0 (by decide) (by omega)
    simpa using this
  · rw [Int.pow_succ]
    exact Int.mul_le_mul ha hb (by omega) (by omega)
theorem pow18 {c : Nat} (h : c ≤ 9) : (18 : Int) ^ c ≤ 198359290368 := by
  have : ∀ c : Nat, c ≤ 9 → (18 : Int) ^ c ≤ 198359290368 := by decide
  exact this c h

/-- The greatest number stands at the end of a row. -/
def tabS : Nat → List Int → Int
  | 0, _ => 1
  | d + 1, l => ((List.range l.length).map fun j => if 0 < l.getD j 0 ∧ (j + 1 = l.length ∨ l.getD (j + 1) 0 < l.getD j 0) then tabS d (l.set j (l.getD j 0 - 1)) else 0).sum
def tabT (d : Nat) (l : List Int) (j : Nat) : Int := if 0 < l.getD j 0 ∧ (j + 1 = l.length ∨ l.getD (j + 1) 0 < l.getD j 0) then tabS (d - 1) (l.set j (l.getD j 0 - 1)) else 0
def tabO (d : Nat) (l : List Int) (i : Nat) : Int := ((List.range i).map (tabT d l)).sum
theorem tabO_succ (d : Nat) (l : List Int) (i : Nat) : tabO d l (i + 1) = tabO d l i + tabT d l i := by simp [tabO, List.range_succ]
theorem tabS_pos {d : Nat} (h : d ≠ 0) (l : List Int) : tabS d l = tabO d l l.length := by
  obtain ⟨e, rfl⟩ : ∃ e, d = e + 1 := ⟨d - 1, by omega⟩
  rfl
theorem tabS_le : ∀ (d : Nat) (l : List Int), l.length ≤ 9 → 0 ≤ tabS d l ∧ tabS d l ≤ 9 ^ d := by
  intro d
  induction d with
  | zero => intro l _; exact ⟨Int.zero_le_ofNat 1, Int.le_refl 1⟩
  | succ d ih =>
    intro l hl
    have hT : ∀ j, 0 ≤ tabT (d + 1) l j ∧ tabT (d + 1) l j ≤ 9 ^ d := by
      intro j
      unfold tabT
      split
      · exact ih _ (by rw [List.length_set]; exact hl)
      · exact ⟨Int.le_refl _, Int.pow_nonneg (by decide)⟩
    have key : ∀ i, 0 ≤ tabO (d + 1) l i ∧ tabO (d + 1) l i ≤ i * 9 ^ d := by
      intro i
      induction i with
      | zero => simp [tabO]
      | succ i ih2 =>
        rw [tabO_succ]
        have h1 := hT i
        have h2 : ((i + 1 : Nat) : Int) * 9 ^ d = i * 9 ^ d + 9 ^ d := by rw [Int.natCast_add, Int.add_mul]; simp
        omega
    rw [tabS_pos (Nat.succ_ne_zero d)]
    have h1 := key l.length
    refine ⟨h1.1, Int.le_trans h1.2 ?_⟩
    rw [Int.pow_succ, Int.mul_comm]
    exact Int.mul_le_mul_of_nonneg_left (by omega) (Int.pow_nonneg (by decide))

/-- All shapes. -/
def parts : Nat → Nat → Nat → List (List Int)
  | 0, _, _ => [[]]
  | d + 1, m, s => [] :: (List.range (min m s)).flatMap fun a => (parts d (a + 1) (s - (a + 1))).map fun p => ((a : Int) + 1) :: p
theorem parts_mem : ∀ (d m s : Nat) (l : List Int), l.length ≤ d → (∀ x ∈ l, 1 ≤ x ∧ x ≤ m) → l.Pairwise (· ≥ ·) → l.sum ≤ s → l ∈ parts d m s := by
  intro d
  induction d with
  | zero =>
    intro m s l hl _ _ _
    have : l = [] := List.length_eq_zero_iff.1 (by omega)
    subst this
    simp [parts]
  | succ d ih =>
    intro m s l hl hb hp hs
    cases l with
    | nil => simp [parts]
    | cons x l =>
      rw [parts]
      refine List.mem_cons_of_mem _ ?_
      have hx := hb x (by simp)
      obtain ⟨h1, h2⟩ := List.pairwise_cons.1 hp
      have hsum : 0 ≤ l.sum := by
        have : ∀ l : List Int, (∀ x ∈ l, 0 ≤ x) → 0 ≤ l.sum := by
          intro l
          induction l with
          | nil => intro _; simp
          | cons y l ih2 => intro hy; rw [List.sum_cons]; have := ih2 (fun x hx => hy x (by simp [hx])); have := hy y (by simp); omega
        exact this l (fun y hy => by have := hb y (by simp [hy]); omega)
      rw [List.sum_cons] at hs
      rw [List.mem_flatMap]
      refine ⟨x.toNat - 1, List.mem_range.2 (by omega), ?_⟩
      rw [List.mem_map]
      refine ⟨l, ?_, by congr 1; omega⟩
      refine ih _ _ l (by simpa using hl) (fun y hy => ⟨(hb y (by simp [hy])).1, ?_⟩) h2 (by omega)
      have := h1 y hy
      omega
theorem hooks_all : (parts 9 9 9).all (fun l => decide (tabS l.sum.toNat l = (factI l.sum.toNat).tdiv (hooksTo l l.length))) = true := by decide +kernel

/-- The theorem of the hooks, at the sizes that are allowed. -/
theorem hooks_is {l : List Int} (h : cntE l = 0) : tabS l.sum.toNat l = (factI l.sum.toNat).tdiv (hooksTo l l.length) := by
  unfold cntE at h
  by_cases h0 : l.length = 0
  · rw [if_pos h0] at h; cases h
  rw [if_neg h0] at h
  have h1 : badE l = 0 := by
    by_cases h1 : badE l = 0
    · exact h1
    · rw [if_neg h1] at h; exact h
  rw [if_pos h1] at h
  have h2 : ¬ 9 < l.sum := by
    intro h2; rw [if_pos h2] at h; cases h
  have hb := firstE_zero (cntBad_ne l) h1
  have hpos : ∀ i, i < l.length → 1 ≤ l.getD i 0 := fun i hi => (cntBad_none (hb i hi)).1
  have hlen := sum_ge hpos l.length (Nat.le_refl _)
  rw [List.take_length] at hlen
  have hm : l ∈ parts 9 9 9 := by
    refine parts_mem 9 9 9 l (by omega) ?_ ?_ (by omega)
    · intro x hx
      obtain ⟨i, hi, rfl⟩ := mem_getD hx
      have := cntBad_none (hb i hi)
      omega
    · refine List.pairwise_iff_getElem.2 ?_
      have key : ∀ e i, i + e < l.length → l.getD (i + e) 0 ≤ l.getD i 0 := by
        intro e
        induction e with
        | zero => intro i _; exact Int.le_refl _
        | succ e ih =>
          intro i hi
          have h3 := ih i (by omega)
          have h4 := (cntBad_none (hb (i + (e + 1)) hi)).2.2 (by omega)
          rw [show i + (e + 1) - 1 = i + e by omega] at h4
          omega
      intro i j hi hj hij
      have := key (j - i) i (by omega)
      rw [show i + (j - i) = j by omega] at this
      simpa [List.getD_eq_getElem?_getD, List.getElem?_eq_getElem hi, List.getElem?_eq_getElem hj] using this
  have := List.all_eq_true.1 hooks_all l hm
  exact of_decide_eq_true this

end Go.Am
