/-
  Layer 13, the plain part: how many cards some rows can have together.
  Conditions: none.
-/
import Derived.Test.YtenkokebdgekbaaPt8
namespace Go.Am
open Go.Gr

theorem famLift {k n : Nat} {r l : List Int} (h : r.Sublist l) (hf : Go.Gr.Fam k r n) : Go.Gr.Fam k l n := by
  obtain ⟨ps, hm, hr, hn⟩ := hf
  have key : ∀ {r l : List Int}, r.Sublist l → ∀ ps : List (Int × Nat), ps.map (·.1) = r → ∃ qs : List (Int × Nat), qs.map (·.1) = l ∧ (∀ c, c < k → rowC c qs = rowC c ps) ∧ qs.countP (fun p => decide (p.2 < k)) = ps.countP (fun p => decide (p.2 < k)) := by
    intro r l h
    induction h with
    | slnil => intro ps hps; exact ⟨ps, hps, fun _ _ => rfl, rfl⟩
    | @cons r l x _ ih =>
      intro ps hps
      obtain ⟨qs, h1, h2, h3⟩ := ih ps hps
      refine ⟨(x, k) :: qs, by simp [h1], ?_, ?_⟩
      · intro c hc; rw [rowC_other (by omega)]; exact h2 c hc
      · rw [List.countP_cons, h3]; simp
    | @cons_cons r l x _ ih =>
      intro ps hps
      match ps, hps with
      | (y, c) :: ps, hps =>
        simp only [List.map_cons, List.cons.injEq] at hps
        obtain ⟨rfl, hps2⟩ := hps
        obtain ⟨qs, h1, h2, h3⟩ := ih ps hps2
        refine ⟨(y, c) :: qs, by simp [h1], ?_, ?_⟩
        · intro d hd; rw [rowC_cons, rowC_cons, h2 d hd]
        · rw [List.countP_cons, List.countP_cons, h3]
  obtain ⟨qs, h1, h2, h3⟩ := key h ps hm
  exact ⟨qs, h1, fun c hc => by rw [h2 c hc]; exact hr c hc, by rw [h3, hn]⟩
/-- One colour: a row that rises. -/
theorem famOne {n : Nat} {w : List Int} (hf : Go.Gr.Fam 1 w n) : ∃ s : List Int, s.Sublist w ∧ Rise s ∧ s.length = n := by
  obtain ⟨ps, hm, hr, hn⟩ := hf
  refine ⟨rowC 0 ps, by rw [← hm]; exact rowC_sub 0 ps, hr 0 (by omega), ?_⟩
  have h1 := count_succ 0 ps
  have h0 : ps.countP (fun p => decide (p.2 < 0)) = 0 := by rw [List.countP_eq_zero]; simp
  rw [h0] at h1
  rw [← hn]
  show _ = ps.countP (fun p => decide (p.2 < 0 + 1))
  omega
/-- Some colours: no row that falls has two cards of one colour. -/
theorem famRows {k n : Nat} {w : List Int} (hf : Go.Gr.Fam k w n) : ∃ r : List Int, r.Sublist w ∧ r.length = n ∧ ∀ s : List Int, s.Sublist r → s.Pairwise (· > ·) → s.length ≤ k := by
  obtain ⟨ps, hm, hr, hn⟩ := hf
  refine ⟨(ps.filter fun p => decide (p.2 < k)).map (·.1), by rw [← hm]; exact List.filter_sublist.map _, by rw [List.length_map, ← hn, List.countP_eq_length_filter], ?_⟩
  intro s hs hfall
  obtain ⟨qs, h1, rfl⟩ := List.sublist_map_iff.1 hs
  have h2 := count_fall (k := k) hfall (fun c hc => (hr c hc).sublist (rowC_mono (h1.trans List.filter_sublist)))
  have h3 : qs.countP (fun p => decide (p.2 < k)) = qs.length := by
    rw [List.countP_eq_length]
    intro p hp
    exact (List.mem_filter.1 (h1.subset hp)).2
  rw [List.length_map]
  omega

theorem mono_true {l : List Int} : Mono true l ↔ l.Pairwise (· > ·) := by
  constructor
  · intro h; exact h.imp (fun h => by simpa [ris] using h)
  · intro h; exact h.imp (fun h => by simpa [ris] using h)
theorem best_top {r : List Int} (hn : r.Nodup) {f : Bool} {s : List Int} (hs : s.Sublist r) (hm : Mono f s) : s.length ≤ (bestOf r f).length := by
  have h1 := (bestOf_is r f).top s hs ((runs_mono (hn.sublist hs)).2 hm)
  rcases Nat.lt_or_ge (bestOf r f).length s.length with h | h
  · rw [better_long h] at h1; cases h1
  · exact h
theorem best_mono {r : List Int} (hn : r.Nodup) (f : Bool) : Mono f (bestOf r f) := (runs_mono (hn.sublist (bestOf_is r f).sub)).1 (bestOf_is r f).run

theorem rowSum_all {k : Nat} {T : List (List Int)} (h : T.length ≤ k) : rowSum k T = (wordT T).length := by
  rw [rowSum, List.take_of_length_le h]
  simp [wordT, List.length_flatten, List.map_reverse, List.sum_reverse]
theorem colSum_all {k : Nat} {T : List (List Int)} (h : ∀ R ∈ T, R.length ≤ k) : colSum k T = (wordT T).length := by
  have : T.map (fun R => min k R.length) = T.map List.length := by
    apply List.map_congr_left
    intro R hR
    have := h R hR
    omega
  rw [colSum, this]
  simp [wordT, List.length_flatten, List.map_reverse, List.sum_reverse]
theorem colSum_one {T : List (List Int)} (h : ∀ R ∈ T, R ≠ []) : colSum 1 T = T.length := by
  have : T.map (fun R => min 1 R.length) = T.map (fun _ => 1) := by
    apply List.map_congr_left
    intro R hR
    have := List.length_pos_iff.2 (h R hR)
    omega
  rw [colSum, this]
  induction T with
  | nil => rfl
  | cons R T ih => rw [List.map_cons, List.sum_cons, ih (fun S hS => h S (by simp [hS])) (by apply List.map_congr_left; intro S hS; have := List.length_pos_iff.2 (h S (by simp [hS])); omega)]; simp; omega
theorem rowSum_one (T : List (List Int)) : rowSum 1 T = (T.getD 0 []).length := by cases T <;> simp [rowSum]
theorem tab_first {T : List (List Int)} (h : Tab T) : ∀ R ∈ T, R.length ≤ (T.getD 0 []).length := by
  induction T with
  | nil => simp
  | cons R T ih =>
    intro S hS
    rw [List.getD_cons_zero]
    rcases List.mem_cons.1 hS with rfl | hS
    · exact Nat.le_refl _
    · have h1 := ih h.2.2.2 S hS
      have h2 := h.2.2.1.1
      cases T with
      | nil => simp at hS
      | cons Q T => simp at h1 h2; omega

/-- Schensted: rising. -/
theorem schen_rise {w : List Int} (hn : w.Nodup) : (bestOf w false).length = ((insAll w).getD 0 []).length := by
  obtain ⟨h1, h2⟩ := greene hn 1
  rw [rowSum_one] at h1 h2
  obtain ⟨s, hs1, hs2, hs3⟩ := famOne h1
  have h3 := best_top hn hs1 (mono_false.2 hs2)
  have h4 := h2 (bestOf w false).length (by
    refine famLift (bestOf_is w false).sub ⟨(bestOf w false).map (fun x => (x, 0)), by simp [Function.comp_def], ?_, ?_⟩
    · intro c hc
      have : c = 0 := by omega
      subst this
      rw [rowC_map, if_pos rfl]
      exact mono_false.1 (best_mono hn false)
    · rw [List.countP_map, List.countP_eq_length.2 (by intro x _; simp)])
  omega
/-- Schensted: falling. -/
theorem schen_fall {w : List Int} (hn : w.Nodup) : (bestOf w true).length = (insAll w).length := by
  obtain ⟨h1, h2⟩ := greeneD hn 1
  rw [colSum_one (tab_ne (insAll_tab hn))] at h1 h2
  obtain ⟨s, hs1, hs2, hs3⟩ := famOne h1
  have h5 : s.reverse.Sublist w := by have := List.reverse_sublist.2 hs1; simpa using this
  have h3 := best_top hn h5 (mono_true.2 (by rw [List.pairwise_reverse]; exact hs2))
  rw [List.length_reverse] at h3
  have h6 : Rise (bestOf w true).reverse := by
    unfold Rise; rw [List.pairwise_reverse]
    exact (mono_true.1 (best_mono hn true))
  have h4 := h2 (bestOf w true).length (by
    refine famLift (List.reverse_sublist.2 (bestOf_is w true).sub) ⟨(bestOf w true).reverse.map (fun x => (x, 0)), by simp [Function.comp_def], ?_, ?_⟩
    · intro c hc
      have : c = 0 := by omega
      subst this
      rw [rowC_map, if_pos rfl]
      exact h6
    · rw [List.countP_map, List.countP_eq_length.2 (by intro x _; simp), List.length_reverse])
  omega

def mostOf (l : List Int) (k : Nat) (f : Bool) : Nat := if f then colSum k (insAll l) else rowSum k (insAll l)
theorem most_le {l : List Int} (hn : l.Nodup) {k : Nat} {f : Bool} {r : List Int} (hr : r.Sublist l) (hb : (bestOf r (!f)).length ≤ k) : r.length ≤ mostOf l k f := by
  have hrn := hn.sublist hr
  have hlen := (insAll_ok hrn).2.2.length_eq
  cases f with
  | false =>
    rw [Bool.not_false, schen_fall hrn] at hb
    have h1 := (greene hrn k).1
    rw [rowSum_all hb, hlen] at h1
    exact (greene hn k).2 _ (famLift hr h1)
  | true =>
    rw [Bool.not_true, schen_rise hrn] at hb
    have h1 := (greeneD hrn k).1
    rw [colSum_all (fun R hR => by have := tab_first (insAll_tab hrn) R hR; omega), hlen] at h1
    exact (greeneD hn k).2 _ (famLift (List.reverse_sublist.2 hr) h1)
theorem most_ex {l : List Int} (hn : l.Nodup) (k : Nat) (f : Bool) : ∃ r : List Int, r.Sublist l ∧ (bestOf r (!f)).length ≤ k ∧ r.length = mostOf l k f := by
  cases f with
  | false =>
    obtain ⟨r, h1, h2, h3⟩ := famRows (greene hn k).1
    exact ⟨r, h1, h3 _ (bestOf_is r true).sub (mono_true.1 (best_mono (hn.sublist h1) true)), h2⟩
  | true =>
    obtain ⟨r, h1, h2, h3⟩ := famRows (greeneD hn k).1
    have h4 : r.reverse.Sublist l := by have := List.reverse_sublist.2 h1; simpa using this
    refine ⟨r.reverse, h4, ?_, by rw [List.length_reverse]; exact h2⟩
    have h5 := best_mono (hn.sublist h4) false
    have h6 := (bestOf_is r.reverse false).sub
    have h7 := h3 (bestOf r.reverse false).reverse (by have := List.reverse_sublist.2 h6; simpa using this) (by rw [List.pairwise_reverse]; exact mono_false.1 h5)
    simpa using h7

/-- What the reference tries. -/
def mostTo (l : List Int) (k : Nat) (f : Bool) : Nat → Nat
  | 0 => 0
  | s + 1 => if mostTo l k f s < (rowS l s).length ∧ (bestOf (rowS l s) (!f)).length ≤ k then (rowS l s).length else mostTo l k f s
theorem mostTo_ge (l : List Int) (k : Nat) (f : Bool) : ∀ n s, s < n → (bestOf (rowS l s) (!f)).length ≤ k → (rowS l s).length ≤ mostTo l k f n := by
  intro n
  induction n with
  | zero => intro s hs; omega
  | succ n ih =>
    intro s hs hb
    rw [mostTo]
    rcases Nat.lt_succ_iff_lt_or_eq.1 hs with h | rfl
    · have := ih s h hb
      split <;> omega
    · split
      · omega
      · omega
theorem mostTo_le {l : List Int} {k : Nat} {f : Bool} {B : Nat} (h : ∀ s, (bestOf (rowS l s) (!f)).length ≤ k → (rowS l s).length ≤ B) : ∀ n, mostTo l k f n ≤ B := by
  intro n
  induction n with
  | zero => exact Nat.zero_le _
  | succ n ih =>
    rw [mostTo]
    split
    · rename_i h1; exact h n h1.2
    · exact ih
theorem mostTo_is {l : List Int} (hn : l.Nodup) (k : Nat) (f : Bool) : mostTo l k f (2 ^ l.length) = mostOf l k f := by
  have h1 := mostTo_le (l := l) (k := k) (f := f) (B := mostOf l k f) (fun s hb => most_le hn (rowS_sub l s) hb) (2 ^ l.length)
  obtain ⟨r, h2, h3, h4⟩ := most_ex hn k f
  obtain ⟨s, hs, rfl⟩ := rowS_onto l r h2
  have := mostTo_ge l k f (2 ^ l.length) s hs h3
  omega
theorem mostTo_len (l : List Int) (k : Nat) (f : Bool) (n : Nat) : mostTo l k f n ≤ l.length := mostTo_le (fun s _ => rowT_len l s _) n

/-- How long rows and columns are. -/
def rowLens (T : List (List Int)) : List Int := T.map fun R => (R.length : Int)
def colCnt (T : List (List Int)) (q : Nat) : Nat := T.countP fun R => decide (q < R.length)
def colLens (T : List (List Int)) : List Int := (List.range (T.getD 0 []).length).map fun q => (colCnt T q : Int)
theorem rowLens_sum (T : List (List Int)) (k : Nat) : ((rowLens T).take k).sum = (rowSum k T : Int) := by
  induction T generalizing k with
  | nil => simp [rowLens, rowSum]
  | cons R T ih =>
    cases k with
    | zero => simp [rowSum]
    | succ k =>
      have := ih k
      simp only [rowLens, rowSum, List.map_cons, List.take_succ_cons, List.sum_cons] at this ⊢
      omega
theorem colCnt_sum (T : List (List Int)) (m : Nat) : ((List.range m).map fun q => (colCnt T q : Int)).sum = (colSum m T : Int) := by
  induction m with
  | zero =>
    have : colSum 0 T = 0 := by
      unfold colSum
      induction T with
      | nil => rfl
      | cons R T ih => simpa using ih
    simp [this]
  | succ m ih =>
    rw [List.range_succ, List.map_append, List.sum_append, ih]
    have : colSum (m + 1) T = colSum m T + colCnt T m := by
      clear ih
      unfold colSum colCnt
      induction T with
      | nil => rfl
      | cons R T ih =>
        rw [List.map_cons, List.sum_cons, List.map_cons, List.sum_cons, ih, List.countP_cons]
        by_cases h : m < R.length
        · simp [h]; omega
        · simp [h]; omega
    rw [this]
    simp
theorem colLens_sum {T : List (List Int)} (h : Tab T) (k : Nat) : ((colLens T).take k).sum = (colSum k T : Int) := by
  unfold colLens
  rw [← List.map_take, List.take_range, colCnt_sum]
  congr 1
  unfold colSum
  congr 1
  apply List.map_congr_left
  intro R hR
  have := tab_first h R hR
  omega

end Go.Am
