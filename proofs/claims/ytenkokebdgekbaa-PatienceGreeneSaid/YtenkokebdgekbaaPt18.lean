/-
  Layer 13: rows by trying, with what was met.
  Conditions: none.
-/
import Derived.Test.YtenkokebdgekbaaPt9
import Derived.Test.YtenkokebdgekbaaAmJ
namespace Go.Am
open Go.Gr
def okG (f : Bool) (c e : Int) : Prop := e < 0 ∨ decide (c < e) = f
instance (f : Bool) (c e : Int) : Decidable (okG f c e) := by unfold okG; infer_instance
/-- How many cards more can be laid behind the rows that end so. -/
def valG (f : Bool) (k : Nat) : List Int → List Int → Nat
  | [], _ => 0
  | c :: r, e => (List.range k).foldl (fun m x => if okG f c (e.getD x 0) then max m (1 + valG f k r (e.set x c)) else m) (valG f k r e)
def valTo (f : Bool) (k : Nat) (c : Int) (r e : List Int) (j : Nat) : Nat := (List.range j).foldl (fun m x => if okG f c (e.getD x 0) then max m (1 + valG f k r (e.set x c)) else m) (valG f k r e)
theorem valTo_zero (f : Bool) (k : Nat) (c : Int) (r e : List Int) : valTo f k c r e 0 = valG f k r e := rfl
theorem valTo_full (f : Bool) (k : Nat) (c : Int) (r e : List Int) : valTo f k c r e k = valG f k (c :: r) e := by rw [valG]; rfl
theorem valTo_succ (f : Bool) (k : Nat) (c : Int) (r e : List Int) (j : Nat) : valTo f k c r e (j + 1) = if okG f c (e.getD j 0) then max (valTo f k c r e j) (1 + valG f k r (e.set j c)) else valTo f k c r e j := by
  unfold valTo
  rw [List.range_succ, List.foldl_append]
  rfl
theorem valTo_le {f : Bool} {k : Nat} {c : Int} {r e : List Int} {B : Nat} : ∀ {j : Nat}, valTo f k c r e j ≤ B ↔ valG f k r e ≤ B ∧ ∀ x, x < j → okG f c (e.getD x 0) → 1 + valG f k r (e.set x c) ≤ B := by
  intro j
  induction j with
  | zero => rw [valTo_zero]; exact ⟨fun h => ⟨h, fun x hx => by omega⟩, fun h => h.1⟩
  | succ j ih =>
    rw [valTo_succ]
    constructor
    · intro h
      have h1 : valTo f k c r e j ≤ B := by split at h <;> omega
      refine ⟨(ih.1 h1).1, ?_⟩
      intro x hx hok
      rcases Nat.lt_succ_iff_lt_or_eq.1 hx with h2 | rfl
      · exact (ih.1 h1).2 x h2 hok
      · rw [if_pos hok] at h; omega
    · intro h
      have h1 := ih.2 ⟨h.1, fun x hx => h.2 x (by omega)⟩
      split
      · rename_i hok
        have := h.2 j (by omega) hok
        omega
      · exact h1
theorem valG_le {f : Bool} {k : Nat} {c : Int} {r e : List Int} {B : Nat} : valG f k (c :: r) e ≤ B ↔ valG f k r e ≤ B ∧ ∀ x, x < k → okG f c (e.getD x 0) → 1 + valG f k r (e.set x c) ≤ B := by
  rw [← valTo_full]; exact valTo_le
theorem getD_setI (e : List Int) (x i : Nat) (c : Int) : (e.set x c).getD i 0 = if i = x ∧ x < e.length then c else e.getD i 0 := by
  simp only [List.getD_eq_getElem?_getD, List.getElem?_set]
  by_cases h : x = i
  · subst h
    by_cases h2 : x < e.length
    · simp [h2]
    · simp [h2]
  · simp [h, Ne.symm h]
/-- Ends that are alike up to a renaming of the rows. -/
theorem valG_ren (f : Bool) (k : Nat) (t : Nat → Nat) (ht : ∀ x, x < k → t x < k) (hi : ∀ x y, x < k → y < k → t x = t y → x = y) : ∀ (l e e' : List Int), k ≤ e.length → k ≤ e'.length → (∀ x, x < k → e'.getD x 0 = e.getD (t x) 0) → valG f k l e' ≤ valG f k l e := by
  intro l
  induction l with
  | nil => intro e e' _ _ _; exact Nat.le_refl _
  | cons c r ih =>
    intro e e' h1 h2 h3
    have h0 := valG_le.1 (Nat.le_refl (valG f k (c :: r) e))
    refine valG_le.2 ⟨Nat.le_trans (ih e e' h1 h2 h3) h0.1, ?_⟩
    intro x hx hok
    rw [h3 x hx] at hok
    refine Nat.le_trans (Nat.add_le_add_left (ih (e.set (t x) c) (e'.set x c) (by simpa using h1) (by simpa using h2) ?_) 1) (h0.2 (t x) (ht x hx) hok)
    intro y hy
    have htx := ht x hx
    rw [getD_setI, getD_setI, h3 y hy]
    by_cases hxy : y = x
    · subst hxy; rw [if_pos ⟨rfl, by omega⟩, if_pos ⟨rfl, by omega⟩]
    · rw [if_neg (fun h => hxy h.1), if_neg (fun h => hxy (hi y x hy hx h.1))]
theorem valG_same {f : Bool} {k : Nat} {l e e' : List Int} (h1 : k ≤ e.length) (h2 : k ≤ e'.length) (h : ∀ x, x < k → e'.getD x 0 = e.getD x 0) : valG f k l e' = valG f k l e :=
  Nat.le_antisymm (valG_ren f k id (fun _ h => h) (fun _ _ _ _ h => h) l e e' h1 h2 h) (valG_ren f k id (fun _ h => h) (fun _ _ _ _ h => h) l e' e h2 h1 fun x hx => (h x hx).symm)
theorem valG_far {f : Bool} {k p : Nat} {l e : List Int} {y : Int} (h1 : k ≤ e.length) (hp : k ≤ p) : valG f k l (e.set p y) = valG f k l e :=
  valG_same h1 (by simpa using h1) fun x hx => by rw [getD_setI, if_neg (by omega)]
theorem valG_swp {f : Bool} {k a b : Nat} {l e : List Int} (h1 : k ≤ e.length) (ha : a < k) (hb : b < k) : valG f k l (swp e a b) = valG f k l e := by
  have hg := fun i => swp_getD (e := e) (a := a) (b := b) (by omega) (by omega) i
  have hr : ∀ x, x < k → (if x = b then a else if x = a then b else x) < k := by
    intro x hx
    split
    · exact ha
    · split
      · exact hb
      · exact hx
  have hin : ∀ x y, x < k → y < k → (if x = b then a else if x = a then b else x) = (if y = b then a else if y = a then b else y) → x = y := by intro x y _ _; split <;> split <;> (try split) <;> (try split) <;> omega
  refine Nat.le_antisymm (valG_ren f k _ hr hin l e _ h1 (by rw [swp_len]; exact h1) ?_) (valG_ren f k _ hr hin l _ e (by rw [swp_len]; exact h1) h1 ?_)
  · intro x hx
    rw [hg]
    split
    · rfl
    · split <;> rfl
  · intro x hx
    rw [hg]
    by_cases h1 : x = b
    · subst h1; rw [if_pos rfl]
      by_cases h2 : a = x
      · subst h2; rw [if_pos rfl]
      · rw [if_neg h2, if_pos rfl]
    · rw [if_neg h1]
      by_cases h2 : x = a
      · subst h2; rw [if_pos rfl, if_pos rfl]
      · rw [if_neg h2, if_neg h1, if_neg h2]
theorem valG_swaps {f : Bool} {k : Nat} {l e e' : List Int} (h1 : k ≤ e.length) (h : Swaps k e e') : valG f k l e' = valG f k l e := by
  induction h with
  | refl => rfl
  | step h ha hb ih => rw [valG_swp (by rw [h.len]; exact h1) ha hb, ih]

/-- Rows, coloured. -/
def RG (f : Bool) (a b : Int) : Prop := if f then b < a else a < b
def ColG (f : Bool) (k : Nat) (e l : List Int) (n : Nat) : Prop := ∃ ps : List (Int × Nat), ps.map (·.1) = l ∧ (∀ c, c < k → (rowC c ps).Pairwise (RG f) ∧ (e.getD c 0 < 0 ∨ ∀ x ∈ rowC c ps, RG f (e.getD c 0) x)) ∧ ps.countP (fun p => decide (p.2 < k)) = n
theorem RG.ok {f : Bool} {a c : Int} (h : a < 0 ∨ RG f a c) : okG f c a := by
  rcases h with h | h
  · exact .inl h
  · refine .inr ?_
    cases f with
    | true => simpa [RG] using h
    | false =>
      have h : a < c := by simpa [RG] using h
      exact decide_eq_false (by omega)
theorem okG.rg {f : Bool} {a c : Int} (h : okG f c a) (hn : a ≠ c) : a < 0 ∨ RG f a c := by
  rcases h with h | h
  · exact .inl h
  · refine .inr ?_
    cases f with
    | true => simpa [RG] using h
    | false =>
      have h := of_decide_eq_false h
      have : a < c := by omega
      simpa [RG] using this
theorem RG.trans {f : Bool} {a b c : Int} (h1 : RG f a b) (h2 : RG f b c) : RG f a c := by
  cases f <;> simp only [RG, if_true, if_false, Bool.false_eq_true] at * <;> omega
theorem valG_top (f : Bool) (k : Nat) : ∀ (l e : List Int) (n : Nat), k ≤ e.length → (∀ x ∈ l, 0 ≤ x) → ColG f k e l n → n ≤ valG f k l e := by
  intro l
  induction l with
  | nil =>
    rintro e n - - ⟨ps, h1, -, rfl⟩
    have : ps = [] := List.map_eq_nil_iff.1 h1
    subst this
    exact Nat.le_refl _
  | cons c r ih =>
    rintro e n hk hp ⟨ps, h1, h2, rfl⟩
    obtain ⟨⟨c', d⟩, ps, rfl, h3, h4⟩ := List.map_eq_cons_iff.1 h1
    subst h4
    have h3 : c' = c := h3
    subst h3
    have h0 := valG_le.1 (Nat.le_refl (valG f k (c' :: ps.map (·.1)) e))
    by_cases hd : d < k
    · have hcd := h2 d hd
      rw [rowC_same] at hcd
      have hok : okG f c' (e.getD d 0) := RG.ok (hcd.2.imp id fun h => h c' (by simp))
      have h5 := h0.2 d hd hok
      have h6 := ih (e.set d c') (ps.countP (fun p => decide (p.2 < k))) (by simpa using hk) (fun x hx => hp x (by simp [hx])) ⟨ps, rfl, ?_, rfl⟩
      · rw [List.countP_cons_of_pos (by simpa using hd)]; omega
      · intro x hx
        rw [getD_setI]
        by_cases hxd : x = d
        · subst hxd
          rw [if_pos ⟨rfl, by omega⟩]
          exact ⟨(List.pairwise_cons.1 hcd.1).2, .inr (List.pairwise_cons.1 hcd.1).1⟩
        · rw [if_neg (fun h => hxd h.1)]
          have := h2 x hx
          rw [rowC_other (fun h => hxd h.symm)] at this
          exact this
    · have h6 := ih e (ps.countP (fun p => decide (p.2 < k))) hk (fun x hx => hp x (by simp [hx])) ⟨ps, rfl, ?_, rfl⟩
      · rw [List.countP_cons_of_neg (by simpa using hd)]; omega
      · intro x hx
        have := h2 x hx
        rw [rowC_other (by omega)] at this
        exact this
theorem valTo_hit {f : Bool} {k : Nat} {c : Int} {r e : List Int} : ∀ j, valTo f k c r e j = valG f k r e ∨ ∃ x, x < j ∧ okG f c (e.getD x 0) ∧ valTo f k c r e j = 1 + valG f k r (e.set x c) := by
  intro j
  induction j with
  | zero => exact .inl rfl
  | succ j ih =>
    rw [valTo_succ]
    split
    · rename_i hok
      rcases Nat.le_total (valTo f k c r e j) (1 + valG f k r (e.set j c)) with h | h
      · exact .inr ⟨j, by omega, hok, by rw [Nat.max_eq_right h]⟩
      · rw [Nat.max_eq_left h]
        exact ih.imp id fun ⟨x, h1, h2⟩ => ⟨x, by omega, h2⟩
    · exact ih.imp id fun ⟨x, h1, h2⟩ => ⟨x, by omega, h2⟩
theorem valG_is (f : Bool) (k : Nat) : ∀ (l e : List Int), k ≤ e.length → (∀ x ∈ l, 0 ≤ x) → l.Nodup → (∀ x, x < k → e.getD x 0 ∉ l) → ColG f k e l (valG f k l e) := by
  intro l
  induction l with
  | nil => intro e _ _ _ _; exact ⟨[], rfl, fun c _ => ⟨by simp [rowC_nil], .inr (by simp [rowC_nil])⟩, rfl⟩
  | cons c r ih =>
    intro e hk hp hn he
    have hn' := List.nodup_cons.1 hn
    rw [← valTo_full]
    rcases valTo_hit (f := f) (k := k) (c := c) (r := r) (e := e) k with h | ⟨x, hx, hok, h⟩
    · rw [h]
      obtain ⟨ps, h1, h2, h3⟩ := ih e hk (fun y hy => hp y (by simp [hy])) hn'.2 (fun y hy hm => he y hy (List.mem_cons_of_mem _ hm))
      refine ⟨(c, k) :: ps, by simp [h1], ?_, ?_⟩
      · intro y hy
        rw [rowC_other (by omega)]
        exact h2 y hy
      · rw [List.countP_cons_of_neg (by simp), h3]
    · rw [h]
      have hc0 := hp c (by simp)
      obtain ⟨ps, h1, h2, h3⟩ := ih (e.set x c) (by simpa using hk) (fun y hy => hp y (by simp [hy])) hn'.2 (fun y hy hm => by
        rw [getD_setI] at hm
        split at hm
        · exact hn'.1 hm
        · exact he y hy (List.mem_cons_of_mem _ hm))
      refine ⟨(c, x) :: ps, by simp [h1], ?_, ?_⟩
      · intro y hy
        have h4 := h2 y hy
        rw [getD_setI] at h4
        by_cases hxy : x = y
        · subst hxy
          rw [if_pos ⟨rfl, by omega⟩] at h4
          have h5 : ∀ z ∈ rowC x ps, RG f c z := by
            rcases h4.2 with h | h
            · omega
            · exact h
          rw [rowC_same]
          refine ⟨List.pairwise_cons.2 ⟨h5, h4.1⟩, ?_⟩
          rcases hok.rg (fun hh => he x hx (by rw [hh]; exact List.mem_cons_self)) with h6 | h6
          · exact .inl h6
          · refine .inr ?_
            intro z hz
            rcases List.mem_cons.1 hz with rfl | hz
            · exact h6
            · exact h6.trans (h5 z hz)
        · rw [if_neg (fun h => hxy h.1.symm)] at h4
          rw [rowC_other hxy]
          exact h4
      · rw [List.countP_cons_of_pos (by simpa using hx), h3]; omega
theorem colG_fam {k n : Nat} {e l : List Int} (he : ∀ x, x < k → e.getD x 0 < 0) (f : Bool) : ColG f k e l n ↔ Go.Gr.Fam k (if f then l.reverse else l) n := by
  cases f with
  | false =>
    constructor
    · rintro ⟨ps, h1, h2, h3⟩
      exact ⟨ps, h1, fun c hc => (h2 c hc).1.imp (by intro a b h; simpa [RG] using h), h3⟩
    · rintro ⟨ps, h1, h2, h3⟩
      exact ⟨ps, h1, fun c hc => ⟨(h2 c hc).imp (by intro a b h; simpa [RG] using h), .inl (he c hc)⟩, h3⟩
  | true =>
    have hr : ∀ (c : Nat) (ps : List (Int × Nat)), rowC c ps.reverse = (rowC c ps).reverse := by intro c ps; simp [rowC, List.filter_reverse, List.map_reverse]
    constructor
    · rintro ⟨ps, h1, h2, h3⟩
      refine ⟨ps.reverse, by simp [h1], ?_, by rw [← h3]; simp [List.countP_eq_length_filter, List.filter_reverse]⟩
      intro c hc
      rw [hr]
      unfold Rise
      rw [List.pairwise_reverse]
      exact (h2 c hc).1.imp (by intro a b h; simpa [RG] using h)
    · rintro ⟨ps, h1, h2, h3⟩
      refine ⟨ps.reverse, by rw [List.map_reverse, h1]; simp, ?_, by rw [← h3]; simp [List.countP_eq_length_filter, List.filter_reverse]⟩
      intro c hc
      refine ⟨?_, .inl (he c hc)⟩
      rw [hr, List.pairwise_reverse]
      exact (h2 c hc).imp (by intro a b h; simpa [RG] using h)
/-- The greatest number by trying is that of the table (the theorem of Greene). -/
theorem valG_most {l e : List Int} {k : Nat} {f : Bool} (hn : l.Nodup) (hp : ∀ x ∈ l, 0 ≤ x) (hk : k ≤ e.length) (he : ∀ x, x < k → e.getD x 0 < 0) : valG f k l e = mostOf l k f := by
  have h1 := valG_is f k l e hk hp hn (fun x hx hm => by have := he x hx; have := hp _ hm; omega)
  have h1 := (colG_fam he f).1 h1
  have h2 : ∀ n, Go.Gr.Fam k (if f then l.reverse else l) n → n ≤ valG f k l e := fun n hf => valG_top f k l e n hk hp ((colG_fam he f).2 hf)
  cases f with
  | false => exact Nat.le_antisymm ((greene hn k).2 _ h1) (h2 _ (greene hn k).1)
  | true => exact Nat.le_antisymm ((greeneD hn k).2 _ h1) (h2 _ (greeneD hn k).1)
end Go.Am
