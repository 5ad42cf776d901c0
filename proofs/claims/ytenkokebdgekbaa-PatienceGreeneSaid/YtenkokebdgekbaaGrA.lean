/-
  Greene, Schensted: rising and falling rows by insertion.
  Conditions: none.
-/

/-! Rows of numbers, coloured; exchanges of neighbours that keep how many cards some rising rows can have. -/
namespace Go.Gr

abbrev Rise (l : List Int) : Prop := l.Pairwise (· < ·)

/-- The cards of a colour. -/
def rowC (c : Nat) (ps : List (Int × Nat)) : List Int := (ps.filter (fun p => p.2 == c)).map (·.1)

theorem rowC_nil (c : Nat) : rowC c [] = [] := rfl
theorem rowC_append (c : Nat) (ps qs : List (Int × Nat)) : rowC c (ps ++ qs) = rowC c ps ++ rowC c qs := by simp [rowC]
theorem rowC_same (c : Nat) (x : Int) (ps : List (Int × Nat)) : rowC c ((x, c) :: ps) = x :: rowC c ps := by simp [rowC]
theorem rowC_other {c d : Nat} (h : d ≠ c) (x : Int) (ps : List (Int × Nat)) : rowC c ((x, d) :: ps) = rowC c ps := by simp [rowC, h]
theorem rowC_cons (c d : Nat) (x : Int) (ps : List (Int × Nat)) : rowC c ((x, d) :: ps) = if d = c then x :: rowC c ps else rowC c ps := by
  by_cases h : d = c
  · subst h; rw [rowC_same, if_pos rfl]
  · rw [rowC_other h, if_neg h]

/-- Some rows that rise, k at most, have n cards together. -/
def Fam (k : Nat) (w : List Int) (n : Nat) : Prop :=
  ∃ ps : List (Int × Nat), ps.map (·.1) = w ∧ (∀ c, c < k → Rise (rowC c ps)) ∧ ps.countP (fun p => decide (p.2 < k)) = n

theorem rise_mid {A B : List Int} {m : Int} : Rise (A ++ m :: B) ↔ Rise A ∧ (∀ a ∈ A, a < m) ∧ Rise B ∧ ∀ b ∈ B, m < b := by
  simp only [Rise, List.pairwise_append, List.pairwise_cons, List.mem_cons]
  constructor
  · rintro ⟨h1, ⟨h2, h3⟩, h4⟩
    exact ⟨h1, fun a ha => h4 a ha m (.inl rfl), h3, h2⟩
  · rintro ⟨h1, h2, h3, h4⟩
    refine ⟨h1, ⟨h4, h3⟩, ?_⟩
    rintro a ha b (rfl | hb)
    · exact h2 a ha
    · have := h2 a ha; have := h4 b hb; omega
theorem rise_mid2 {A B : List Int} {m q : Int} : Rise (A ++ m :: q :: B) ↔ Rise A ∧ (∀ a ∈ A, a < m) ∧ m < q ∧ Rise B ∧ ∀ b ∈ B, q < b := by
  rw [rise_mid]
  simp only [Rise, List.pairwise_cons, List.mem_cons]
  constructor
  · rintro ⟨h1, h2, ⟨h3, h4⟩, h5⟩
    exact ⟨h1, h2, h5 q (.inl rfl), h4, h3⟩
  · rintro ⟨h1, h2, h3, h4, h5⟩
    refine ⟨h1, h2, ⟨h5, h4⟩, ?_⟩
    rintro b (rfl | hb)
    · exact h3
    · have := h5 b hb; omega

theorem map_split3 {ps : List (Int × Nat)} {u v : List Int} {a b c : Int} (h : ps.map (·.1) = u ++ [a, b, c] ++ v) : ∃ pu pv ca cb cc, ps = pu ++ (a, ca) :: (b, cb) :: (c, cc) :: pv ∧ pu.map (·.1) = u ∧ pv.map (·.1) = v := by
  rw [List.append_assoc] at h
  obtain ⟨pu, r, rfl, h1, h2⟩ := List.map_eq_append_iff.1 h
  match r, h2 with
  | (a', ca) :: (b', cb) :: (c', cc) :: pv, h2 =>
    simp only [List.map_cons, List.cons_append, List.nil_append, List.cons.injEq] at h2
    obtain ⟨rfl, rfl, rfl, h3⟩ := h2
    exact ⟨pu, pv, ca, cb, cc, rfl, h1, h3⟩
theorem map_split2 {ps : List (Int × Nat)} {u v : List Int} {a b : Int} (h : ps.map (·.1) = u ++ [a, b] ++ v) : ∃ pu pv ca cb, ps = pu ++ (a, ca) :: (b, cb) :: pv ∧ pu.map (·.1) = u ∧ pv.map (·.1) = v := by
  rw [List.append_assoc] at h
  obtain ⟨pu, r, rfl, h1, h2⟩ := List.map_eq_append_iff.1 h
  match r, h2 with
  | (a', ca) :: (b', cb) :: pv, h2 =>
    simp only [List.map_cons, List.cons_append, List.nil_append, List.cons.injEq] at h2
    obtain ⟨rfl, rfl, h3⟩ := h2
    exact ⟨pu, pv, ca, cb, rfl, h1, h3⟩

/-- Neighbours of different colours may be exchanged. -/
theorem swap_rows {k : Nat} {pu pv : List (Int × Nat)} {a b : Int} {ca cb : Nat} (hne : ca ≠ cb ∨ k ≤ ca) (h : ∀ c, c < k → Rise (rowC c (pu ++ (a, ca) :: (b, cb) :: pv))) : ∀ c, c < k → Rise (rowC c (pu ++ (b, cb) :: (a, ca) :: pv)) := by
  intro c hc
  have h1 := h c hc
  simp only [rowC_append, rowC_cons] at h1 ⊢
  by_cases h2 : ca = c <;> by_cases h3 : cb = c
  · omega
  · simp only [if_pos h2, if_neg h3] at h1 ⊢; exact h1
  · simp only [if_neg h2, if_pos h3] at h1 ⊢; exact h1
  · simp only [if_neg h2, if_neg h3] at h1 ⊢; exact h1

theorem Fam.sort {k n : Nat} {u v : List Int} {a b : Int} (hf : Fam k (u ++ [a, b] ++ v) n) (hab : b < a) : Fam k (u ++ [b, a] ++ v) n := by
  obtain ⟨ps, hm, hr, hn⟩ := hf
  obtain ⟨pu, pv, ca, cb, rfl, h1, h2⟩ := map_split2 hm
  refine ⟨pu ++ (b, cb) :: (a, ca) :: pv, by simp [h1, h2], swap_rows ?_ hr, ?_⟩
  · by_cases hk : k ≤ ca
    · exact .inr hk
    · refine .inl ?_
      rintro rfl
      have := hr ca (by omega)
      rw [rowC_append, rowC_same, rowC_same, rise_mid2] at this
      omega
  · rw [← hn]
    simp only [List.countP_append, List.countP_cons]
    omega

/-- Two colours exchanged. -/
def swapC (c d : Nat) (p : Int × Nat) : Int × Nat := (p.1, if p.2 = c then d else if p.2 = d then c else p.2)
theorem rowC_swap (c d e : Nat) (ps : List (Int × Nat)) : rowC e (ps.map (swapC c d)) = rowC (if e = c then d else if e = d then c else e) ps := by
  induction ps with
  | nil => rfl
  | cons p ps ih =>
    obtain ⟨x, q⟩ := p
    simp only [List.map_cons, swapC, rowC_cons, ih]
    have hiff : ((if q = c then d else if q = d then c else q) = e) ↔ (q = if e = c then d else if e = d then c else e) := by
      split <;> split <;> (try split) <;> (try split) <;> omega
    simp only [hiff]
theorem count_swap {c d k : Nat} (hc : c < k) (hd : d < k) (ps : List (Int × Nat)) : (ps.map (swapC c d)).countP (fun p => decide (p.2 < k)) = ps.countP (fun p => decide (p.2 < k)) := by
  induction ps with
  | nil => rfl
  | cons p ps ih =>
    simp only [List.map_cons, List.countP_cons, ih]
    have hiff : ((swapC c d p).2 < k) ↔ (p.2 < k) := by
      simp only [swapC]
      split
      · omega
      · split <;> omega
    simp only [hiff]

theorem Fam.knuthA {k n : Nat} {u v : List Int} {x y z : Int} (hxy : x < y) (hyz : y < z) (hf : Fam k (u ++ [x, z, y] ++ v) n) : Fam k (u ++ [z, x, y] ++ v) n := by
  obtain ⟨ps, hm, hr, hn⟩ := hf
  obtain ⟨pu, pv, cx, cz, cy, rfl, h1, h2⟩ := map_split3 hm
  by_cases hne : cx ≠ cz ∨ k ≤ cx
  · refine ⟨pu ++ (z, cz) :: (x, cx) :: (y, cy) :: pv, by simp [h1, h2], swap_rows hne hr, ?_⟩
    rw [← hn]
    simp only [List.countP_append, List.countP_cons]
    omega
  · have he : cx = cz := by omega
    have hk : cx < k := by omega
    subst he
    have hrc := hr cx hk
    by_cases hcy : cy = cx
    · subst hcy
      rw [rowC_append, rowC_same, rowC_same, rowC_same, rise_mid2] at hrc
      have := hrc.2.2.2.2 y (by simp)
      omega
    · rw [rowC_append, rowC_same, rowC_same, rowC_other hcy, rise_mid2] at hrc
      by_cases hk2 : cy < k
      · have hrd := hr cy hk2
        rw [rowC_append, rowC_other (Ne.symm hcy), rowC_other (Ne.symm hcy), rowC_same, rise_mid] at hrd
        refine ⟨pu ++ (z, cy) :: (x, cx) :: (y, cx) :: pv.map (swapC cx cy), by simp [h1, ← h2, Function.comp_def, swapC], ?_, ?_⟩
        · intro c hc
          have hro := hr c hc
          by_cases e1 : c = cx
          · subst e1
            rw [rowC_append, rowC_other hcy, rowC_same, rowC_same, rowC_swap, if_pos rfl, rise_mid2]
            exact ⟨hrc.1, hrc.2.1, hxy, hrd.2.2.1, hrd.2.2.2⟩
          · by_cases e2 : c = cy
            · subst e2
              rw [rowC_append, rowC_same, rowC_other (Ne.symm hcy), rowC_other (Ne.symm hcy), rowC_swap, if_neg hcy, if_pos rfl, rise_mid]
              exact ⟨hrd.1, fun a ha => by have := hrd.2.1 a ha; omega, hrc.2.2.2.1, hrc.2.2.2.2⟩
            · rw [rowC_append, rowC_other (Ne.symm e1), rowC_other (Ne.symm e1), rowC_other (Ne.symm e2)] at hro
              rw [rowC_append, rowC_other (Ne.symm e2), rowC_other (Ne.symm e1), rowC_other (Ne.symm e1), rowC_swap, if_neg e1, if_neg e2]
              exact hro
        · rw [← hn]
          simp only [List.countP_append, List.countP_cons, count_swap hk hk2, hk, hk2]
      · refine ⟨pu ++ (z, cy) :: (x, cx) :: (y, cx) :: pv, by simp [h1, h2], ?_, ?_⟩
        · intro c hc
          have hro := hr c hc
          have e2 : cy ≠ c := by omega
          by_cases e1 : c = cx
          · subst e1
            rw [rowC_append, rowC_other hcy, rowC_same, rowC_same, rise_mid2]
            exact ⟨hrc.1, hrc.2.1, hxy, hrc.2.2.2.1, fun b hb => by have := hrc.2.2.2.2 b hb; omega⟩
          · rw [rowC_append, rowC_other (Ne.symm e1), rowC_other (Ne.symm e1), rowC_other e2] at hro
            rw [rowC_append, rowC_other e2, rowC_other (Ne.symm e1), rowC_other (Ne.symm e1)]
            exact hro
        · rw [← hn]
          simp only [List.countP_append, List.countP_cons, hk, hk2]
          simp

/-- Backwards, and with signs changed. -/
def rc (w : List Int) : List Int := (w.map (fun x => -x)).reverse
theorem rc_rc (w : List Int) : rc (rc w) = w := by simp [rc, List.map_reverse, List.map_map, Function.comp_def]
theorem rise_rc {w : List Int} (h : Rise w) : Rise (rc w) := by
  simp only [rc, Rise, List.pairwise_reverse, List.pairwise_map]
  exact h.imp (by intros; omega)
theorem rowC_rc (c : Nat) (ps : List (Int × Nat)) : rowC c (ps.map (fun p => (-p.1, p.2))).reverse = rc (rowC c ps) := by
  simp only [rowC, rc, List.filter_reverse, List.filter_map, List.map_reverse, List.map_map]
  rfl
theorem Fam.rc {k n : Nat} {w : List Int} (hf : Fam k w n) : Fam k (rc w) n := by
  obtain ⟨ps, hm, hr, hn⟩ := hf
  refine ⟨(ps.map (fun p => (-p.1, p.2))).reverse, ?_, ?_, ?_⟩
  · simp [← hm, Go.Gr.rc, List.map_reverse, List.map_map, Function.comp_def]
  · intro c hc
    rw [rowC_rc]
    exact rise_rc (hr c hc)
  · rw [← hn, List.countP_reverse, List.countP_map]
    rfl

theorem Fam.knuthB {k n : Nat} {u v : List Int} {x y z : Int} (hxy : x < y) (hyz : y < z) (hf : Fam k (u ++ [y, x, z] ++ v) n) : Fam k (u ++ [y, z, x] ++ v) n := by
  have h1 := hf.rc
  have e1 : Go.Gr.rc (u ++ [y, x, z] ++ v) = Go.Gr.rc v ++ [-z, -x, -y] ++ Go.Gr.rc u := by simp [Go.Gr.rc]
  have e2 : Go.Gr.rc (u ++ [y, z, x] ++ v) = Go.Gr.rc v ++ [-x, -z, -y] ++ Go.Gr.rc u := by simp [Go.Gr.rc]
  rw [e1] at h1
  have h2 := Fam.knuthA (by omega) (by omega) h1
  rw [← e2] at h2
  simpa [rc_rc] using h2.rc

/-- Words that lead to the same table. -/
inductive Kn : List Int → List Int → Prop
  | refl (w) : Kn w w
  | a (u v) {x y z} : x < y → y < z → Kn (u ++ [x, z, y] ++ v) (u ++ [z, x, y] ++ v)
  | b (u v) {x y z} : x < y → y < z → Kn (u ++ [y, x, z] ++ v) (u ++ [y, z, x] ++ v)
  | symm {w w'} : Kn w w' → Kn w' w
  | trans {w w' w''} : Kn w w' → Kn w' w'' → Kn w w''

theorem Kn.ctx {w w' : List Int} (h : Kn w w') (p q : List Int) : Kn (p ++ w ++ q) (p ++ w' ++ q) := by
  induction h with
  | refl w => exact .refl _
  | a u v h1 h2 => have := Kn.a (p ++ u) (v ++ q) h1 h2; simpa using this
  | b u v h1 h2 => have := Kn.b (p ++ u) (v ++ q) h1 h2; simpa using this
  | symm _ ih => exact .symm ih
  | trans _ _ ih1 ih2 => exact .trans ih1 ih2
theorem Kn.pre {w w' : List Int} (h : Kn w w') (p : List Int) : Kn (p ++ w) (p ++ w') := by simpa using h.ctx p []
theorem Kn.post {w w' : List Int} (h : Kn w w') (q : List Int) : Kn (w ++ q) (w' ++ q) := by simpa using h.ctx [] q

theorem Kn.rev {w w' : List Int} (h : Kn w w') : Kn w.reverse w'.reverse := by
  induction h with
  | refl w => exact .refl _
  | a u v h1 h2 => have := Kn.symm (Kn.b v.reverse u.reverse h1 h2); simpa using this
  | b u v h1 h2 => have := Kn.symm (Kn.a v.reverse u.reverse h1 h2); simpa using this
  | symm _ ih => exact .symm ih
  | trans _ _ ih1 ih2 => exact .trans ih1 ih2

theorem Kn.fam {w w' : List Int} (h : Kn w w') (k n : Nat) : Fam k w n ↔ Fam k w' n := by
  induction h with
  | refl w => exact Iff.rfl
  | @a u v x y z h1 h2 =>
    refine ⟨Fam.knuthA h1 h2, fun hf => ?_⟩
    have := Fam.sort (u := u) (v := y :: v) (a := z) (b := x) (by simpa using hf) (by omega)
    simpa using this
  | @b u v x y z h1 h2 =>
    refine ⟨Fam.knuthB h1 h2, fun hf => ?_⟩
    have := Fam.sort (u := u ++ [y]) (v := v) (a := z) (b := x) (by simpa using hf) (by omega)
    simpa using this
  | symm _ ih => exact ih.symm
  | trans _ _ ih1 ih2 => exact ih1.trans ih2

theorem Kn.perm {w w' : List Int} (h : Kn w w') : w.Perm w' := by
  induction h with
  | refl w => exact .refl _
  | a u v h1 h2 => exact List.Perm.append_right _ (List.Perm.append_left _ (List.Perm.swap _ _ _))
  | b u v h1 h2 => exact List.Perm.append_right _ (List.Perm.append_left _ (List.Perm.cons _ (List.Perm.swap _ _ _)))
  | symm _ ih => exact ih.symm
  | trans _ _ ih1 ih2 => exact ih1.trans ih2

end Go.Gr

/-! Greene's theorem: how many cards some rising, or falling, rows of a pack can have together: by the table of the pack. -/
namespace Go.Gr

/-- A card put into a row: what it replaces. -/
def bump : List Int → Int → Option (Int × List Int)
  | [], _ => none
  | b :: R, c => if b < c then (bump R c).map (fun p => (p.1, b :: p.2)) else some (b, c :: R)

/-- A card put into a table. -/
def ins : List (List Int) → Int → List (List Int)
  | [], c => [[c]]
  | R :: T, c => match bump R c with
    | none => (R ++ [c]) :: T
    | some (b, R') => R' :: ins T b

def insAll (w : List Int) : List (List Int) := w.foldl ins []
theorem insAll_snoc (w : List Int) (c : Int) : insAll (w ++ [c]) = ins (insAll w) c := by simp [insAll]

/-- The word of a table: from the last row to the first. -/
def wordT (T : List (List Int)) : List Int := T.reverse.flatten
theorem wordT_cons (R : List Int) (T : List (List Int)) : wordT (R :: T) = wordT T ++ R := by simp [wordT]

theorem bump_none {R : List Int} {c : Int} (h : bump R c = none) : ∀ x ∈ R, x < c := by
  induction R with
  | nil => simp
  | cons b R ih =>
    unfold bump at h
    split at h
    · rename_i hb
      simp only [Option.map_eq_none_iff] at h
      intro x hx
      rcases List.mem_cons.1 hx with rfl | hx
      · exact hb
      · exact ih h x hx
    · cases h

theorem bump_perm {R : List Int} {c b : Int} {R' : List Int} (h : bump R c = some (b, R')) : (R ++ [c]).Perm (b :: R') := by
  induction R generalizing R' with
  | nil => cases h
  | cons r R ih =>
    unfold bump at h
    split at h
    · cases hb : bump R c with
      | none => rw [hb] at h; cases h
      | some p =>
        obtain ⟨b1, R1⟩ := p
        rw [hb] at h
        simp only [Option.map_some, Option.some.injEq, Prod.mk.injEq] at h
        obtain ⟨rfl, rfl⟩ := h
        exact ((ih hb).cons r).trans (List.Perm.swap _ _ _)
    · cases h
      simp only [List.cons_append]
      exact List.Perm.cons _ List.perm_append_comm

theorem Kn.left {r c : Int} (hc : c < r) : ∀ (M : List Int), Rise (r :: M) → Kn (r :: M ++ [c]) (r :: c :: M) := by
  intro M
  induction M generalizing r with
  | nil => intro _; exact .refl _
  | cons m M ih =>
    intro hr
    have h1 : Rise (m :: M) := (List.pairwise_cons.1 hr).2
    have hrm : r < m := (List.pairwise_cons.1 hr).1 m (by simp)
    have h2 := (ih (by omega) h1).pre [r]
    have h3 := Kn.symm (Kn.b [] M hc hrm)
    exact Kn.trans (by simpa using h2) (by simpa using h3)

theorem bump_head {R : List Int} {c b : Int} {R' : List Int} (hr : Rise R) (h : bump R c = some (b, R')) : ∃ x L, R' = x :: L ∧ x ≤ c ∧ (x = c ∨ ∃ L', R = x :: L') := by
  cases R with
  | nil => cases h
  | cons r R =>
    unfold bump at h
    split at h
    · rename_i hlt
      cases hb : bump R c with
      | none => rw [hb] at h; cases h
      | some p =>
        rw [hb] at h
        simp only [Option.map_some, Option.some.injEq, Prod.mk.injEq] at h
        exact ⟨r, p.2, h.2.symm, by omega, .inr ⟨R, rfl⟩⟩
    · cases h
      exact ⟨c, R, rfl, Int.le_refl _, .inl rfl⟩

theorem bump_lt {R : List Int} {c b : Int} {R' : List Int} (hnc : c ∉ R) (h : bump R c = some (b, R')) : c < b ∧ b ∈ R := by
  induction R generalizing R' with
  | nil => cases h
  | cons r R ih =>
    simp only [List.mem_cons, not_or] at hnc
    unfold bump at h
    split at h
    · cases hb : bump R c with
      | none => rw [hb] at h; cases h
      | some p =>
        obtain ⟨b1, R1⟩ := p
        rw [hb] at h
        simp only [Option.map_some, Option.some.injEq, Prod.mk.injEq] at h
        obtain ⟨rfl, rfl⟩ := h
        have := ih hnc.2 hb
        exact ⟨this.1, by simp [this.2]⟩
    · cases h
      exact ⟨by omega, by simp⟩

theorem Kn.bump {R : List Int} {c b : Int} {R' : List Int} (hr : Rise R) (hnc : c ∉ R) (h : Go.Gr.bump R c = some (b, R')) : Kn (R ++ [c]) (b :: R') := by
  induction R generalizing R' with
  | nil => cases h
  | cons r R ih =>
    have hnc' := hnc
    simp only [List.mem_cons, not_or] at hnc'
    have hr1 : Rise R := (List.pairwise_cons.1 hr).2
    unfold Go.Gr.bump at h
    split at h
    · rename_i hlt
      cases hb : Go.Gr.bump R c with
      | none => rw [hb] at h; cases h
      | some p =>
        obtain ⟨b1, R1⟩ := p
        rw [hb] at h
        simp only [Option.map_some, Option.some.injEq, Prod.mk.injEq] at h
        obtain ⟨rfl, rfl⟩ := h
        have h1 := (ih hr1 hnc'.2 hb).pre [r]
        obtain ⟨x, L, rfl, hx, hx2⟩ := bump_head hr1 hb
        have hcb := (bump_lt hnc'.2 hb).1
        have hrx : r < x := by
          rcases hx2 with rfl | ⟨L', rfl⟩
          · exact hlt
          · exact (List.pairwise_cons.1 hr).1 x (by simp)
        have h2 := Kn.a [] L (x := r) (y := x) (z := b1) hrx (by omega)
        exact Kn.trans (by simpa using h1) (by simpa using h2)
    · cases h
      exact Kn.left (by omega) R hr

/-- Each row rises. -/
def Rows (T : List (List Int)) : Prop := ∀ R ∈ T, Rise R

theorem bump_rise {R : List Int} {c b : Int} {R' : List Int} (hr : Rise R) (hnc : c ∉ R) (h : Go.Gr.bump R c = some (b, R')) : Rise R' := by
  induction R generalizing R' with
  | nil => cases h
  | cons r R ih =>
    have hnc' := hnc
    simp only [List.mem_cons, not_or] at hnc'
    obtain ⟨hr2, hr1⟩ := List.pairwise_cons.1 hr
    unfold Go.Gr.bump at h
    split at h
    · rename_i hlt
      cases hb : Go.Gr.bump R c with
      | none => rw [hb] at h; cases h
      | some p =>
        obtain ⟨b1, R1⟩ := p
        rw [hb] at h
        simp only [Option.map_some, Option.some.injEq, Prod.mk.injEq] at h
        obtain ⟨rfl, rfl⟩ := h
        refine List.pairwise_cons.2 ⟨?_, ih hr1 hnc'.2 hb⟩
        intro x hx
        have hm := (bump_perm hb).mem_iff.2 (List.mem_cons_of_mem _ hx)
        rcases List.mem_append.1 hm with hm | hm
        · exact hr2 x hm
        · simp at hm; omega
    · cases h
      refine List.pairwise_cons.2 ⟨?_, hr1⟩
      intro x hx
      have := hr2 x hx
      omega

theorem ins_perm (T : List (List Int)) (c : Int) : (wordT (ins T c)).Perm (wordT T ++ [c]) := by
  induction T generalizing c with
  | nil => simp [ins, wordT]
  | cons R T ih =>
    unfold ins
    cases hb : bump R c with
    | none => simp only [wordT_cons, List.append_assoc]; exact .refl _
    | some p =>
      obtain ⟨b, R'⟩ := p
      simp only [wordT_cons, List.append_assoc]
      have h1 := (ih b).append_right R'
      refine h1.trans ?_
      rw [List.append_assoc]
      exact List.Perm.append_left _ (bump_perm hb).symm

theorem ins_rows {T : List (List Int)} {c : Int} (hr : Rows T) (hnd : (wordT T ++ [c]).Nodup) : Rows (ins T c) ∧ Kn (wordT T ++ [c]) (wordT (ins T c)) := by
  induction T generalizing c with
  | nil => exact ⟨by simp [Rows, ins], by simp [ins, wordT]; exact .refl _⟩
  | cons R T ih =>
    have hR : Rise R := hr R (by simp)
    have hT : Rows T := fun S hS => hr S (by simp [hS])
    rw [wordT_cons, List.append_assoc] at hnd
    have hnc : c ∉ R := by
      have h1 := (List.nodup_append.1 hnd).2.1
      have h2 := (List.nodup_append.1 h1).2.2
      intro hc
      exact h2 c hc c (by simp) rfl
    unfold ins
    cases hb : bump R c with
    | none =>
      simp only [wordT_cons, List.append_assoc]
      refine ⟨?_, .refl _⟩
      intro S hS
      rcases List.mem_cons.1 hS with rfl | hS
      · refine List.pairwise_append.2 ⟨hR, by simp, ?_⟩
        intro a ha b hb'
        simp at hb'; subst hb'
        exact bump_none hb a ha
      · exact hT S hS
    | some p =>
      obtain ⟨b, R'⟩ := p
      have hnd2 : (wordT T ++ [b]).Nodup := by
        have h1 : (wordT T ++ (b :: R')).Nodup := (List.Perm.append_left _ (bump_perm hb)).nodup_iff.1 hnd
        have h2 : (wordT T ++ [b]).Sublist (wordT T ++ (b :: R')) := List.Sublist.append_left (List.Sublist.cons_cons b (List.nil_sublist _)) _
        exact h2.nodup h1
      obtain ⟨h1, h2⟩ := ih hT hnd2
      refine ⟨?_, ?_⟩
      · intro S hS
        rcases List.mem_cons.1 hS with rfl | hS
        · exact bump_rise hR hnc hb
        · exact h1 S hS
      · simp only [wordT_cons, List.append_assoc]
        have h3 := (Kn.bump hR hnc hb).pre (wordT T)
        refine Kn.trans h3 ?_
        have h4 := h2.post R'
        simpa using h4

theorem insAll_ok {w : List Int} (hnd : w.Nodup) : Rows (insAll w) ∧ Kn w (wordT (insAll w)) ∧ (wordT (insAll w)).Perm w := by
  have h : ∀ r : List Int, r.reverse.Nodup → Rows (insAll r.reverse) ∧ Kn r.reverse (wordT (insAll r.reverse)) ∧ (wordT (insAll r.reverse)).Perm r.reverse := by
    intro r
    induction r with
    | nil => intro _; exact ⟨by simp [Rows, insAll], .refl _, .refl _⟩
    | cons c r ih =>
      intro hnd
      rw [List.reverse_cons] at hnd ⊢
      obtain ⟨h1, h2, h3⟩ := ih (List.nodup_append.1 hnd).1
      rw [insAll_snoc]
      have hnd2 : (wordT (insAll r.reverse) ++ [c]).Nodup := (h3.append_right [c]).nodup_iff.2 hnd
      obtain ⟨h4, h5⟩ := ins_rows h1 hnd2
      exact ⟨h4, (h2.post [c]).trans h5, (ins_perm _ _).trans (h3.append_right [c])⟩
  simpa using h w.reverse (by simpa using hnd)

/-- A row stands over another one. -/
def Over (R S : List Int) : Prop := S.length ≤ R.length ∧ ∀ j, j < S.length → R.getD j 0 < S.getD j 0
/-- A table in order. -/
def Tab : List (List Int) → Prop
  | [] => True
  | R :: T => R ≠ [] ∧ Rise R ∧ Over R (T.headD []) ∧ Tab T

/-- Where a card is put. -/
def pos (R : List Int) (c : Int) : Nat := R.findIdx (fun x => !decide (x < c))
theorem pos_le (R : List Int) (c : Int) : pos R c ≤ R.length := List.findIdx_le_length
theorem pos_nil (c : Int) : pos [] c = 0 := rfl
theorem pos_cons (b : Int) (R : List Int) (c : Int) : pos (b :: R) c = if b < c then pos R c + 1 else 0 := by
  simp only [pos, List.findIdx_cons]
  by_cases h : b < c <;> simp [h]
theorem pos_lt {R : List Int} {c : Int} {j : Nat} (h : j < pos R c) : R.getD j 0 < c := by
  induction R generalizing j with
  | nil => rw [pos_nil] at h; omega
  | cons b R ih =>
    rw [pos_cons] at h
    split at h
    · cases j with
      | zero => simpa
      | succ j => simpa using ih (by omega)
    · omega
theorem pos_at {R : List Int} {c : Int} (h : pos R c < R.length) : c ≤ R.getD (pos R c) 0 := by
  induction R with
  | nil => simp at h
  | cons b R ih =>
    rw [pos_cons] at h ⊢
    split
    · rename_i hb
      rw [if_pos hb] at h
      simpa using ih (by simpa using h)
    · simp; omega
theorem pos_unique {R : List Int} {c : Int} {k : Nat} (h1 : ∀ j, j < k → R.getD j 0 < c) (h2 : k < R.length → c ≤ R.getD k 0) (h3 : k ≤ R.length) : pos R c = k := by
  have h4 := pos_le R c
  rcases Nat.lt_trichotomy (pos R c) k with h | h | h
  · have := h1 _ h
    have := pos_at (R := R) (c := c) (by omega)
    omega
  · exact h
  · have := pos_lt h
    have := h2 (by omega)
    omega

theorem bump_pos (R : List Int) (c : Int) : bump R c = if pos R c = R.length then none else some (R.getD (pos R c) 0, R.set (pos R c) c) := by
  induction R with
  | nil => simp [bump, pos]
  | cons b R ih =>
    unfold bump
    rw [pos_cons]
    by_cases hb : b < c
    · simp only [if_pos hb, ih, List.length_cons]
      by_cases h : pos R c = R.length
      · simp [h]
      · simp [h]
    · simp [hb]

theorem getD_set {R : List Int} {i j : Nat} {c : Int} (hi : i < R.length) : (R.set i c).getD j 0 = if i = j then c else R.getD j 0 := by
  simp only [List.getD_eq_getElem?_getD, List.getElem?_set]
  by_cases h : i = j
  · subst h; simp [hi]
  · simp [h]
theorem getD_snoc {R : List Int} {c : Int} (j : Nat) : (R ++ [c]).getD j 0 = if j = R.length then c else R.getD j 0 := by
  simp only [List.getD_eq_getElem?_getD]
  rcases Nat.lt_trichotomy j R.length with h | h | h
  · rw [List.getElem?_append_left h, if_neg (by omega)]
  · subst h; simp
  · rw [List.getElem?_eq_none (by simp; omega), if_neg (by omega), List.getElem?_eq_none (by omega)]

theorem rise_getD {R : List Int} (h : Rise R) {i j : Nat} (hij : i < j) (hj : j < R.length) : R.getD i 0 < R.getD j 0 := by
  have := List.pairwise_iff_getElem.1 h i j (by omega) hj hij
  simpa [List.getD_eq_getElem?_getD, List.getElem?_eq_getElem hj, List.getElem?_eq_getElem (show i < R.length by omega)] using this
theorem rise_of_getD {R : List Int} (h : ∀ i j, i < j → j < R.length → R.getD i 0 < R.getD j 0) : Rise R := by
  refine List.pairwise_iff_getElem.2 ?_
  intro i j hi hj hij
  have := h i j hij hj
  simpa [List.getD_eq_getElem?_getD, List.getElem?_eq_getElem hj, List.getElem?_eq_getElem hi] using this

theorem Tab.rows {T : List (List Int)} (h : Tab T) : Rows T := by
  induction T with
  | nil => simp [Rows]
  | cons R T ih =>
    intro S hS
    rcases List.mem_cons.1 hS with rfl | hS
    · exact h.2.1
    · exact ih h.2.2.2 S hS

theorem ins_tab {T : List (List Int)} {c : Int} (ht : Tab T) (hnd : (wordT T ++ [c]).Nodup) : Tab (ins T c) := by
  induction T generalizing c with
  | nil => simp [ins, Tab, Over]
  | cons R T ih =>
    obtain ⟨hne, hR, hov, hT⟩ := ht
    rw [wordT_cons, List.append_assoc] at hnd
    have hnc : c ∉ R := by
      have h1 := (List.nodup_append.1 hnd).2.1
      have h2 := (List.nodup_append.1 h1).2.2
      intro hc
      exact h2 c hc c (by simp) rfl
    unfold ins
    cases hb : bump R c with
    | none =>
      refine ⟨by simp, ?_, ?_, hT⟩
      · refine List.pairwise_append.2 ⟨hR, by simp, ?_⟩
        intro a ha b hb'
        simp at hb'; subst hb'
        exact bump_none hb a ha
      · refine ⟨Nat.le_trans hov.1 (by simp), ?_⟩
        intro j hj
        have h1 := hov.1
        rw [getD_snoc, if_neg (by omega)]
        exact hov.2 j hj
    | some p =>
      obtain ⟨b, R'⟩ := p
      have hrise := bump_rise hR hnc hb
      obtain ⟨hcb, hbR⟩ := bump_lt hnc hb
      have hp := bump_perm hb
      have hb' := hb
      rw [bump_pos] at hb'
      split at hb'
      · cases hb'
      rename_i hpne
      have hplt : pos R c < R.length := by have := pos_le R c; omega
      simp only [Option.some.injEq, Prod.mk.injEq] at hb'
      obtain ⟨hbe, hR'⟩ := hb'
      have hnd2 : (wordT T ++ [b]).Nodup := by
        have h1 : (wordT T ++ (b :: R')).Nodup := (List.Perm.append_left _ hp).nodup_iff.1 hnd
        have h2 : (wordT T ++ [b]).Sublist (wordT T ++ (b :: R')) := List.Sublist.append_left (List.Sublist.cons_cons b (List.nil_sublist _)) _
        exact h2.nodup h1
      have hT2 := ih hT hnd2
      refine ⟨by rw [← hR']; simpa using hne, hrise, ?_, hT2⟩
      -- what the row below has at its head
      have hlen : R'.length = R.length := by rw [← hR']; simp
      have hat : ∀ j, R'.getD j 0 = if pos R c = j then c else R.getD j 0 := by intro j; rw [← hR']; exact getD_set hplt
      have hle : ∀ j, j ≤ pos R c → R'.getD j 0 < b := by
        intro j hj
        rw [hat]
        split
        · exact hcb
        · have := rise_getD hR (i := j) (j := pos R c) (by omega) hplt
          omega
      cases T with
      | nil =>
        simp only [ins, List.headD_cons]
        exact ⟨by rw [List.length_singleton]; omega, by intro j hj; simp at hj; subst hj; simpa using hle 0 (by omega)⟩
      | cons S T' =>
        simp only [List.headD_cons] at hov
        have hgt : ∀ j, pos R c < j → j < R.length → b < R.getD j 0 := by
          intro j h1 h2
          rw [← hbe]; exact rise_getD hR h1 h2
        have hSle : ∀ j, j < S.length → S.getD j 0 < b → j < pos R c := by
          intro j hj hlt
          have h1 := hov.2 j hj
          rcases Nat.lt_trichotomy j (pos R c) with h | h | h
          · exact h
          · subst h; omega
          · have := hgt j h (by have := hov.1; omega); omega
        have hlow : ∀ j, j < S.length → R'.getD j 0 < S.getD j 0 := by
          intro j hj
          have h1 := hov.2 j hj
          rw [hat]
          split
          · rename_i he; subst he; omega
          · exact h1
        simp only [ins]
        cases hb2 : bump S b with
        | none =>
          have hall := bump_none hb2
          simp only [List.headD_cons]
          have hsl : S.length ≤ pos R c := by
            cases Nat.lt_or_ge (pos R c) S.length with
            | inr h => exact h
            | inl h =>
              have h1 := hSle _ h (hall _ (by rw [List.getD_eq_getElem?_getD, List.getElem?_eq_getElem h]; exact List.getElem_mem h))
              omega
          refine ⟨by simp; omega, ?_⟩
          intro j hj
          simp at hj
          rw [getD_snoc (R := S)]
          split
          · exact hle j (by omega)
          · exact hlow j (by omega)
        | some p2 =>
          obtain ⟨b2, S'⟩ := p2
          simp only [List.headD_cons]
          rw [bump_pos] at hb2
          split at hb2
          · cases hb2
          rename_i hp2
          have hp2lt : pos S b < S.length := by have := pos_le S b; omega
          simp only [Option.some.injEq, Prod.mk.injEq] at hb2
          obtain ⟨_, rfl⟩ := hb2
          refine ⟨by have := hov.1; simp; omega, ?_⟩
          intro j hj
          simp at hj
          rw [getD_set hp2lt]
          split
          · rename_i he
            subst he
            refine hle _ ?_
            cases Nat.lt_or_ge (pos R c) (pos S b) with
            | inr h => exact h
            | inl h => have h1 := hSle _ (by omega) (pos_lt h); omega
          · exact hlow j hj

theorem insAll_tab {w : List Int} (hnd : w.Nodup) : Tab (insAll w) := by
  have h : ∀ r : List Int, r.reverse.Nodup → Tab (insAll r.reverse) := by
    intro r
    induction r with
    | nil => intro _; simp [insAll, Tab]
    | cons c r ih =>
      intro hnd
      rw [List.reverse_cons] at hnd ⊢
      have h1 := (List.nodup_append.1 hnd).1
      rw [insAll_snoc]
      exact (ins_tab (ih h1) (((insAll_ok h1).2.2.append_right [c]).nodup_iff.2 hnd))
  simpa using h w.reverse (by simpa using hnd)

end Go.Gr

/-! Greene's theorem: the rows, or columns, of the table of a pack tell how many cards some rising, or falling, rows have together. -/
namespace Go.Gr

theorem count_succ (k : Nat) (ps : List (Int × Nat)) : ps.countP (fun p => decide (p.2 < k + 1)) = ps.countP (fun p => decide (p.2 < k)) + (rowC k ps).length := by
  induction ps with
  | nil => rfl
  | cons p ps ih =>
    obtain ⟨x, q⟩ := p
    rw [List.countP_cons, List.countP_cons, ih, rowC_cons]
    by_cases h1 : q = k
    · subst h1; simp; omega
    · rw [if_neg h1]
      have : (q < k + 1) ↔ (q < k) := by omega
      simp only [this]
      omega
theorem count_le {ps : List (Int × Nat)} : ∀ {k : Nat}, (∀ c, c < k → (rowC c ps).length ≤ 1) → ps.countP (fun p => decide (p.2 < k)) ≤ k := by
  intro k
  induction k with
  | zero => intro _; simp
  | succ k ih =>
    intro h
    rw [count_succ]
    have := ih (fun c hc => h c (by omega))
    have := h k (by omega)
    omega
theorem rowC_sub (c : Nat) (ps : List (Int × Nat)) : (rowC c ps).Sublist (ps.map (·.1)) := List.filter_sublist.map _
theorem rowC_mono {c : Nat} {ps qs : List (Int × Nat)} (h : ps.Sublist qs) : (rowC c ps).Sublist (rowC c qs) := (h.filter _).map _
theorem rise_fall {l : List Int} (h1 : Rise l) (h2 : l.Pairwise (· > ·)) : l.length ≤ 1 := by
  match l, h1, h2 with
  | [], _, _ => simp
  | [a], _, _ => simp
  | a :: b :: l, h1, h2 =>
    have := (List.pairwise_cons.1 h1).1 b (by simp)
    have := (List.pairwise_cons.1 h2).1 b (by simp)
    omega
/-- Of cards that fall, k colours have one each, at most. -/
theorem count_fall {k : Nat} {ps : List (Int × Nat)} (h : (ps.map (·.1)).Pairwise (· > ·)) (hr : ∀ c, c < k → Rise (rowC c ps)) : ps.countP (fun p => decide (p.2 < k)) ≤ min k ps.length := by
  have h1 : ps.countP (fun p => decide (p.2 < k)) ≤ k := count_le fun c hc => rise_fall (hr c hc) (h.sublist (rowC_sub c ps))
  have h2 := List.countP_le_length (p := fun p : Int × Nat => decide (p.2 < k)) (l := ps)
  omega

/-- How many cards the columns have, k from each row. -/
def colSum (k : Nat) (T : List (List Int)) : Nat := (T.map (fun R => min k R.length)).sum
/-- How many cards the first k rows have. -/
def rowSum (k : Nat) (T : List (List Int)) : Nat := ((T.take k).map List.length).sum

theorem wordT_rev (T : List (List Int)) : (wordT T).reverse = (T.map List.reverse).flatten := by
  induction T with
  | nil => rfl
  | cons R T ih => rw [wordT_cons, List.reverse_append, ih]; rfl

theorem fallUp {k : Nat} {T : List (List Int)} (ht : Rows T) : ∀ {ps : List (Int × Nat)}, ps.map (·.1) = (T.map List.reverse).flatten → (∀ c, c < k → Rise (rowC c ps)) → ps.countP (fun p => decide (p.2 < k)) ≤ colSum k T := by
  induction T with
  | nil => intro ps hm _; simp at hm; subst hm; simp
  | cons R T ih =>
    intro ps hm hr
    rw [List.map_cons, List.flatten_cons] at hm
    obtain ⟨p1, p2, rfl, h1, h2⟩ := List.map_eq_append_iff.1 hm
    rw [List.countP_append]
    have ha := count_fall (k := k) (ps := p1) (by rw [h1, List.pairwise_reverse]; exact (ht R (by simp))) (fun c hc => (hr c hc).sublist (rowC_mono (List.sublist_append_left p1 p2)))
    have hb := ih (fun S hS => ht S (by simp [hS])) h2 (fun c hc => (hr c hc).sublist (rowC_mono (List.sublist_append_right p1 p2)))
    have hl : p1.length = R.length := by have := congrArg List.length h1; simpa using this
    rw [hl] at ha
    simp only [colSum, List.map_cons, List.sum_cons] at hb ⊢
    omega

/-- A column. -/
def colT (c : Nat) (T : List (List Int)) : List Int := T.filterMap (fun R => R[c]?)
theorem colT_gt {c : Nat} {T : List (List Int)} : ∀ {R : List Int}, Tab (R :: T) → ∀ x ∈ colT c T, c < R.length ∧ R.getD c 0 < x := by
  induction T with
  | nil => intro R _ x hx; simp [colT] at hx
  | cons S T ih =>
    intro R ht x hx
    have hov := ht.2.2.1
    simp only [List.headD_cons] at hov
    have key : c < S.length → c < R.length ∧ R.getD c 0 < S.getD c 0 := fun h => ⟨Nat.lt_of_lt_of_le h hov.1, hov.2 c h⟩
    simp only [colT, List.filterMap_cons] at hx
    cases hs : S[c]? with
    | none =>
      rw [hs] at hx
      have := ih ht.2.2.2 x hx
      rw [List.getElem?_eq_none_iff] at hs
      omega
    | some y =>
      rw [hs] at hx
      have hc := (List.getElem?_eq_some_iff.1 hs).1
      have hy : S.getD c 0 = y := by rw [List.getD_eq_getElem?_getD, hs]; rfl
      obtain ⟨k1, k2⟩ := key hc
      rcases List.mem_cons.1 hx with rfl | hx
      · exact ⟨k1, by rw [← hy]; exact k2⟩
      · have := ih ht.2.2.2 x hx
        exact ⟨k1, by omega⟩
theorem colT_rise {c : Nat} {T : List (List Int)} (ht : Tab T) : Rise (colT c T) := by
  induction T with
  | nil => simp [colT]
  | cons R T ih =>
    have h1 := ih ht.2.2.2
    simp only [colT, List.filterMap_cons]
    cases hr : R[c]? with
    | none => exact h1
    | some y =>
      refine List.pairwise_cons.2 ⟨fun x hx => ?_, h1⟩
      have := (colT_gt ht x hx).2
      rwa [List.getD_eq_getElem?_getD, hr] at this

theorem rowC_zip (c : Nat) : ∀ (R : List Int) (i : Nat), rowC c (R.zipIdx i) = if i ≤ c then (R[c - i]?).toList else [] := by
  intro R
  induction R with
  | nil => intro i; simp [rowC]
  | cons x R ih =>
    intro i
    rw [List.zipIdx_cons, rowC_cons, ih]
    by_cases h1 : i = c
    · subst h1; rw [if_pos rfl, if_neg (by omega)]; simp
    · rw [if_neg h1]
      by_cases h2 : i ≤ c
      · rw [if_pos (by omega), if_pos h2]
        obtain ⟨q, hq⟩ : ∃ q, c - i = q + 1 := ⟨c - i - 1, by omega⟩
        rw [hq, show c - (i + 1) = q by omega, List.getElem?_cons_succ]
      · rw [if_neg (by omega), if_neg h2]
theorem count_zip (k : Nat) : ∀ (R : List Int) (i : Nat), (R.zipIdx i).countP (fun p => decide (p.2 < k)) = min (k - i) R.length := by
  intro R
  induction R with
  | nil => intro i; simp
  | cons x R ih =>
    intro i
    rw [List.zipIdx_cons, List.countP_cons, ih, List.length_cons]
    by_cases h : i < k
    · simp [h]; omega
    · simp [h]; omega

theorem fallDown (k : Nat) {T : List (List Int)} (ht : Tab T) : Fam k (wordT T).reverse (colSum k T) := by
  refine ⟨(T.map fun R => (R.zipIdx 0).reverse).flatten, ?_, ?_, ?_⟩
  · rw [wordT_rev, List.map_flatten, List.map_map]
    congr 1
    apply List.map_congr_left
    intro R _
    simp [Function.comp, List.map_reverse]
  · intro c _
    have : rowC c ((T.map fun R => (R.zipIdx 0).reverse).flatten) = colT c T := by
      induction T with
      | nil => rfl
      | cons R T ih =>
        rw [List.map_cons, List.flatten_cons, rowC_append, ih ht.2.2.2]
        have h1 : rowC c (R.zipIdx 0).reverse = (R[c]?).toList := by
          have h2 := rowC_zip c R 0
          rw [if_pos (Nat.zero_le _), Nat.sub_zero] at h2
          simp only [rowC, List.filter_reverse, List.map_reverse] at h2 ⊢
          rw [h2]
          cases R[c]? <;> rfl
        rw [h1]
        simp only [colT, List.filterMap_cons]
        cases R[c]? <;> rfl
    rw [this]
    exact colT_rise ht
  · rw [List.countP_flatten, List.map_map]
    simp only [colSum]
    congr 1
    apply List.map_congr_left
    intro R _
    simp only [Function.comp, List.countP_reverse, count_zip]
    rfl

/-- Colours by rows. -/
def rowsPs : Nat → List (List Int) → List (Int × Nat)
  | _, [] => []
  | i, R :: T => rowsPs (i + 1) T ++ R.map (fun x => (x, i))
theorem rowsPs_fst (T : List (List Int)) : ∀ i, (rowsPs i T).map (·.1) = wordT T := by
  induction T with
  | nil => intro i; rfl
  | cons R T ih => intro i; rw [rowsPs, List.map_append, ih, wordT_cons, List.map_map]; simp [Function.comp_def]
theorem rowC_map (c i : Nat) (R : List Int) : rowC c (R.map (fun x => (x, i))) = if i = c then R else [] := by
  induction R with
  | nil => simp [rowC]
  | cons x R ih =>
    rw [List.map_cons, rowC_cons, ih]
    split <;> rfl
theorem rowsPs_row (c : Nat) (T : List (List Int)) : ∀ i, rowC c (rowsPs i T) = if i ≤ c then T.getD (c - i) [] else [] := by
  induction T with
  | nil => intro i; simp [rowsPs, rowC]
  | cons R T ih =>
    intro i
    rw [rowsPs, rowC_append, ih, rowC_map]
    by_cases h1 : i = c
    · subst h1; rw [if_neg (by omega), if_pos rfl, if_pos (Nat.le_refl _)]; simp
    · rw [if_neg h1, List.append_nil]
      by_cases h2 : i ≤ c
      · rw [if_pos (by omega), if_pos h2]
        obtain ⟨q, hq⟩ : ∃ q, c - i = q + 1 := ⟨c - i - 1, by omega⟩
        rw [hq, show c - (i + 1) = q by omega]; simp
      · rw [if_neg (by omega), if_neg h2]
theorem rowsPs_count (k : Nat) (T : List (List Int)) : ∀ i, (rowsPs i T).countP (fun p => decide (p.2 < k)) = rowSum (k - i) T := by
  induction T with
  | nil => intro i; simp [rowsPs, rowSum]
  | cons R T ih =>
    intro i
    rw [rowsPs, List.countP_append, ih, List.countP_map]
    by_cases h : i < k
    · obtain ⟨q, hq⟩ : ∃ q, k - i = q + 1 := ⟨k - i - 1, by omega⟩
      rw [hq, show k - (i + 1) = q by omega]
      have : R.countP ((fun p : Int × Nat => decide (p.2 < k)) ∘ fun x => (x, i)) = R.length := by
        rw [List.countP_eq_length]; intro x _; simp [h]
      rw [this]
      simp only [rowSum, List.take_succ_cons, List.map_cons, List.sum_cons]
      omega
    · rw [show k - i = 0 by omega, show k - (i + 1) = 0 by omega]
      have : R.countP ((fun p : Int × Nat => decide (p.2 < k)) ∘ fun x => (x, i)) = 0 := by
        rw [List.countP_eq_zero]; intro x _; simp; omega
      rw [this]
      simp [rowSum]

theorem riseDown (k : Nat) {T : List (List Int)} (ht : Rows T) : Fam k (wordT T) (rowSum k T) := by
  refine ⟨rowsPs 0 T, rowsPs_fst T 0, ?_, by rw [rowsPs_count, Nat.sub_zero]⟩
  intro c _
  rw [rowsPs_row, if_pos (Nat.zero_le _), Nat.sub_zero, List.getD_eq_getElem?_getD]
  cases h : T[c]? with
  | none => simp
  | some R => exact ht R (List.mem_of_getElem? h)

/-- Columns that rise, rows that get no longer. -/
def WTab : List (List Int) → Prop
  | [] => True
  | R :: T => Over R (T.headD []) ∧ WTab T
theorem Tab.w {T : List (List Int)} (h : Tab T) : WTab T := by
  induction T with
  | nil => trivial
  | cons R T ih => exact ⟨h.2.2.1, ih h.2.2.2⟩
theorem Over.tail {R S : List Int} (h : Over R S) : Over R.tail S.tail := by
  refine ⟨by have := h.1; simp only [List.length_tail]; omega, ?_⟩
  intro j hj
  simp only [List.length_tail] at hj
  have := h.2 (j + 1) (by omega)
  simpa [List.getD_eq_getElem?_getD] using this
theorem WTab.tail {T : List (List Int)} (h : WTab T) : WTab (T.map List.tail) := by
  induction T with
  | nil => trivial
  | cons R T ih =>
    refine ⟨?_, ih h.2⟩
    have := h.1.tail
    cases T with
    | nil => simpa using this
    | cons S T => simpa using this
theorem WTab.nil {T : List (List Int)} (h : WTab ([] :: T)) : ∀ R ∈ T, R = [] := by
  induction T with
  | nil => simp
  | cons S T ih =>
    have h1 := h.1.1
    simp only [List.headD_cons, List.length_nil] at h1
    have h2 : S = [] := List.length_eq_zero_iff.1 (by omega)
    subst h2
    intro R hR
    rcases List.mem_cons.1 hR with rfl | hR
    · rfl
    · exact ih h.2 R hR

/-- How many rows there are. -/
def high (T : List (List Int)) : Nat := T.countP (fun R => !R.isEmpty)
theorem rowSum_tail (k : Nat) {T : List (List Int)} (h : WTab T) : rowSum k T = rowSum k (T.map List.tail) + min k (high T) := by
  induction T generalizing k with
  | nil => simp [rowSum, high]
  | cons R T ih =>
    cases k with
    | zero => simp [rowSum]
    | succ k =>
      have h1 := ih k h.2
      simp only [rowSum, List.take_succ_cons, List.map_cons, List.sum_cons, high, List.countP_cons, List.length_tail] at h1 ⊢
      cases R with
      | nil =>
        have hn := h.nil
        have hz : T.countP (fun R => !R.isEmpty) = 0 := by rw [List.countP_eq_zero]; intro R hR; rw [hn R hR]; simp
        rw [hz] at h1 ⊢
        simp only [List.length_nil, List.isEmpty_nil] at h1 ⊢
        simp at h1 ⊢
        omega
      | cons x R =>
        simp only [List.length_cons, List.isEmpty_cons] at h1 ⊢
        simp at h1 ⊢
        omega

theorem rows_split {T : List (List Int)} : ∀ {ps : List (Int × Nat)}, ps.map (·.1) = wordT T → ∃ PS : List (List (Int × Nat)), PS.map (fun l => l.map (·.1)) = T ∧ ps = PS.reverse.flatten := by
  induction T with
  | nil => intro ps h; simp [wordT] at h; exact ⟨[], rfl, by simp [h]⟩
  | cons R T ih =>
    intro ps h
    rw [wordT_cons] at h
    obtain ⟨p1, p2, rfl, h1, h2⟩ := List.map_eq_append_iff.1 h
    obtain ⟨PS, h3, rfl⟩ := ih h1
    exact ⟨p2 :: PS, by simp [h2, h3], by simp⟩

theorem heads_fall {T : List (List Int)} (h : WTab T) : (colT 0 T).Pairwise (· < ·) := by
  have hgt : ∀ {T : List (List Int)} {R : List Int}, WTab (R :: T) → ∀ x ∈ colT 0 T, 0 < R.length ∧ R.getD 0 0 < x := by
    intro T
    induction T with
    | nil => intro R _ x hx; simp [colT] at hx
    | cons S T ih =>
      intro R ht x hx
      have hov := ht.1
      simp only [List.headD_cons] at hov
      simp only [colT, List.filterMap_cons] at hx
      cases hs : S[0]? with
      | none =>
        rw [hs] at hx
        have := ih ht.2 x hx
        rw [List.getElem?_eq_none_iff] at hs
        omega
      | some y =>
        rw [hs] at hx
        have hc := (List.getElem?_eq_some_iff.1 hs).1
        have hy : S.getD 0 0 = y := by rw [List.getD_eq_getElem?_getD, hs]; rfl
        have k1 := hov.1
        have k2 := hov.2 0 hc
        rcases List.mem_cons.1 hx with rfl | hx
        · exact ⟨by omega, by omega⟩
        · have := ih ht.2 x hx
          exact ⟨by omega, by omega⟩
  induction T with
  | nil => simp [colT]
  | cons R T ih =>
    have h1 := ih h.2
    simp only [colT, List.filterMap_cons]
    cases hr : R[0]? with
    | none => exact h1
    | some y =>
      refine List.pairwise_cons.2 ⟨fun x hx => ?_, h1⟩
      have := (hgt h x hx).2
      rwa [List.getD_eq_getElem?_getD, hr] at this

theorem flatten_sub {α : Type} {f : List α → List α} (hf : ∀ l, (f l).Sublist l) (L : List (List α)) : (L.map f).flatten.Sublist L.flatten := by
  induction L with
  | nil => exact .refl _
  | cons l L ih => simp only [List.map_cons, List.flatten_cons]; exact (hf l).append ih

theorem riseUp (k m : Nat) : ∀ {T : List (List Int)}, WTab T → (∀ R ∈ T, R.length ≤ m) → ∀ {ps : List (Int × Nat)}, ps.map (·.1) = wordT T → (∀ c, c < k → Rise (rowC c ps)) → ps.countP (fun p => decide (p.2 < k)) ≤ rowSum k T := by
  induction m with
  | zero =>
    intro T _ hm ps hps _
    have : ps = [] := by
      have h1 : wordT T = [] := by
        rw [wordT, List.flatten_eq_nil_iff]
        intro R hR
        exact List.length_eq_zero_iff.1 (by have := hm R (by simpa using hR); omega)
      rw [h1] at hps
      simpa using hps
    subst this
    simp
  | succ m ih =>
    intro T hw hm ps hps hr
    obtain ⟨PS, h1, rfl⟩ := rows_split hps
    have hsub : (PS.map List.tail).reverse.flatten.Sublist PS.reverse.flatten := by
      rw [← List.map_reverse]; exact flatten_sub (fun l => List.tail_sublist l) _
    have htl : (PS.map List.tail).map (fun l => l.map (·.1)) = T.map List.tail := by
      rw [← h1, List.map_map, List.map_map]
      apply List.map_congr_left
      intro l _
      simp [Function.comp, List.map_tail]
    have ha := ih (T := T.map List.tail) hw.tail
      (by intro R hR; obtain ⟨S, hS, rfl⟩ := List.mem_map.1 hR; have := hm S hS; simp only [List.length_tail]; omega)
      (ps := (PS.map List.tail).reverse.flatten)
      (by rw [List.map_flatten, List.map_reverse, htl]; rfl)
      (fun c hc => (hr c hc).sublist (rowC_mono hsub))
    -- the heads
    have hsub2 : (PS.map (List.take 1)).reverse.flatten.Sublist PS.reverse.flatten := by
      rw [← List.map_reverse]; exact flatten_sub (fun l => List.take_sublist 1 l) _
    have hhd : ((PS.map (List.take 1)).reverse.flatten).map (·.1) = (colT 0 T).reverse := by
      rw [← h1]
      clear hsub hsub2 ha htl hr hps hm hw h1
      induction PS with
      | nil => rfl
      | cons l PS ih2 =>
        simp only [List.map_cons, List.reverse_cons, List.flatten_append, List.map_append, ih2, colT, List.filterMap_cons]
        cases l with
        | nil => simp
        | cons p l => simp
    have hb := count_fall (k := k) (ps := (PS.map (List.take 1)).reverse.flatten) (by rw [hhd, List.pairwise_reverse]; exact heads_fall hw) (fun c hc => (hr c hc).sublist (rowC_mono hsub2))
    have hlen : (PS.map (List.take 1)).reverse.flatten.length = high T := by
      have h2 := congrArg List.length hhd
      rw [List.length_map, List.length_reverse] at h2
      rw [h2]
      clear h2 hhd hb ha hsub hsub2 htl hr hps hm hw h1
      induction T with
      | nil => rfl
      | cons R T ih2 =>
        simp only [colT, List.filterMap_cons, high, List.countP_cons] at ih2 ⊢
        cases R with
        | nil => simpa using ih2
        | cons x R => simp at ih2 ⊢; omega
    rw [hlen] at hb
    have hsum : PS.reverse.flatten.countP (fun p => decide (p.2 < k)) = (PS.map (List.take 1)).reverse.flatten.countP (fun p => decide (p.2 < k)) + (PS.map List.tail).reverse.flatten.countP (fun p => decide (p.2 < k)) := by
      clear hlen hb hhd hsub2 ha htl hsub hr hps hm hw h1
      induction PS with
      | nil => rfl
      | cons l PS ih2 =>
        simp only [List.map_cons, List.reverse_cons, List.flatten_append, List.countP_append, ih2]
        have : l.countP (fun p => decide (p.2 < k)) = (l.take 1).countP (fun p => decide (p.2 < k)) + l.tail.countP (fun p => decide (p.2 < k)) := by
          rw [← List.countP_append]
          congr 1
          cases l <;> simp
        simp only [List.flatten_cons, List.flatten_nil, List.append_nil]
        omega
    rw [hsum, rowSum_tail k hw]
    omega

theorem le_of_mem_bound {T : List (List Int)} : ∃ m, ∀ R ∈ T, R.length ≤ m := by
  induction T with
  | nil => exact ⟨0, by simp⟩
  | cons R T ih =>
    obtain ⟨m, hm⟩ := ih
    refine ⟨max m R.length, ?_⟩
    intro S hS
    rcases List.mem_cons.1 hS with rfl | hS
    · omega
    · have := hm S hS; omega

/-- Greene's theorem, rising rows. -/
theorem greene {w : List Int} (hnd : w.Nodup) (k : Nat) : Fam k w (rowSum k (insAll w)) ∧ ∀ n, Fam k w n → n ≤ rowSum k (insAll w) := by
  obtain ⟨h1, h2, h3⟩ := insAll_ok hnd
  refine ⟨(h2.fam k _).2 (riseDown k h1), fun n hn => ?_⟩
  obtain ⟨ps, hm, hr, rfl⟩ := (h2.fam k n).1 hn
  obtain ⟨m, hb⟩ := le_of_mem_bound (T := insAll w)
  exact riseUp k m (insAll_tab hnd).w hb hm hr
/-- Greene's theorem, falling rows. -/
theorem greeneD {w : List Int} (hnd : w.Nodup) (k : Nat) : Fam k w.reverse (colSum k (insAll w)) ∧ ∀ n, Fam k w.reverse n → n ≤ colSum k (insAll w) := by
  obtain ⟨h1, h2, h3⟩ := insAll_ok hnd
  refine ⟨(h2.rev.fam k _).2 (fallDown k (insAll_tab hnd)), fun n hn => ?_⟩
  obtain ⟨ps, hm, hr, rfl⟩ := (h2.rev.fam k n).1 hn
  exact fallUp h1 (by rw [hm, wordT_rev]) hr

end Go.Gr
