/-
  Rows of numbers, coloured; exchanges of neighbours that keep how many cards some rising rows can have.
  Conditions: none.
-/
namespace Go.Gr

abbrev Rise (l : List Int) : Prop := l.Pairwise (· < ·)

/-- The cards of a colour. -/
def rowC (c : Nat) (ps : List (Int × Nat)) : List Int := (ps.filter (fun p => p.2 == c)).map (·.1)

theorem rowC_nil (c : Nat) : rowC c [] = [] := rfl
theorem rowC_append (c : Nat) (ps qs : List (Int × Nat)) : rowC c (ps ++ qs) = rowC c ps ++ rowC c qs := by simp [rowC]
theorem rowC_same (c : Nat) (x : Int) (ps : List (Int × Nat)) : rowC c ((x, c) :: ps) = x :: rowC c ps := by simp [rowC]
theorem rowC_other {c d : Nat} (h : d ≠ c) (x : Int) (ps : List (Int × Nat)) : rowC c ((x, d) :: ps) = rowC c ps := by simp [rowC, h]
theorem rowC_cons (c d : Nat) (x : Int) (ps : List (Int × Nat)) : rowC c ((x, d) :: ps) = if d = c then x :: rowC c ps else rowC c ps := by
  by_cases h : d = c
  · subst h; rw [rowC_same, if_pos rfl]
  · rw [rowC_other h, if_neg h]

/-- Some rows that rise, k at most, have n cards together. -/
def Fam (k : Nat) (w : List Int) (n : Nat) : Prop :=
  ∃ ps : List (Int × Nat), ps.map (·.1) = w ∧ (∀ c, c < k → Rise (rowC c ps)) ∧ ps.countP (fun p => decide (p.2 < k)) = n

theorem rise_mid {A B : List Int} {m : Int} : Rise (A ++ m :: B) ↔ Rise A ∧ (∀ a ∈ A, a < m) ∧ Rise B ∧ ∀ b ∈ B, m < b := by
  simp only [Rise, List.pairwise_append, List.pairwise_cons, List.mem_cons]
  constructor
  · rintro ⟨h1, ⟨h2, h3⟩, h4⟩
    exact ⟨h1, fun a ha => h4 a ha m (.inl rfl), h3, h2⟩
  · rintro ⟨h1, h2, h3, h4⟩
    refine ⟨h1, ⟨h4, h3⟩, ?_⟩
    rintro a ha b (rfl | hb)
    · exact h2 a ha
    · have := h2 a ha; have := h4 b hb; omega
theorem rise_mid2 {A B : List Int} {m q : Int} : Rise (A ++ m :: q :: B) ↔ Rise A ∧ (∀ a ∈ A, a < m) ∧ m < q ∧ Rise B ∧ ∀ b ∈ B, q < b := by
  rw [rise_mid]
  simp only [Rise, List.pairwise_cons, List.mem_cons]
  constructor
  · rintro ⟨h1, h2, ⟨h3, h4⟩, h5⟩
    exact ⟨h1, h2, h5 q (.inl rfl), h4, h3⟩
  · rintro ⟨h1, h2, h3, h4, h5⟩
    refine ⟨h1, h2, ⟨h5, h4⟩, ?_⟩
    rintro b (rfl | hb)
    · exact h3
    · have := h5 b hb; omega

theorem map_split3 {ps : List (Int × Nat)} {u v : List Int} {a b c : Int} (h : ps.map (·.1) = u ++ [a, b, c] ++ v) : ∃ pu pv ca cb cc, ps = pu ++ (a, ca) :: (b, cb) :: (c, cc) :: pv ∧ pu.map (·.1) = u ∧ pv.map (·.1) = v := by
  rw [List.append_assoc] at h
  obtain ⟨pu, r, rfl, h1, h2⟩ := List.map_eq_append_iff.1 h
  match r, h2 with
  | (a', ca) :: (b', cb) :: (c', cc) :: pv, h2 =>
    simp only [List.map_cons, List.cons_append, List.nil_append, List.cons.injEq] at h2
    obtain ⟨rfl, rfl, rfl, h3⟩ := h2
    exact ⟨pu, pv, ca, cb, cc, rfl, h1, h3⟩
theorem map_split2 {ps : List (Int × Nat)} {u v : List Int} {a b : Int} (h : ps.map (·.1) = u ++ [a, b] ++ v) : ∃ pu pv ca cb, ps = pu ++ (a, ca) :: (b, cb) :: pv ∧ pu.map (·.1) = u ∧ pv.map (·.1) = v := by
  rw [List.append_assoc] at h
  obtain ⟨pu, r, rfl, h1, h2⟩ := List.map_eq_append_iff.1 h
  match r, h2 with
  | (a', ca) :: (b', cb) :: pv, h2 =>
    simp only [List.map_cons, List.cons_append, List.nil_append, List.cons.injEq] at h2
    obtain ⟨rfl, rfl, h3⟩ := h2
    exact ⟨pu, pv, ca, cb, rfl, h1, h3⟩

/-- Neighbours of different colours may be exchanged. -/
theorem swap_rows {k : Nat} {pu pv : List (Int × Nat)} {a b : Int} {ca cb : Nat} (hne : ca ≠ cb ∨ k ≤ ca) (h : ∀ c, c < k → Rise (rowC c (pu ++ (a, ca) :: (b, cb) :: pv))) : ∀ c, c < k → Rise (rowC c (pu ++ (b, cb) :: (a, ca) :: pv)) := by
  intro c hc
  have h1 := h c hc
  simp only [rowC_append, rowC_cons] at h1 ⊢
  by_cases h2 : ca = c <;> by_cases h3 : cb = c
  · omega
  · simp only [if_pos h2, if_neg h3] at h1 ⊢; exact h1
  · simp only [if_neg h2, if_pos h3] at h1 ⊢; exact h1
  · simp only [if_neg h2, if_neg h3] at h1 ⊢; exact h1

theorem Fam.sort {k n : Nat} {u v : List Int} {a b : Int} (hf : Fam k (u ++ [a, b] ++ v) n) (hab : b < a) : Fam k (u ++ [b, a] ++ v) n := by
  obtain ⟨ps, hm, hr, hn⟩ := hf
  obtain ⟨pu, pv, ca, cb, rfl, h1, h2⟩ := map_split2 hm
  refine ⟨pu ++ (b, cb) :: (a, ca) :: pv, by simp [h1, h2], swap_rows ?_ hr, ?_⟩
  · by_cases hk : k ≤ ca
    · exact .inr hk
    · refine .inl ?_
      rintro rfl
      have := hr ca (by omega)
      rw [rowC_append, rowC_same, rowC_same, rise_mid2] at this
      omega
  · rw [← hn]
    simp only [List.countP_append, List.countP_cons]
    omega

/-- Two colours exchanged. -/
def swapC (c d : Nat) (p : Int × Nat) : Int × Nat := (p.1, if p.2 = c then d else if p.2 = d then c else p.2)
theorem swapC_fst (c d : Nat) (ps : List (Int × Nat)) : (ps.map (swapC c d)).map (·.1) = ps.map (·.1) := by simp [List.map_map, Function.comp_def, swapC]
theorem rowC_swap (c d e : Nat) (ps : List (Int × Nat)) : rowC e (ps.map (swapC c d)) = rowC (if e = c then d else if e = d then c else e) ps := by
  induction ps with
  | nil => rfl
  | cons p ps ih =>
    obtain ⟨x, q⟩ := p
    simp only [List.map_cons, swapC, rowC_cons, ih]
    have hiff : ((if q = c then d else if q = d then c else q) = e) ↔ (q = if e = c then d else if e = d then c else e) := by
      split <;> split <;> (try split) <;> (try split) <;> omega
    simp only [hiff]
theorem count_swap {c d k : Nat} (hc : c < k) (hd : d < k) (ps : List (Int × Nat)) : (ps.map (swapC c d)).countP (fun p => decide (p.2 < k)) = ps.countP (fun p => decide (p.2 < k)) := by
  induction ps with
  | nil => rfl
  | cons p ps ih =>
    simp only [List.map_cons, List.countP_cons, ih]
    have hiff : ((swapC c d p).2 < k) ↔ (p.2 < k) := by
      simp only [swapC]
      split
      · omega
      · split <;> omega
    simp only [hiff]

theorem Fam.knuthA {k n : Nat} {u v : List Int} {x y z : Int} (hxy : x < y) (hyz : y < z) (hf : Fam k (u ++ [x, z, y] ++ v) n) : Fam k (u ++ [z, x, y] ++ v) n := by
  obtain ⟨ps, hm, hr, hn⟩ := hf
  obtain ⟨pu, pv, cx, cz, cy, rfl, h1, h2⟩ := map_split3 hm
  by_cases hne : cx ≠ cz ∨ k ≤ cx
  · refine ⟨pu ++ (z, cz) :: (x, cx) :: (y, cy) :: pv, by simp [h1, h2], swap_rows hne hr, ?_⟩
    rw [← hn]
    simp only [List.countP_append, List.countP_cons]
    omega
  · have he : cx = cz := by omega
    have hk : cx < k := by omega
    subst he
    have hrc := hr cx hk
    by_cases hcy : cy = cx
    · subst hcy
      rw [rowC_append, rowC_same, rowC_same, rowC_same, rise_mid2] at hrc
      have := hrc.2.2.2.2 y (by simp)
      omega
    · rw [rowC_append, rowC_same, rowC_same, rowC_other hcy, rise_mid2] at hrc
      by_cases hk2 : cy < k
      · have hrd := hr cy hk2
        rw [rowC_append, rowC_other (Ne.symm hcy), rowC_other (Ne.symm hcy), rowC_same, rise_mid] at hrd
        refine ⟨pu ++ (z, cy) :: (x, cx) :: (y, cx) :: pv.map (swapC cx cy), by simp [h1, ← h2, Function.comp_def, swapC], ?_, ?_⟩
        · intro c hc
          have hro := hr c hc
          by_cases e1 : c = cx
          · subst e1
            rw [rowC_append, rowC_other hcy, rowC_same, rowC_same, rowC_swap, if_pos rfl, rise_mid2]
            exact ⟨hrc.1, hrc.2.1, hxy, hrd.2.2.1, hrd.2.2.2⟩
          · by_cases e2 : c = cy
            · subst e2
              rw [rowC_append, rowC_same, rowC_other (Ne.symm hcy), rowC_other (Ne.symm hcy), rowC_swap, if_neg hcy, if_pos rfl, rise_mid]
              exact ⟨hrd.1, fun a ha => by have := hrd.2.1 a ha; omega, hrc.2.2.2.1, hrc.2.2.2.2⟩
            · rw [rowC_append, rowC_other (Ne.symm e1), rowC_other (Ne.symm e1), rowC_other (Ne.symm e2)] at hro
              rw [rowC_append, rowC_other (Ne.symm e2), rowC_other (Ne.symm e1), rowC_other (Ne.symm e1), rowC_swap, if_neg e1, if_neg e2]
              exact hro
        · rw [← hn]
          simp only [List.countP_append, List.countP_cons, count_swap hk hk2, hk, hk2]
      · refine ⟨pu ++ (z, cy) :: (x, cx) :: (y, cx) :: pv, by simp [h1, h2], ?_, ?_⟩
        · intro c hc
          have hro := hr c hc
          have e2 : cy ≠ c := by omega
          by_cases e1 : c = cx
          · subst e1
            rw [rowC_append, rowC_other hcy, rowC_same, rowC_same, rise_mid2]
            exact ⟨hrc.1, hrc.2.1, hxy, hrc.2.2.2.1, fun b hb => by have := hrc.2.2.2.2 b hb; omega⟩
          · rw [rowC_append, rowC_other (Ne.symm e1), rowC_other (Ne.symm e1), rowC_other e2] at hro
            rw [rowC_append, rowC_other e2, rowC_other (Ne.symm e1), rowC_other (Ne.symm e1)]
            exact hro
        · rw [← hn]
          simp only [List.countP_append, List.countP_cons, hk, hk2]
          simp

/-- Backwards, and with signs changed. -/
def rc (w : List Int) : List Int := (w.map (fun x => -x)).reverse
theorem rc_rc (w : List Int) : rc (rc w) = w := by simp [rc, List.map_reverse, List.map_map, Function.comp_def]
theorem rise_rc {w : List Int} (h : Rise w) : Rise (rc w) := by
  simp only [rc, Rise, List.pairwise_reverse, List.pairwise_map]
  exact h.imp (by intros; omega)
theorem rowC_rc (c : Nat) (ps : List (Int × Nat)) : rowC c (ps.map (fun p => (-p.1, p.2))).reverse = rc (rowC c ps) := by
  simp only [rowC, rc, List.filter_reverse, List.filter_map, List.map_reverse, List.map_map]
  rfl
theorem Fam.rc {k n : Nat} {w : List Int} (hf : Fam k w n) : Fam k (rc w) n := by
  obtain ⟨ps, hm, hr, hn⟩ := hf
  refine ⟨(ps.map (fun p => (-p.1, p.2))).reverse, ?_, ?_, ?_⟩
  · simp [← hm, Go.Gr.rc, List.map_reverse, List.map_map, Function.comp_def]
  · intro c hc
    rw [rowC_rc]
    exact rise_rc (hr c hc)
  · rw [← hn, List.countP_reverse, List.countP_map]
    rfl

theorem Fam.knuthB {k n : Nat} {u v : List Int} {x y z : Int} (hxy : x < y) (hyz : y < z) (hf : Fam k (u ++ [y, x, z] ++ v) n) : Fam k (u ++ [y, z, x] ++ v) n := by
  have h1 := hf.rc
  have e1 : Go.Gr.rc (u ++ [y, x, z] ++ v) = Go.Gr.rc v ++ [-z, -x, -y] ++ Go.Gr.rc u := by simp [Go.Gr.rc]
  have e2 : Go.Gr.rc (u ++ [y, z, x] ++ v) = Go.Gr.rc v ++ [-x, -z, -y] ++ Go.Gr.rc u := by simp [Go.Gr.rc]
  rw [e1] at h1
  have h2 := Fam.knuthA (by omega) (by omega) h1
  rw [← e2] at h2
  simpa [rc_rc] using h2.rc

/-- Words that lead to the same table. -/
inductive Kn : List Int → List Int → Prop
  | refl (w) : Kn w w
  | a (u v) {x y z} : x < y → y < z → Kn (u ++ [x, z, y] ++ v) (u ++ [z, x, y] ++ v)
  | b (u v) {x y z} : x < y → y < z → Kn (u ++ [y, x, z] ++ v) (u ++ [y, z, x] ++ v)
  | symm {w w'} : Kn w w' → Kn w' w
  | trans {w w' w''} : Kn w w' → Kn w' w'' → Kn w w''

theorem Kn.ctx {w w' : List Int} (h : Kn w w') (p q : List Int) : Kn (p ++ w ++ q) (p ++ w' ++ q) := by
  induction h with
  | refl w => exact .refl _
  | a u v h1 h2 => have := Kn.a (p ++ u) (v ++ q) h1 h2; simpa using this
  | b u v h1 h2 => have := Kn.b (p ++ u) (v ++ q) h1 h2; simpa using this
  | symm _ ih => exact .symm ih
  | trans _ _ ih1 ih2 => exact .trans ih1 ih2
theorem Kn.pre {w w' : List Int} (h : Kn w w') (p : List Int) : Kn (p ++ w) (p ++ w') := by simpa using h.ctx p []
theorem Kn.post {w w' : List Int} (h : Kn w w') (q : List Int) : Kn (w ++ q) (w' ++ q) := by simpa using h.ctx [] q

theorem Kn.rev {w w' : List Int} (h : Kn w w') : Kn w.reverse w'.reverse := by
  induction h with
  | refl w => exact .refl _
  | a u v h1 h2 => have := Kn.symm (Kn.b v.reverse u.reverse h1 h2); simpa using this
  | b u v h1 h2 => have := Kn.symm (Kn.a v.reverse u.reverse h1 h2); simpa using this
  | symm _ ih => exact .symm ih
  | trans _ _ ih1 ih2 => exact .trans ih1 ih2

theorem Kn.fam {w w' : List Int} (h : Kn w w') (k n : Nat) : Fam k w n ↔ Fam k w' n := by
  induction h with
  | refl w => exact Iff.rfl
  | @a u v x y z h1 h2 =>
    refine ⟨Fam.knuthA h1 h2, fun hf => ?_⟩
    have := Fam.sort (u := u) (v := y :: v) (a := z) (b := x) (by simpa using hf) (by omega)
    simpa using this
  | @b u v x y z h1 h2 =>
    refine ⟨Fam.knuthB h1 h2, fun hf => ?_⟩
    have := Fam.sort (u := u ++ [y]) (v := v) (a := z) (b := x) (by simpa using hf) (by omega)
    simpa using this
  | symm _ ih => exact ih.symm
  | trans _ _ ih1 ih2 => exact ih1.trans ih2

theorem Kn.perm {w w' : List Int} (h : Kn w w') : w.Perm w' := by
  induction h with
  | refl w => exact .refl _
  | a u v h1 h2 => exact List.Perm.append_right _ (List.Perm.append_left _ (List.Perm.swap _ _ _))
  | b u v h1 h2 => exact List.Perm.append_right _ (List.Perm.append_left _ (List.Perm.cons _ (List.Perm.swap _ _ _)))
  | symm _ ih => exact ih.symm
  | trans _ _ ih1 ih2 => exact ih1.trans ih2

end Go.Gr
