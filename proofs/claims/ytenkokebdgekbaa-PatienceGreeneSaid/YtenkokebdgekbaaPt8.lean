/-
  Layer 13, the plain part: a pack out of two tables.
  Conditions: none.
-/
import Derived.Test.YtenkokebdgekbaaPt7
namespace Go.Am
open Go.Gr

/-- Back from row to row. -/
def unup (T : List (List Int)) (c : Int) : Nat → List (List Int) × Int
  | 0 => (T, c)
  | k + 1 => unup (T.set k ((T.getD k []).set (pos (T.getD k []) c - 1) c)) ((T.getD k []).getD (pos (T.getD k []) c - 1) 0) k
def cutL (T : List (List Int)) (k : Nat) : List (List Int) := T.set k ((T.getD k []).take ((T.getD k []).length - 1))
def takeT (T : List (List Int)) (k : Nat) : List (List Int) × Int := unup (cutL T k) (lastD (T.getD k [])) k
/-- In which row a number stands. -/
def rowOf (S : List (List Int)) (i : Nat) : Nat := S.findIdx fun R => decide ((i : Int) ∈ R)
def unpack (S : List (List Int)) : Nat → List (List Int) → List Int
  | 0, _ => []
  | i + 1, T => unpack S i (takeT T (rowOf S i)).1 ++ [(takeT T (rowOf S i)).2]
/-- The table that is left. -/
def left (S : List (List Int)) : Nat → Nat → List (List Int) → List (List Int)
  | 0, _, T => T
  | d + 1, i, T => left S d (i - 1) (takeT T (rowOf S (i - 1))).1

/-- A table in order, with empty rows below. -/
structure Ok (T : List (List Int)) : Prop where
  rows : Go.Gr.Rows T
  cols : ∀ j, Over (T.getD j []) (T.getD (j + 1) [])
  nd : T.flatten.Nodup
/-- On the way back. -/
structure Up (T : List (List Int)) (k : Nat) (c : Int) (q : Nat) : Prop where
  rows : Go.Gr.Rows T
  cols : ∀ j, Over (T.getD j []) (T.getD (j + 1) [])
  nd : (c :: T.flatten).Nodup
  left : 0 < k → q < (T.getD (k - 1) []).length ∧ (T.getD (k - 1) []).getD q 0 < c
  right : ∀ x, q ≤ x → x < (T.getD k []).length → c < (T.getD k []).getD x 0
  kl : k ≤ T.length

theorem flat_set_perm {T : List (List Int)} {k : Nat} (hk : k < T.length) (R : List Int) : ((T.set k R).flatten ++ T.getD k []).Perm (T.flatten ++ R) := by
  induction T generalizing k with
  | nil => simp at hk
  | cons S T ih =>
    cases k with
    | zero =>
      simp only [List.set_cons_zero, List.flatten_cons, List.getD_cons_zero, List.append_assoc]
      have h1 : (R ++ (T.flatten ++ S)).Perm (R ++ (S ++ T.flatten)) := List.Perm.append_left _ List.perm_append_comm
      refine h1.trans ?_
      have h2 : (R ++ (S ++ T.flatten)).Perm ((S ++ T.flatten) ++ R) := List.perm_append_comm
      simpa using h2
    | succ k =>
      simp only [List.set_cons_succ, List.flatten_cons, List.getD_cons_succ, List.append_assoc]
      exact List.Perm.append_left _ (ih (by simpa using hk))
theorem set_perm1 {R : List Int} {i : Nat} (hi : i < R.length) (c : Int) : (R.getD i 0 :: R.set i c).Perm (c :: R) := by
  induction R generalizing i with
  | nil => simp at hi
  | cons x R ih =>
    cases i with
    | zero => simp only [List.getD_cons_zero, List.set_cons_zero]; exact List.Perm.swap _ _ _
    | succ i =>
      simp only [List.getD_cons_succ, List.set_cons_succ]
      refine (List.Perm.swap _ _ _).trans ?_
      exact ((ih (by simpa using hi)).cons x).trans (List.Perm.swap _ _ _)
theorem perm_cancel {A B R S : List Int} {x y : Int} (h1 : (A ++ R).Perm (B ++ S)) (h2 : (x :: S).Perm (y :: R)) : (x :: A).Perm (y :: B) := by
  have h3 : (x :: A ++ (S ++ R)).Perm (y :: B ++ (S ++ R)) := by
    have e1 : (x :: A ++ (S ++ R)).Perm ((A ++ R) ++ (x :: S)) := by
      simp only [List.cons_append]
      have : (A ++ R ++ x :: S).Perm (x :: (A ++ R ++ S)) := List.perm_middle
      refine List.Perm.trans (List.Perm.cons x ?_) this.symm
      rw [List.append_assoc]
      exact List.Perm.append_left _ List.perm_append_comm
    have e2 : (y :: B ++ (S ++ R)).Perm ((B ++ S) ++ (y :: R)) := by
      simp only [List.cons_append]
      have : (B ++ S ++ y :: R).Perm (y :: (B ++ S ++ R)) := List.perm_middle
      refine List.Perm.trans (List.Perm.cons y ?_) this.symm
      rw [List.append_assoc]
    exact e1.trans ((h1.append h2).trans e2.symm)
  exact (List.perm_append_right_iff _).1 h3
theorem memL_flat {T : List (List Int)} {k : Nat} {x : Int} (hx : x ∈ T.getD k []) : x ∈ T.flatten := by
  rcases Nat.lt_or_ge k T.length with h | h
  · exact List.mem_flatten.2 ⟨_, getDL_mem h, hx⟩
  · rw [getDL_out h] at hx; simp at hx
theorem set_row {T : List (List Int)} (hT : Go.Gr.Rows T) {k : Nat} {R : List Int} (hR : Rise R) : Go.Gr.Rows (T.set k R) := by
  intro S hS
  rcases List.mem_or_eq_of_mem_set hS with h | rfl
  · exact hT S h
  · exact hR

theorem Up.step {T : List (List Int)} {k : Nat} {c : Int} {q : Nat} (u : Up T (k + 1) c q) : 1 ≤ pos (T.getD k []) c ∧ pos (T.getD k []) c ≤ (T.getD k []).length ∧ c ∉ T.getD k [] ∧ k < T.length := by
  have h1 := u.left (by omega)
  rw [Nat.add_sub_cancel] at h1
  refine ⟨?_, pos_le _ _, ?_, u.kl⟩
  · rcases Nat.lt_or_ge q (pos (T.getD k []) c) with h | h
    · omega
    · have h2 := pos_at (R := T.getD k []) (c := c) (by omega)
      rcases Nat.lt_or_eq_of_le h with h3 | h3
      · have := rise_getD (rowT_rise u.rows k) h3 h1.1; omega
      · rw [h3] at h2; omega
  · intro hm
    exact (List.nodup_cons.1 u.nd).1 (memL_flat hm)

theorem Up.next {T : List (List Int)} {k : Nat} {c : Int} {q : Nat} (u : Up T (k + 1) c q) : Up (T.set k ((T.getD k []).set (pos (T.getD k []) c - 1) c)) k ((T.getD k []).getD (pos (T.getD k []) c - 1) 0) (pos (T.getD k []) c - 1) := by
  obtain ⟨hp1, hpl, hc, hk⟩ := u.step
  have hR := rowT_rise u.rows k
  have hleft := u.left (by omega)
  rw [Nat.add_sub_cancel] at hleft
  have hlt : pos (T.getD k []) c - 1 < (T.getD k []).length := by omega
  have hlow : (T.getD k []).getD (pos (T.getD k []) c - 1) 0 < c := pos_lt (by omega)
  have hgt : ∀ x, pos (T.getD k []) c ≤ x → x < (T.getD k []).length → c < (T.getD k []).getD x 0 := by
    intro x h1 h2
    have h3 := pos_at (R := T.getD k []) (c := c) (by omega)
    have h4 : (T.getD k []).getD (pos (T.getD k []) c) 0 ≠ c := fun he => hc (he ▸ getD_mem (by omega))
    rcases Nat.lt_or_eq_of_le h1 with h5 | h5
    · have := rise_getD hR h5 h2; omega
    · subst h5; omega
  have hq : q ≤ pos (T.getD k []) c - 1 := by
    rcases Nat.lt_or_ge q (pos (T.getD k []) c) with h | h
    · omega
    · have := hgt q h hleft.1; omega
  have hrise : Rise ((T.getD k []).set (pos (T.getD k []) c - 1) c) := by
    refine rise_of_getD fun i j hij hj => ?_
    rw [List.length_set] at hj
    rw [getD_set hlt, getD_set hlt]
    split
    · rename_i h1
      rw [if_neg (by omega)]
      exact hgt j (by omega) hj
    · split
      · rename_i h1 h2
        exact pos_lt (by omega)
      · exact rise_getD hR hij hj
  have hat : ∀ j, ((T.set k ((T.getD k []).set (pos (T.getD k []) c - 1) c)).getD j []) = if k = j then (T.getD k []).set (pos (T.getD k []) c - 1) c else T.getD j [] := fun j => getDL_set hk
  refine ⟨set_row u.rows hrise, ?_, ?_, ?_, ?_, by rw [List.length_set]; omega⟩
  · intro j
    rw [hat, hat]
    by_cases h1 : k = j
    · subst h1
      rw [if_pos rfl, if_neg (by omega)]
      have hov := u.cols k
      refine ⟨by rw [List.length_set]; exact hov.1, ?_⟩
      intro x hx
      rw [getD_set hlt]
      split
      · rename_i h2; exact u.right x (by omega) hx
      · exact hov.2 x hx
    · rw [if_neg h1]
      by_cases h2 : k = j + 1
      · subst h2
        rw [if_pos rfl]
        have hov := u.cols j
        refine ⟨by rw [List.length_set]; exact hov.1, ?_⟩
        intro x hx
        rw [List.length_set] at hx
        have h3 := hov.2 x hx
        rw [getD_set hlt]
        split
        · rename_i h4; subst h4; omega
        · exact h3
      · rw [if_neg h2]; exact u.cols j
  · have h1 := flat_set_perm hk ((T.getD k []).set (pos (T.getD k []) c - 1) c)
    exact (perm_cancel h1 (set_perm1 hlt c)).nodup_iff.2 u.nd
  · intro h0
    rw [hat, if_neg (by omega)]
    have hov := u.cols (k - 1)
    rw [show k - 1 + 1 = k by omega] at hov
    exact ⟨by have := hov.1; omega, hov.2 _ hlt⟩
  · intro x h1 h2
    rw [hat, if_pos rfl] at h2 ⊢
    rw [List.length_set] at h2
    rw [getD_set hlt]
    split
    · exact hlow
    · exact rise_getD hR (by omega) h2
theorem Up.done {T : List (List Int)} {c : Int} {q : Nat} (u : Up T 0 c q) : Ok T ∧ c ∉ T.flatten := ⟨⟨u.rows, u.cols, (List.nodup_cons.1 u.nd).2⟩, (List.nodup_cons.1 u.nd).1⟩

/-- A corner may be taken. -/
theorem Ok.start {T : List (List Int)} (o : Ok T) {k : Nat} (hk : k < T.length) (h0 : 0 < (T.getD k []).length) (hc : (T.getD (k + 1) []).length < (T.getD k []).length) : Up (cutL T k) k (lastD (T.getD k [])) ((T.getD k []).length - 1) := by
  have hR := rowT_rise o.rows k
  have hat : ∀ j, (cutL T k).getD j [] = if k = j then (T.getD k []).take ((T.getD k []).length - 1) else T.getD j [] := fun j => getDL_set hk
  have htk : ∀ x, x < (T.getD k []).length - 1 → ((T.getD k []).take ((T.getD k []).length - 1)).getD x 0 = (T.getD k []).getD x 0 := by
    intro x hx; rw [List.getD_eq_getElem?_getD, List.getElem?_take, if_pos hx, ← List.getD_eq_getElem?_getD]
  have htl : ((T.getD k []).take ((T.getD k []).length - 1)).length = (T.getD k []).length - 1 := by rw [List.length_take]; omega
  refine ⟨set_row o.rows (hR.sublist (List.take_sublist _ _)), ?_, ?_, ?_, ?_, by unfold cutL; rw [List.length_set]; omega⟩
  · intro j
    rw [hat, hat]
    by_cases h1 : k = j
    · subst h1
      rw [if_pos rfl, if_neg (by omega)]
      have hov := o.cols k
      refine ⟨by rw [htl]; omega, ?_⟩
      intro x hx
      rw [htk x (by omega)]
      exact hov.2 x hx
    · rw [if_neg h1]
      by_cases h2 : k = j + 1
      · subst h2
        rw [if_pos rfl]
        have hov := o.cols j
        refine ⟨by rw [htl]; have := hov.1; omega, ?_⟩
        intro x hx
        rw [htl] at hx
        rw [htk x hx]
        exact hov.2 x (by omega)
      · rw [if_neg h2]; exact o.cols j
  · have h1 := flat_set_perm hk ((T.getD k []).take ((T.getD k []).length - 1))
    have h2 : (T.getD k []).take ((T.getD k []).length - 1) ++ [lastD (T.getD k [])] = T.getD k [] := by
      conv => rhs; rw [← List.take_append_drop ((T.getD k []).length - 1) (T.getD k [])]
      congr 1
      rw [drop_cons (by omega), List.drop_eq_nil_of_le (by omega)]
      rfl
    have h3 : (T.flatten ++ (T.getD k []).take ((T.getD k []).length - 1)).Perm ((cutL T k).flatten ++ T.getD k []) := h1.symm
    have h4 : (lastD (T.getD k []) :: (cutL T k).flatten).Perm T.flatten := by
      have h5 : ((cutL T k).flatten ++ [lastD (T.getD k [])] ++ (T.getD k []).take ((T.getD k []).length - 1)).Perm (T.flatten ++ (T.getD k []).take ((T.getD k []).length - 1)) := by
        refine List.Perm.trans ?_ h3.symm
        rw [List.append_assoc]
        refine List.Perm.append_left _ ?_
        conv => rhs; rw [← h2]
        exact List.perm_append_comm
      have h6 := (List.perm_append_right_iff _).1 h5
      exact List.perm_append_comm.trans h6
    exact h4.nodup_iff.2 o.nd
  · intro h0'
    rw [hat, if_neg (by omega)]
    have hov := o.cols (k - 1)
    rw [show k - 1 + 1 = k by omega] at hov
    exact ⟨by have := hov.1; omega, hov.2 _ (by omega)⟩
  · intro x h1 h2
    rw [hat, if_pos rfl, htl] at h2
    omega

/-- Lengths stay on the way back. -/
theorem unup_len (c : Int) : ∀ k T, (unup T c k).1.length = T.length ∧ ∀ j, ((unup T c k).1.getD j []).length = (T.getD j []).length := by
  intro k
  induction k generalizing c with
  | zero => intro T; exact ⟨rfl, fun _ => rfl⟩
  | succ k ih =>
    intro T
    rw [unup]
    obtain ⟨h1, h2⟩ := ih ((T.getD k []).getD (pos (T.getD k []) c - 1) 0) (T.set k ((T.getD k []).set (pos (T.getD k []) c - 1) c))
    refine ⟨by rw [h1, List.length_set], fun j => ?_⟩
    rw [h2]
    rcases Nat.lt_or_ge k T.length with hk | hk
    · rw [getDL_set hk]
      split
      · rename_i he; subst he; rw [List.length_set]
      · rfl
    · rw [List.set_eq_of_length_le hk]
theorem unup_ok {k : Nat} : ∀ {T : List (List Int)} {c : Int} {q : Nat}, Up T k c q → Ok (unup T c k).1 := by
  induction k with
  | zero => intro T c q u; exact u.done.1
  | succ k ih => intro T c q u; rw [unup]; exact ih u.next

/-- A table of places, seen up to a number. -/
def cnt (S : List (List Int)) (i r : Nat) : Nat := (S.getD r []).countP fun x => decide (x < (i : Int))
/-- A table is as long as another one up to a number. -/
structure Fit (S T : List (List Int)) (i : Nat) : Prop where
  ok : Ok T
  len : T.length = S.length
  row : ∀ r, (T.getD r []).length = cnt S i r

theorem flat_ne {T : List (List Int)} (h : T.flatten.Nodup) : ∀ i j x y, i < T.length → j < T.length → x < (T.getD i []).length → y < (T.getD j []).length → (i ≠ j ∨ x ≠ y) → (T.getD i []).getD x 0 ≠ (T.getD j []).getD y 0 := by
  obtain ⟨h1, h2⟩ := List.pairwise_flatten.1 h
  have hdis : ∀ i j x y, i < j → j < T.length → x < (T.getD i []).length → y < (T.getD j []).length → (T.getD i []).getD x 0 ≠ (T.getD j []).getD y 0 := by
    intro i j x y hij hj hx hy
    have h3 := List.pairwise_iff_getElem.1 h2 i j (by omega) hj hij
    have ei : T[i] = T.getD i [] := by rw [List.getD_eq_getElem?_getD, List.getElem?_eq_getElem (by omega)]; rfl
    have ej : T[j] = T.getD j [] := by rw [List.getD_eq_getElem?_getD, List.getElem?_eq_getElem hj]; rfl
    rw [ei, ej] at h3
    exact h3 _ (getD_mem hx) _ (getD_mem hy)
  intro i j x y hi hj hx hy hne
  rcases Nat.lt_trichotomy i j with hij | hij | hij
  · exact hdis i j x y hij hj hx hy
  · subst hij
    intro he
    have h3 := h1 _ (getDL_mem hi)
    have := nodup_inj h3 (i := x) (j := y) (x := (T.getD i []).getD x 0) (by rw [List.getD_eq_getElem?_getD (l := T.getD i []), List.getElem?_eq_getElem hx]; rfl) (by rw [he, List.getD_eq_getElem?_getD (l := T.getD i []), List.getElem?_eq_getElem hy]; rfl)
    omega
  · exact (hdis j i y x hij hi hy hx).symm
theorem tab_of {T : List (List Int)} (h : ∀ i, i < T.length → T.getD i [] ≠ [] ∧ Rise (T.getD i []) ∧ (i + 1 < T.length → Over (T.getD i []) (T.getD (i + 1) []))) : Tab T := by
  induction T with
  | nil => trivial
  | cons R T ih =>
    have h0 := h 0 (by simp)
    simp only [List.getD_cons_zero] at h0
    refine ⟨h0.1, h0.2.1, ?_, ih fun i hi => ?_⟩
    · cases T with
      | nil => exact ⟨by simp, by intro j hj; simp at hj⟩
      | cons S T => have := h0.2.2 (by simp); simpa using this
    · have := h (i + 1) (by simpa using hi)
      simp only [List.getD_cons_succ] at this
      exact ⟨this.1, this.2.1, fun h1 => this.2.2 (by simpa using h1)⟩

theorem tab_ok {T : List (List Int)} (h : Tab T) (hn : T.flatten.Nodup) : Ok T := by
  refine ⟨h.rows, ?_, hn⟩
  clear hn
  induction T with
  | nil => intro j; simp [Over]
  | cons R T ih =>
    intro j
    cases j with
    | zero =>
      have := h.2.2.1
      cases T with
      | nil => exact ⟨by simp, by intro j hj; simp at hj⟩
      | cons S T => simpa using this
    | succ j => simpa using ih h.2.2.2 j

/-- The row of a number of a table in order. -/
theorem row_facts {S : List (List Int)} (hS : Tab S) (hp : IsPack S.flatten) {i : Nat} (hi : i < S.flatten.length) : rowOf S i < S.length ∧ ((i : Int) ∈ S.getD (rowOf S i) []) ∧ (∀ r, (i : Int) ∈ S.getD r [] → r = rowOf S i) := by
  have hm : (i : Int) ∈ S.flatten := hp.onto (by omega) (by omega)
  obtain ⟨R, hR, hiR⟩ := List.mem_flatten.1 hm
  have hlt : rowOf S i < S.length := List.findIdx_lt_length_of_exists ⟨R, hR, by simpa using hiR⟩
  have hget : (i : Int) ∈ S.getD (rowOf S i) [] := by
    have := List.findIdx_getElem (xs := S) (p := fun R => decide ((i : Int) ∈ R)) (w := hlt)
    rw [List.getD_eq_getElem?_getD, List.getElem?_eq_getElem hlt]
    exact of_decide_eq_true this
  refine ⟨hlt, hget, ?_⟩
  intro r hr
  have hrl : r < S.length := by
    rcases Nat.lt_or_ge r S.length with h | h
    · exact h
    · rw [getDL_out h] at hr; simp at hr
  obtain ⟨x, hx, hxe⟩ := mem_getD hr
  obtain ⟨y, hy, hye⟩ := mem_getD hget
  by_cases hne : r = rowOf S i
  · exact hne
  · exact absurd (hxe.trans hye.symm) (flat_ne hp.1 r (rowOf S i) x y hrl hlt hx hy (.inl hne))

theorem cnt_rise {R : List Int} (hR : Rise R) (b : Int) : ∀ x, x < R.length → (R.getD x 0 < b ↔ x < R.countP fun y => decide (y < b)) := by
  induction R with
  | nil => intro x hx; simp at hx
  | cons y R ih =>
    obtain ⟨h1, h2⟩ := List.pairwise_cons.1 hR
    intro x hx
    rw [List.countP_cons]
    cases x with
    | zero =>
      simp only [List.getD_cons_zero]
      by_cases hy : y < b
      · simp [hy]
      · have : R.countP (fun y => decide (y < b)) = 0 := by
          rw [List.countP_eq_zero]
          intro z hz
          have := h1 z hz
          simp; omega
        simp [hy, this]
    | succ x =>
      simp only [List.getD_cons_succ]
      have h3 := ih h2 x (by simpa using hx)
      rw [h3]
      by_cases hy : y < b
      · simp [hy]
      · have : R.countP (fun y => decide (y < b)) = 0 := by
          rw [List.countP_eq_zero]
          intro z hz
          have := h1 z hz
          simp; omega
        simp [hy, this]
theorem cnt_succ {S : List (List Int)} (hS : Tab S) (hp : IsPack S.flatten) {i : Nat} (hi : i < S.flatten.length) (r : Nat) : cnt S (i + 1) r = if r = rowOf S i then cnt S i r + 1 else cnt S i r := by
  obtain ⟨h1, h2, h3⟩ := row_facts hS hp hi
  have key : ∀ R : List Int, R.Nodup → R.countP (fun x => decide (x < ((i + 1 : Nat) : Int))) = R.countP (fun x => decide (x < (i : Int))) + if (i : Int) ∈ R then 1 else 0 := by
    intro R
    induction R with
    | nil => intro _; rfl
    | cons x R ih =>
      intro hn
      obtain ⟨hn1, hn2⟩ := List.nodup_cons.1 hn
      rw [List.countP_cons, List.countP_cons, ih hn2]
      by_cases hx : x = i
      · subst hx
        rw [if_neg hn1]
        simp
        omega
      · have e : (x < ((i + 1 : Nat) : Int)) ↔ (x < (i : Int)) := by omega
        have e2 : ((i : Int) ∈ x :: R) ↔ ((i : Int) ∈ R) := by simp [Ne.symm hx]
        simp only [e, e2]
        omega
  have hn : (S.getD r []).Nodup := by
    have := rowT_rise hS.rows r
    exact this.imp (fun h => by omega)
  unfold cnt
  rw [key _ hn]
  by_cases hr : r = rowOf S i
  · rw [if_pos hr, if_pos (by rw [hr]; exact h2)]
  · rw [if_neg hr, if_neg (fun hm => hr (h3 r hm))]; rfl

/-- The next one to be taken is a corner. -/
theorem Fit.corner {S T : List (List Int)} (hS : Tab S) (hp : IsPack S.flatten) {i : Nat} (hi : i < S.flatten.length) (f : Fit S T (i + 1)) : rowOf S i < T.length ∧ 0 < (T.getD (rowOf S i) []).length ∧ (T.getD (rowOf S i + 1) []).length < (T.getD (rowOf S i) []).length := by
  obtain ⟨h1, h2, h3⟩ := row_facts hS hp hi
  have hso := tab_ok hS hp.1
  have hc := cnt_succ hS hp hi (rowOf S i)
  rw [if_pos rfl] at hc
  refine ⟨by rw [f.len]; exact h1, by rw [f.row]; omega, ?_⟩
  rw [f.row, f.row]
  have hc2 := cnt_succ hS hp hi (rowOf S i + 1)
  rw [if_neg (by omega)] at hc2
  rcases Nat.lt_or_ge (cnt S (i + 1) (rowOf S i + 1)) (cnt S (i + 1) (rowOf S i)) with h | h
  · exact h
  · exfalso
    -- the place of i in its row
    obtain ⟨y, hy, hye⟩ := mem_getD h2
    have hov := hso.cols (rowOf S i)
    have hle : cnt S (i + 1) (rowOf S i + 1) ≤ (S.getD (rowOf S i + 1) []).length := List.countP_le_length
    have hyc : y = cnt S i (rowOf S i) := by
      have e1 := cnt_rise (rowT_rise hS.rows (rowOf S i)) (i : Int) y hy
      have e2 := cnt_rise (rowT_rise hS.rows (rowOf S i)) ((i + 1 : Nat) : Int) y hy
      rw [hye] at e1 e2
      have e3 : ¬ y < cnt S i (rowOf S i) := by intro hq; have := e1.2 hq; omega
      have e4 : y < cnt S (i + 1) (rowOf S i) := e2.1 (by omega)
      omega
    have hyl : y < (S.getD (rowOf S i + 1) []).length := by omega
    have h4 := hov.2 y hyl
    rw [hye] at h4
    have e1 := (cnt_rise (rowT_rise hS.rows (rowOf S i + 1)) ((i + 1 : Nat) : Int) y hyl).2 (by show y < cnt S (i + 1) (rowOf S i + 1); omega)
    omega
theorem Fit.next {S T : List (List Int)} (hS : Tab S) (hp : IsPack S.flatten) {i : Nat} (hi : i < S.flatten.length) (f : Fit S T (i + 1)) : Fit S (takeT T (rowOf S i)).1 i := by
  obtain ⟨h1, h2, h3⟩ := f.corner hS hp hi
  have u := f.ok.start h1 h2 h3
  obtain ⟨h4, h5⟩ := unup_len (lastD (T.getD (rowOf S i) [])) (rowOf S i) (cutL T (rowOf S i))
  refine ⟨unup_ok u, ?_, ?_⟩
  · unfold takeT; rw [h4]; unfold cutL; rw [List.length_set]; exact f.len
  · intro r
    unfold takeT
    rw [h5]
    unfold cutL
    rw [getDL_set h1]
    have hc := cnt_succ hS hp hi r
    split
    · rename_i he
      rw [if_pos he.symm] at hc
      rw [List.length_take, f.row]
      subst he
      omega
    · rename_i he
      rw [if_neg (Ne.symm he)] at hc
      rw [f.row, hc]
theorem Fit.start {S T : List (List Int)} (hT : Tab T) (hn : T.flatten.Nodup) (hp : IsPack S.flatten) (hsh : shapeL T = shapeL S) : Fit S T S.flatten.length := by
  refine ⟨tab_ok hT hn, by have := congrArg List.length hsh; simpa [shapeL] using this, fun r => ?_⟩
  have h1 : ∀ T : List (List Int), (T.getD r []).length = (shapeL T).getD r 0 := by
    intro T; simp only [shapeL, List.getD_eq_getElem?_getD, List.getElem?_map]; cases T[r]? <;> rfl
  rw [h1, hsh, ← h1, cnt]
  symm
  rw [List.countP_eq_length]
  intro x hx
  have := hp.2 x (memL_flat hx)
  simpa using this.2

end Go.Am
