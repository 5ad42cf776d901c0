/-
  Layer 13, the plain part: the two tables of a pack lead back to it.
  Conditions: none.
-/
import Derived.Test.YtenkokebdgekbaaPt8
import Derived.Test.YtenkokebdgekbaaPt5
namespace Go.Am
open Go.Gr

theorem rows_flat {T : List (List Int)} (h : ∀ R ∈ T, R ≠ []) : T.length ≤ T.flatten.length := by
  induction T with
  | nil => exact Nat.le_refl _
  | cons R T ih =>
    have h1 := List.length_pos_iff.2 (h R (by simp))
    have h2 := ih (fun S hS => h S (by simp [hS]))
    simp only [List.length_cons, List.flatten_cons, List.length_append]
    omega
theorem tabOver {T : List (List Int)} (ht : Tab T) (j : Nat) : Over (T.getD j []) (T.getD (j + 1) []) := by
  induction T generalizing j with
  | nil => exact ⟨Nat.le_refl _, fun _ h => absurd h (Nat.not_lt_zero _)⟩
  | cons R T ih =>
    cases j with
    | zero =>
      have := ht.2.2.1
      cases T with
      | nil => exact this
      | cons S T => exact this
    | succ j => exact ih ht.2.2.2 j
theorem ord_row {T : List (List Int)} (ht : Tab T) {i : Nat} (hi : i < T.length) : 0 < (T.getD i []).length ∧ (0 < i → (T.getD i []).length ≤ (T.getD (i - 1) []).length) ∧ (T.getD i []).length ≤ T.flatten.length := by
  have hm : T.getD i [] ∈ T := by rw [List.getD_eq_getElem?_getD, List.getElem?_eq_getElem hi]; exact List.getElem_mem hi
  refine ⟨List.length_pos_iff.2 (tab_ne ht _ hm), ?_, ?_⟩
  · intro h0
    have := (tabOver ht (i - 1)).1
    rw [show i - 1 + 1 = i by omega] at this
    exact this
  · exact (List.sublist_flatten_of_mem hm).length_le
theorem ord_cell {T : List (List Int)} (ht : Tab T) (hp : IsPack T.flatten) {i k : Nat} (hi : i < T.length) (hk : k < (T.getD i []).length) :
    0 ≤ (T.getD i []).getD k 0 ∧ (T.getD i []).getD k 0 < T.flatten.length ∧ (T.getD i []).getD k 0 ∉ (T.take i).flatten ++ (T.getD i []).take k ∧ (0 < k → (T.getD i []).getD (k - 1) 0 ≤ (T.getD i []).getD k 0) ∧
      (0 < i → k < (T.getD (i - 1) []).length ∧ (T.getD (i - 1) []).getD k 0 ≤ (T.getD i []).getD k 0) := by
  have hm : T.getD i [] ∈ T := by rw [List.getD_eq_getElem?_getD, List.getElem?_eq_getElem hi]; exact List.getElem_mem hi
  have hx : (T.getD i []).getD k 0 ∈ T.getD i [] := by rw [List.getD_eq_getElem?_getD (i := k), List.getElem?_eq_getElem hk]; exact List.getElem_mem hk
  have hf : (T.getD i []).getD k 0 ∈ T.flatten := List.mem_flatten.2 ⟨_, hm, hx⟩
  obtain ⟨h1, h2⟩ := hp.2 _ hf
  refine ⟨h1, h2, ?_, ?_, ?_⟩
  · have hsub : ((T.take i).flatten ++ (T.getD i []).take k ++ [(T.getD i []).getD k 0]).Sublist T.flatten := by
      rw [List.append_assoc, ← take_snoc hk]
      have e1 : T.flatten = (T.take (i + 1)).flatten ++ (T.drop (i + 1)).flatten := by rw [← List.flatten_append, List.take_append_drop]
      rw [e1, flat_succ hi]
      exact ((List.Sublist.refl _).append (List.take_sublist _ _)).trans (List.sublist_append_left _ _)
    have hn := hp.1.sublist hsub
    intro hin
    exact (List.nodup_append.1 hn).2.2 _ hin _ (List.mem_singleton.2 rfl) rfl
  · intro h0
    exact Int.le_of_lt (rise_getD (ht.rows _ hm) (by omega) hk)
  · intro h0
    have := tabOver ht (i - 1)
    rw [show i - 1 + 1 = i by omega] at this
    exact ⟨Nat.lt_of_lt_of_le hk this.1, Int.le_of_lt (this.2 k hk)⟩

theorem unup_cons (R : List Int) : ∀ (k : Nat) (T : List (List Int)) (c : Int), unup (R :: T) c (k + 1) = (R.set (pos R (unup T c k).2 - 1) (unup T c k).2 :: (unup T c k).1, R.getD (pos R (unup T c k).2 - 1) 0) := by
  intro k
  induction k with
  | zero => intro T c; rfl
  | succ k ih =>
    intro T c
    rw [unup, List.getD_cons_succ, List.set_cons_succ, ih]
    rfl
theorem takeT_cons (R : List Int) (T : List (List Int)) (k : Nat) : takeT (R :: T) (k + 1) = (R.set (pos R (takeT T k).2 - 1) (takeT T k).2 :: (takeT T k).1, R.getD (pos R (takeT T k).2 - 1) 0) := by
  unfold takeT cutL
  rw [List.getD_cons_succ, List.set_cons_succ, unup_cons]
theorem takeT_zero (R : List Int) (T : List (List Int)) : takeT (R :: T) 0 = (R.take (R.length - 1) :: T, lastD R) := rfl

theorem take_ins (m : Nat) : ∀ (T : List (List Int)) (c : Int), Go.Gr.Rows T → T.flatten.Nodup → c ∉ T.flatten →
    takeT (ins T c ++ List.replicate m []) (insRow T c) = (T ++ (if insRow T c = T.length then [[]] else []) ++ List.replicate m [], c) := by
  intro T
  induction T with
  | nil => intro c _ _ _; rfl
  | cons R T ih =>
    intro c hr hn hc
    have hR := hr R (by simp)
    simp only [List.flatten_cons, List.mem_append, not_or] at hc
    obtain ⟨hc1, hc2⟩ := hc
    rw [List.flatten_cons, List.nodup_append] at hn
    obtain ⟨hn1, hn2, hn3⟩ := hn
    rw [ins_cons, insRow_cons]
    by_cases hp : pos R c = R.length
    · rw [if_pos hp, if_pos hp]
      rw [List.cons_append, takeT_zero]
      simp [lastD]
    · rw [if_neg hp, if_neg hp]
      have hpl : pos R c < R.length := by have := pos_le R c; omega
      have hb : R.getD (pos R c) 0 ∈ R := getD_mem hpl
      rw [List.cons_append, takeT_cons, ih _ (fun S hS => hr S (by simp [hS])) hn2 (fun h => hn3 _ hb _ h rfl)]
      have hcb : c < R.getD (pos R c) 0 := by
        have h1 := pos_at hpl
        have h2 : c ≠ R.getD (pos R c) 0 := fun h => hc1 (by rw [h]; exact hb)
        omega
      have hpos : pos (R.set (pos R c) c) (R.getD (pos R c) 0) = pos R c + 1 := by
        refine pos_unique ?_ ?_ (by rw [List.length_set]; omega)
        · intro j hj
          rw [getD_set hpl]
          by_cases h : pos R c = j
          · rw [if_pos h]; exact hcb
          · rw [if_neg h]
            have := pos_lt (R := R) (c := c) (j := j) (by omega)
            omega
        · intro h
          rw [List.length_set] at h
          rw [getD_set hpl, if_neg (by omega)]
          exact Int.le_of_lt (rise_getD hR (by omega) h)
      rw [hpos, Nat.add_sub_cancel, List.set_set, getD_set hpl, if_pos rfl]
      have hself : R.set (pos R c) (R.getD (pos R c) 0) = R := by
        apply List.ext_getElem?
        intro j
        rw [List.getElem?_set]
        split
        · rename_i h
          subst h
          simp [List.getD_eq_getElem?_getD, hpl]
        · rfl
      rw [hself]
      simp

/-- The numbers of the second table. -/
theorem recStep_row (S : List (List Int)) {k : Nat} (hk : k ≤ S.length) (i r : Nat) : (recStep S k i).getD r [] = if r = k then S.getD k [] ++ [(i : Int)] else S.getD r [] := by
  unfold recStep
  rw [getDL_set (roomy_lt hk), roomy_getD, roomy_getD]
  by_cases h : k = r
  · rw [if_pos h, if_pos h.symm]
  · rw [if_neg h, if_neg (Ne.symm h)]
def rowAt (l : List Int) (i : Nat) : Nat := insRow (insAll (l.take i)) (l.getD i 0)
theorem rowAt_le (l : List Int) {i : Nat} (hi : i ≤ l.length) : rowAt l i ≤ (recTo l i).length := by
  rw [shapes_len l hi]
  exact (shape_ins (insAll (l.take i)) (l.getD i 0)).1
theorem recTo_mem (l : List Int) : ∀ n, n ≤ l.length → ∀ r (x : Int), x ∈ (recTo l n).getD r [] ↔ ∃ i, i < n ∧ x = (i : Int) ∧ rowAt l i = r := by
  intro n
  induction n with
  | zero => intro _ r x; simp [recTo]
  | succ n ih =>
    intro hn r x
    rw [show (recTo l (n + 1)).getD r [] = _ from recStep_row _ (rowAt_le l (by omega)) n r]
    show x ∈ (if r = rowAt l n then (recTo l n).getD (rowAt l n) [] ++ [(n : Int)] else (recTo l n).getD r []) ↔ _
    by_cases h : r = rowAt l n
    · rw [if_pos h, List.mem_append, List.mem_singleton, ih (by omega)]
      constructor
      · rintro (⟨i, h1, h2, h3⟩ | h1)
        · exact ⟨i, by omega, h2, by rw [h3, h]⟩
        · exact ⟨n, by omega, h1, h.symm⟩
      · rintro ⟨i, h1, h2, h3⟩
        by_cases hi : i = n
        · right; rw [h2, hi]
        · left; exact ⟨i, by omega, h2, by rw [h3, h]⟩
    · rw [if_neg h, ih (by omega)]
      constructor
      · rintro ⟨i, h1, h2, h3⟩; exact ⟨i, by omega, h2, h3⟩
      · rintro ⟨i, h1, h2, h3⟩
        refine ⟨i, ?_, h2, h3⟩
        by_cases hi : i = n
        · subst hi; exact absurd h3.symm h
        · omega
theorem rowOf_rec {l : List Int} {i : Nat} (hi : i < l.length) : rowOf (recOf l) i = rowAt l i := by
  have hlen : rowAt l i < (recOf l).length := by
    have : (i : Int) ∈ (recOf l).getD (rowAt l i) [] := (recTo_mem l l.length (Nat.le_refl _) _ _).2 ⟨i, hi, rfl, rfl⟩
    apply Nat.lt_of_not_le
    intro hle
    rw [getDL_out hle] at this
    cases this
  unfold rowOf
  rw [List.findIdx_eq hlen]
  constructor
  · rw [decide_eq_true_iff]
    have := (recTo_mem l l.length (Nat.le_refl _) (rowAt l i) (i : Int)).2 ⟨i, hi, rfl, rfl⟩
    rw [List.getD_eq_getElem?_getD] at this
    unfold recOf at hlen ⊢
    rw [List.getElem?_eq_getElem hlen] at this
    exact this
  · intro j hj
    rw [decide_eq_false_iff_not]
    intro hm
    have hjl : j < (recTo l l.length).length := by unfold recOf at hlen; omega
    have h1 : (i : Int) ∈ (recTo l l.length).getD j [] := by rw [List.getD_eq_getElem?_getD, List.getElem?_eq_getElem hjl]; exact hm
    obtain ⟨i', h2, h3, h4⟩ := (recTo_mem l l.length (Nat.le_refl _) j (i : Int)).1 h1
    have : i' = i := by omega
    subst this
    omega

/-- The second table is in order. -/
theorem recTo_ok {l : List Int} (hn : l.Nodup) : ∀ n, n ≤ l.length → (∀ r, Rise ((recTo l n).getD r [])) ∧ (∀ r, Over ((recTo l n).getD r []) ((recTo l n).getD (r + 1) [])) := by
  intro n
  induction n with
  | zero => intro _; exact ⟨fun r => by simp [recTo], fun r => ⟨by simp [recTo], fun j hj => by simp [recTo] at hj⟩⟩
  | succ n ih =>
    intro hnl
    obtain ⟨h1, h2⟩ := ih (by omega)
    have hlt : ∀ r x, x ∈ (recTo l n).getD r [] → x < (n : Int) := by
      intro r x hx
      obtain ⟨i, hi, rfl, _⟩ := (recTo_mem l n (by omega) r x).1 hx
      omega
    have hrow : ∀ r, (recTo l (n + 1)).getD r [] = if r = rowAt l n then (recTo l n).getD (rowAt l n) [] ++ [(n : Int)] else (recTo l n).getD r [] := fun r => recStep_row _ (rowAt_le l (by omega)) n r
    have hlen : ∀ r, ((recTo l (n + 1)).getD (r + 1) []).length ≤ ((recTo l (n + 1)).getD r []).length := by
      intro r
      rw [shapes_row l hnl, shapes_row l hnl]
      exact (tabOver (insAll_facts hn hnl).1 r).1
    refine ⟨?_, ?_⟩
    · intro r
      rw [hrow]
      split
      · refine List.pairwise_append.2 ⟨h1 _, by simp, ?_⟩
        intro a ha b hb
        simp only [List.mem_singleton] at hb
        subst hb
        exact hlt _ a ha
      · exact h1 r
    · intro r
      refine ⟨hlen r, ?_⟩
      intro j hj
      have hjl := Nat.lt_of_lt_of_le hj (hlen r)
      rw [hrow (r + 1)] at hj ⊢
      rw [hrow r] at hjl ⊢
      by_cases ha : r + 1 = rowAt l n
      · rw [if_pos ha] at hj ⊢
        rw [if_neg (by omega)] at hjl ⊢
        rw [List.length_append, List.length_singleton] at hj
        rw [getD_snoc]
        split
        · exact hlt r _ (getD_mem hjl)
        · have := (h2 r).2 j (by rw [ha]; omega)
          rwa [ha] at this
      · rw [if_neg ha] at hj ⊢
        by_cases hb : r = rowAt l n
        · rw [if_pos hb, getD_snoc]
          have h3 := (h2 r).1
          rw [if_neg (by rw [← hb]; omega), ← hb]
          exact (h2 r).2 j hj
        · rw [if_neg hb]
          exact (h2 r).2 j hj
theorem recOf_tab {l : List Int} (hn : l.Nodup) : Tab (recOf l) := by
  obtain ⟨h1, h2⟩ := recTo_ok hn l.length (Nat.le_refl _)
  refine tab_of fun i hi => ⟨?_, h1 i, fun _ => h2 i⟩
  have h3 := shapes_row l (Nat.le_refl l.length) i
  have h4 := shapes_len l (Nat.le_refl l.length)
  have ht := (insAll_facts hn (Nat.le_refl l.length)).1
  have hi' : i < (insAll (l.take l.length)).length := by rw [← h4]; exact hi
  have h5 := tab_ne ht _ (getDL_mem hi')
  intro h6
  have h7 : ((recTo l l.length).getD i []).length = 0 := by
    show ((recOf l).getD i []).length = 0
    rw [h6]; rfl
  rw [h3] at h7
  exact h5 (List.length_eq_zero_iff.1 h7)

theorem roomy_flat (S : List (List Int)) (k : Nat) : (roomy S k).flatten = S.flatten := by unfold roomy; split <;> simp
theorem recStep_perm (S : List (List Int)) {k : Nat} (hk : k ≤ S.length) (i : Nat) : (recStep S k i).flatten.Perm (S.flatten ++ [(i : Int)]) := by
  have h1 := flat_set_perm (roomy_lt hk) ((roomy S k).getD k [] ++ [(i : Int)])
  have h2 : ((recStep S k i).flatten ++ (roomy S k).getD k []).Perm ((S.flatten ++ [(i : Int)]) ++ (roomy S k).getD k []) := by
    refine h1.trans ?_
    rw [roomy_flat, List.append_assoc]
    exact List.Perm.append_left _ List.perm_append_comm
  exact (List.perm_append_right_iff _).1 h2
theorem recTo_perm (l : List Int) : ∀ n, n ≤ l.length → (recTo l n).flatten.Perm (iota n) := by
  intro n
  induction n with
  | zero => intro _; exact List.Perm.refl _
  | succ n ih =>
    intro hn
    rw [recTo, iota_succ]
    exact (recStep_perm _ (rowAt_le l (by omega)) n).trans ((ih (by omega)).append_right _)
theorem iota_pack (n : Nat) : IsPack (iota n) := by
  refine ⟨iota_nodup n, ?_⟩
  intro x hx
  rw [iota_len]
  exact iota_mem.1 hx
theorem IsPack.perm {a b : List Int} (h : IsPack a) (hp : a.Perm b) : IsPack b := ⟨hp.nodup_iff.1 h.1, fun x hx => by rw [← hp.length_eq]; exact h.2 x (hp.mem_iff.2 hx)⟩
theorem recOf_pack (l : List Int) : IsPack (recOf l).flatten ∧ (recOf l).flatten.length = l.length := by
  have h := recTo_perm l l.length (Nat.le_refl _)
  exact ⟨(iota_pack l.length).perm h.symm, by unfold recOf; rw [h.length_eq, iota_len]⟩
theorem word_flat (T : List (List Int)) : (wordT T).Perm T.flatten := by
  unfold wordT
  exact (List.reverse_perm T).flatten
theorem insAll_pack {l : List Int} (hp : IsPack l) : Tab (insAll l) ∧ IsPack (insAll l).flatten ∧ (insAll l).flatten.length = l.length := by
  have h1 := (insAll_facts hp.1 (Nat.le_refl l.length))
  rw [List.take_length] at h1
  have h2 := (word_flat (insAll l)).symm.trans h1.2.2.2
  exact ⟨h1.1, hp.perm h2.symm, h2.length_eq⟩
theorem stdE_of {T : List (List Int)} (ht : Tab T) (hp : IsPack T.flatten) (h0 : T ≠ []) (h9 : T.flatten.length ≤ 9) : stdE T = 0 := by
  have hr : rowsE T = 0 := by
    refine firstE_none fun i hi => ?_
    obtain ⟨h1, h2, _⟩ := ord_row ht hi
    unfold rowBad
    rw [if_neg (by omega), if_neg (by intro h; have := h2 h.1; omega)]
  have ho : ordB T = false := by
    refine ordB_false fun i hi k hk => ?_
    obtain ⟨_, _, _, h4, h5⟩ := ord_cell ht hp hi hk
    intro hb
    rcases hb with ⟨a, b⟩ | ⟨a, b⟩
    · have := h4 a; omega
    · have := (h5 a).2; omega
  unfold stdE
  rw [if_neg (fun h => h0 (List.length_eq_zero_iff.1 h)), if_pos hr, if_neg (by omega), if_pos (eachE_of hp), ho]
  rfl
/-- A pack out of its tables. -/
theorem unpack_rec {l : List Int} (hn : l.Nodup) : ∀ i, i ≤ l.length → ∀ m, unpack (recOf l) i (insAll (l.take i) ++ List.replicate m []) = l.take i := by
  intro i
  induction i with
  | zero => intro _ m; rfl
  | succ i ih =>
    intro hi m
    have hf := insAll_facts hn (i := i) (by omega)
    have hnd : (l.take (i + 1)).Nodup := hn.sublist (List.take_sublist _ _)
    rw [take_snoc (by omega)] at hnd
    have hfl := (word_flat (insAll (l.take i))).symm.trans hf.2.2.2
    have hc : l.getD i 0 ∉ (insAll (l.take i)).flatten := by
      intro h
      exact (List.nodup_append.1 hnd).2.2 _ (hfl.mem_iff.1 h) _ (List.mem_singleton.2 rfl) rfl
    have h1 := take_ins m (insAll (l.take i)) (l.getD i 0) hf.1.rows (hfl.nodup_iff.2 (List.nodup_append.1 hnd).1) hc
    rw [unpack, rowOf_rec (by omega), insAll_take (by omega)]
    unfold rowAt
    rw [h1, take_snoc (by omega)]
    simp only
    congr 1
    split
    · rw [List.append_assoc]
      exact ih (by omega) (m + 1)
    · rw [List.append_nil]
      exact ih (by omega) m
theorem unpack_back {l : List Int} (hn : l.Nodup) : unpack (recOf l) l.length (insAll l) = l := by
  have := unpack_rec hn l.length (Nat.le_refl _) 0
  simpa using this
end Go.Am
