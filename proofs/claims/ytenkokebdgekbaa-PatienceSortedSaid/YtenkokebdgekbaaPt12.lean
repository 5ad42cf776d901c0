/-
  Layer 13, the plain part: the fewest cards that are moved, found by trying all sets.
  Conditions: none.
-/
import Derived.Test.YtenkokebdgekbaaPt5
namespace Go.Am
open Go.Gr

theorem filter_sub {l b : List Int} (h : b.Sublist l) (hn : l.Nodup) : l.filter (fun x => decide (x ∈ b)) = b := by
  induction h with
  | slnil => rfl
  | cons a s ih =>
    obtain ⟨h1, h2⟩ := List.nodup_cons.1 hn
    rw [List.filter_cons, if_neg (by simpa using fun hq => h1 (s.subset hq))]
    exact ih h2
  | cons_cons a s ih =>
    obtain ⟨h1, h2⟩ := List.nodup_cons.1 hn
    rw [List.filter_cons, if_pos (by simp)]
    congr 1
    refine (List.filter_congr ?_).trans (ih h2)
    intro x hx
    refine decide_eq_decide.2 ⟨fun h => ?_, fun h => List.mem_cons_of_mem _ h⟩
    rcases List.mem_cons.1 h with rfl | h
    · exact absurd hx h1
    · exact h
theorem rest_len {l r : List Int} (hp : IsPack l) (h : r.Sublist (iota l.length)) : (restL l r).length + r.length = l.length := by
  have hr : r.Nodup := (iota_nodup l.length).sublist h
  have h1 : (l.filter fun x => decide (x ∈ r)).Perm r := by
    refine (List.perm_ext_iff_of_nodup (hp.1.sublist List.filter_sublist) hr).2 fun x => ?_
    rw [List.mem_filter, decide_eq_true_eq]
    refine ⟨fun h => h.2, fun hx => ⟨?_, hx⟩⟩
    have := iota_mem.1 (h.subset hx)
    exact hp.onto this.1 this.2
  have h2 := List.length_eq_countP_add_countP (fun x => decide (x ∈ r)) (l := l)
  rw [List.countP_eq_length_filter, List.countP_eq_length_filter, h1.length_eq] at h2
  have h3 : (restL l r).length = (l.filter fun a => decide (¬ decide (a ∈ r) = true)).length := by
    unfold restL
    congr 1
    refine List.filter_congr fun x _ => ?_
    by_cases hx : x ∈ r <;> simp [hx]
  omega
theorem movedOf_is {l : List Int} (hc : checkE l = 0) : (movedOf l).Sublist (iota l.length) ∧ sortsE l (movedOf l) = 0 ∧ ∀ r : List Int, r.Sublist (iota l.length) → sortsE l r = 0 → fewer r (movedOf l) = false := by
  have hp := (checkE_ok hc).2.2
  have ht := pickB_top (bt := fewer) fewer_trans fewer_self (ok := fun r => decide (sortsE l r = 0)) ((List.range (2 ^ l.length)).map (rowS (iota l.length))) (iota l.length)
  have hb : (movedOf l).Sublist (iota l.length) ∧ sortsE l (movedOf l) = 0 := by
    rcases pickB_mem fewer (fun r => decide (sortsE l r = 0)) ((List.range (2 ^ l.length)).map (rowS (iota l.length))) (iota l.length) with h | h
    · have e : movedOf l = iota l.length := h
      rw [e]
      refine ⟨.refl _, (sortsE_sub hc (.refl _)).2 ?_⟩
      have : restL l (iota l.length) = [] := by
        refine List.filter_eq_nil_iff.2 fun x hx => ?_
        simpa using iota_mem.2 (hp.2 x hx)
      rw [this]
      exact List.Pairwise.nil
    · obtain ⟨s, _, hs⟩ := List.mem_map.1 h.1
      have e : movedOf l = rowS (iota l.length) s := hs.symm
      have h2 := of_decide_eq_true h.2
      refine ⟨by rw [e]; exact rowS_sub _ _, h2⟩
  refine ⟨hb.1, hb.2, ?_⟩
  intro r hr hs
  obtain ⟨n, hn, rfl⟩ := rowS_onto _ r hr
  rw [iota_len] at hn
  exact ht.2 _ (List.mem_map.2 ⟨n, List.mem_range.2 hn, rfl⟩) (decide_eq_true hs)
theorem moved_size {l : List Int} (hc : checkE l = 0) : (movedOf l).length + (bestOf l false).length = l.length := by
  obtain ⟨h1, h2, h3⟩ := movedOf_is hc
  have hp := (checkE_ok hc).2.2
  have hb := bestOf_is l false
  have hr := rest_len hp h1
  have hrise := (sortsE_sub hc h1).1 h2
  have hrs : (restL l (movedOf l)).Sublist l := List.filter_sublist
  have ht := hb.top _ hrs ((rise_runs (hp.1.sublist hrs)).2 hrise)
  have hle : ¬ (bestOf l false).length < (restL l (movedOf l)).length := fun h => by rw [better_long h] at ht; cases ht
  let cs := (iota l.length).filter fun x => !decide (x ∈ bestOf l false)
  have hcs : cs.Sublist (iota l.length) := List.filter_sublist
  have he : restL l cs = bestOf l false := by
    refine Eq.trans ?_ (filter_sub hb.sub hp.1)
    refine List.filter_congr fun x hx => ?_
    have hxi : x ∈ iota l.length := iota_mem.2 (hp.2 x hx)
    have : x ∈ cs ↔ ¬ x ∈ bestOf l false := by
      show x ∈ (iota l.length).filter _ ↔ _
      rw [List.mem_filter]
      simp [hxi]
    by_cases hq : x ∈ bestOf l false <;> simp [this, hq]
  have hok : sortsE l cs = 0 := (sortsE_sub hc hcs).2 (by rw [he]; exact (rise_runs (hp.1.sublist hb.sub)).1 hb.run)
  have hf := h3 cs hcs hok
  have hlc := rest_len hp hcs
  rw [he] at hlc
  have : ¬ cs.length < (movedOf l).length := fun h => by rw [fewer_short h] at hf; cases hf
  omega

/-- The fewest so far. -/
def fstTo (l : List Int) : Nat → Option (List Int)
  | 0 => none
  | s + 1 => if sortsE l (rowS (iota l.length) s) = 0 ∧ (fstTo l s = none ∨ fewer (rowS (iota l.length) s) ((fstTo l s).getD []) = true) then some (rowS (iota l.length) s) else fstTo l s
theorem fst_yes {l : List Int} {s : Nat} (h1 : sortsE l (rowS (iota l.length) s) = 0) (h2 : fstTo l s = none ∨ fewer (rowS (iota l.length) s) ((fstTo l s).getD []) = true) : fstTo l (s + 1) = some (rowS (iota l.length) s) := if_pos ⟨h1, h2⟩
theorem fst_no {l : List Int} {s : Nat} (h : ¬ (sortsE l (rowS (iota l.length) s) = 0 ∧ (fstTo l s = none ∨ fewer (rowS (iota l.length) s) ((fstTo l s).getD []) = true))) : fstTo l (s + 1) = fstTo l s := if_neg h
theorem fst_len (l : List Int) (s : Nat) : ((fstTo l s).getD []).length ≤ l.length := by
  induction s with
  | zero => exact Nat.zero_le _
  | succ s ih =>
    rw [fstTo]
    split
    · have := (rowS_sub (iota l.length) s).length_le
      rw [iota_len] at this
      exact this
    · exact ih
theorem fst_end {l : List Int} (hc : checkE l = 0) : fstTo l (2 ^ l.length) = some (movedOf l) := by
  have inv : ∀ s, (fstTo l s = none ∧ movedTo l s = iota l.length ∧ ∀ j, j < s → sortsE l (rowS (iota l.length) j) ≠ 0) ∨ fstTo l s = some (movedTo l s) := by
    intro s
    induction s with
    | zero => exact .inl ⟨rfl, rfl, by omega⟩
    | succ s ih =>
      by_cases hs : sortsE l (rowS (iota l.length) s) = 0
      · rcases ih with ⟨h1, h2, h3⟩ | h1
        · right
          rw [fst_yes hs (.inl h1), movedTo_succ, h2, decide_eq_true hs, Bool.true_and]
          by_cases hf : fewer (rowS (iota l.length) s) (iota l.length) = true
          · rw [if_pos hf]
          · rw [if_neg hf]
            have hsub := rowS_sub (iota l.length) s
            rcases Nat.lt_or_eq_of_le hsub.length_le with h4 | h4
            · exact absurd (fewer_short h4) hf
            · rw [hsub.eq_of_length h4]
        · right
          rw [movedTo_succ, decide_eq_true hs, Bool.true_and]
          by_cases hf : fewer (rowS (iota l.length) s) (movedTo l s) = true
          · rw [if_pos hf, fst_yes hs (.inr (by rw [h1]; exact hf))]
          · rw [if_neg hf, fst_no, h1]
            rintro ⟨_, h2 | h2⟩
            · rw [h1] at h2; cases h2
            · rw [h1] at h2; exact hf h2
      · rw [movedTo_succ, decide_eq_false hs, Bool.false_and, if_neg Bool.false_ne_true, fst_no (fun h => hs h.1)]
        rcases ih with ⟨h1, h2, h3⟩ | h1
        · refine .inl ⟨h1, h2, ?_⟩
          intro j hj
          rcases Nat.lt_succ_iff_lt_or_eq.1 hj with h | rfl
          · exact h3 j h
          · exact hs
        · exact .inr h1
  rcases inv (2 ^ l.length) with ⟨_, _, h3⟩ | h
  · obtain ⟨h1, h2, _⟩ := movedOf_is hc
    obtain ⟨s, hs, he⟩ := rowS_onto _ _ h1
    rw [iota_len] at hs
    exact absurd (by rw [he]; exact h2) (h3 s hs)
  · exact h
theorem mem_rowS {n s k : Nat} (hk : k < n) : (k : Int) ∈ rowS (iota n) s ↔ s.testBit k = true := by
  unfold rowS rowT
  rw [iota_len]
  simp only [List.mem_map, List.mem_filter, List.mem_range]
  constructor
  · rintro ⟨j, ⟨hj, hb⟩, he⟩
    rw [iota_getD hj] at he
    have : j = k := by omega
    subst this
    exact hb
  · intro h
    exact ⟨k, ⟨hk, h⟩, iota_getD hk⟩
theorem sorts_runs {l r : List Int} (hc : checkE l = 0) (h : r.Sublist (iota l.length)) : decide (sortsE l r = 0) = runsB (restL l r) false := by
  have hp : preE l r = 0 := by rw [preE, if_pos hc, cardsE_sub h]
  rw [sortsE, if_pos hp]
  cases runsB (restL l r) false <;> simp

end Go.Am
