/-
  Layer 13, the plain part: which cards sort a pack if they are moved; the program's and the reference's fewest are the same.
  Conditions: none.
-/
import Derived.Test.YtenkokebdgekbaaPt4
namespace Go.Am
open Go.Gr

/-- The first error of some. -/
def firstE (b : Nat → Option Int) (n : Nat) : Int := ((List.range n).findSome? b).getD 0
theorem firstE_none {b : Nat → Option Int} {n : Nat} (h : ∀ j, j < n → b j = none) : firstE b n = 0 := by
  rw [firstE, List.findSome?_eq_none_iff.2 (by intro x hx; exact h x (List.mem_range.1 hx))]; rfl
theorem firstE_at {b : Nat → Option Int} {n i : Nat} {e : Int} (hi : i < n) (h : ∀ j, j < i → b j = none) (he : b i = some e) : firstE b n = e := by
  have hr : List.range n = List.range i ++ i :: (List.range' (i + 1) (n - i - 1)) := by
    have ha := List.range'_append_1 (s := 0) (m := i) (n := n - i - 1 + 1)
    rw [Nat.zero_add] at ha
    rw [List.range_eq_range', List.range_eq_range', ← List.range'_succ, ha]
    congr 1; omega
  rw [firstE, hr, List.findSome?_append, List.findSome?_eq_none_iff.2 (by intro x hx; exact h x (List.mem_range.1 hx))]
  simp [List.findSome?_cons, he]
theorem firstE_zero {b : Nat → Option Int} {n : Nat} (hb : ∀ i, b i ≠ some 0) (h : firstE b n = 0) : ∀ j, j < n → b j = none := by
  have key : ∀ i, i ≤ n → ∀ j, j < i → b j = none := by
    intro i
    induction i with
    | zero => intro _ j hj; omega
    | succ i ih =>
      intro hi j hj
      have ih' := ih (by omega)
      by_cases hji : j = i
      · subst hji
        cases hq : b j with
        | none => rfl
        | some e =>
          have h1 := firstE_at (n := n) (by omega) ih' hq
          rw [h] at h1
          subst h1
          exact absurd hq (hb j)
      · exact ih' j (by omega)
  exact fun i hi => key n (Nat.le_refl _) i hi

def cardBad (n : Nat) (cs : List Int) (i : Nat) : Option Int := if 0 ≤ cs.getD i 0 ∧ cs.getD i 0 ≤ (n : Int) - 1 then (if 0 < i ∧ cs.getD i 0 ≤ cs.getD (i - 1) 0 then some 7 else none) else some 2
def cardsE (n : Nat) (cs : List Int) : Int := firstE (cardBad n cs) cs.length
def restL (l cs : List Int) : List Int := l.filter fun x => !decide (x ∈ cs)
/-- The error ahead of the last one. -/
def preE (l cs : List Int) : Int := if checkE l = 0 then cardsE l.length cs else checkE l
def sortsE (l cs : List Int) : Int := if preE l cs = 0 then (if runsB (restL l cs) false then 0 else 14) else preE l cs

theorem restL_snoc (l cs : List Int) (x : Int) : restL (l ++ [x]) cs = if x ∈ cs then restL l cs else restL l cs ++ [x] := by
  unfold restL
  rw [List.filter_append]
  by_cases h : x ∈ cs <;> simp [h]
theorem restL_len (l cs : List Int) : (restL l cs).length ≤ l.length := List.length_filter_le _ _
theorem lastD_rest {l : List Int} (hn : l.Nodup) {i : Nat} (hi : i < l.length) (cs : List Int) (h : restL (l.take i) cs ≠ []) : lastD (restL (l.take i) cs) ≠ l.getD i 0 := by
  intro he
  have h1 : lastD (restL (l.take i) cs) ∈ restL (l.take i) cs := getD_mem (by have := List.length_pos_iff.2 h; omega)
  have h2 := (List.mem_filter.1 h1).1
  rw [he] at h2
  obtain ⟨j, hj, hje⟩ := mem_getD h2
  rw [List.length_take] at hj
  have : (l.take i).getD j 0 = l.getD j 0 := by simp [List.getD_eq_getElem?_getD, List.getElem?_take, show j < i by omega]
  rw [this] at hje
  have := nodup_inj hn (i := j) (j := i) (x := l.getD i 0) (by rw [← hje, List.getD_eq_getElem?_getD, List.getElem?_eq_getElem (by omega)]; rfl) (by rw [List.getD_eq_getElem?_getD, List.getElem?_eq_getElem hi]; rfl)
  omega
theorem runsB_snoc (l : List Int) (x : Int) (f : Bool) : runsB (l ++ [x]) f = (runsB l f && (decide (l = []) || (decide (lastD l < x) != f))) := by
  have h : ∀ i, i < l.length → (l ++ [x]).getD i 0 = l.getD i 0 := by
    intro i hi; rw [List.getD_eq_getElem?_getD, List.getElem?_append_left hi, ← List.getD_eq_getElem?_getD]
  have hx : (l ++ [x]).getD l.length 0 = x := by rw [List.getD_eq_getElem?_getD, List.getElem?_append_right (Nat.le_refl _)]; simp
  rw [runsB, List.length_append, List.length_singleton, List.range_succ, List.all_append, List.all_cons, List.all_nil, Bool.and_true]
  congr 1
  · unfold runsB
    have : ∀ i ∈ List.range l.length, (decide (i = 0) || (decide ((l ++ [x]).getD (i - 1) 0 < (l ++ [x]).getD i 0) != f)) = (decide (i = 0) || (decide (l.getD (i - 1) 0 < l.getD i 0) != f)) := by
      intro i hi
      rw [List.mem_range] at hi
      rw [h i hi, h (i - 1) (by omega)]
    rw [Bool.eq_iff_iff, List.all_eq_true, List.all_eq_true]
    constructor
    · intro hq i hi; rw [← this i hi]; exact hq i hi
    · intro hq i hi; rw [this i hi]; exact hq i hi
  · rw [hx]
    cases l with
    | nil => rfl
    | cons y l =>
      rw [h _ (by simp)]
      simp [lastD]

theorem runsB_pre {l m : List Int} {f : Bool} (h : runsB l f = false) : runsB (l ++ m) f = false := by
  induction m using snoc_ind with
  | h0 => simpa using h
  | h1 m x ih => rw [← List.append_assoc, runsB_snoc, ih]; rfl
theorem runs_bad {l cs : List Int} {i : Nat} (hi : i < l.length) (hc : l.getD i 0 ∉ cs) (he : restL (l.take i) cs ≠ []) (hlt : ¬ lastD (restL (l.take i) cs) < l.getD i 0) : runsB (restL l cs) false = false := by
  have h1 : restL l cs = restL (l.take (i + 1)) cs ++ restL (l.drop (i + 1)) cs := by
    unfold restL; rw [← List.filter_append, List.take_append_drop]
  rw [h1]
  apply runsB_pre
  rw [take_snoc hi, restL_snoc, if_neg hc, runsB_snoc, decide_eq_false he, decide_eq_false hlt]
  simp
/-- Fewer, or as many and ahead. -/
def fewer (a b : List Int) : Bool := decide (a.length < b.length) || (decide (a.length = b.length) && lexB a b)
theorem fewer_iff {a b : List Int} : fewer a b = true ↔ a.length < b.length ∨ (a.length = b.length ∧ lexB a b = true) := by simp [fewer]
theorem fewer_short {a b : List Int} (h : a.length < b.length) : fewer a b = true := fewer_iff.2 (.inl h)
theorem fewer_eq {a b : List Int} (h : a.length = b.length) : fewer a b = lexB a b := by simp [fewer, h]
theorem fewer_long {a b : List Int} (h : ¬ a.length < b.length) (h2 : ¬ a.length = b.length) : fewer a b = false := by simp [fewer, h, h2]
theorem fewer_self (a : List Int) : fewer a a = false := by rw [fewer_eq rfl, lexB_self]
theorem fewer_trans {a b c : List Int} (h1 : fewer a b = true) (h2 : fewer b c = true) : fewer a c = true := by
  rw [fewer_iff] at *
  rcases h1 with h1 | ⟨h1, h3⟩ <;> rcases h2 with h2 | ⟨h2, h4⟩
  · exact .inl (by omega)
  · exact .inl (by omega)
  · exact .inl (by omega)
  · exact .inr ⟨by omega, lexB_trans h3 h4⟩
theorem fewer_total {a b : List Int} (h : a ≠ b) : fewer a b = true ∨ fewer b a = true := by
  rw [fewer_iff, fewer_iff]
  rcases Nat.lt_trichotomy a.length b.length with h1 | h1 | h1
  · exact .inl (.inl h1)
  · rcases lexB_total h1 h with h2 | h2
    · exact .inl (.inr ⟨h1, h2⟩)
    · exact .inr (.inr ⟨h1.symm, h2⟩)
  · exact .inr (.inl h1)

def movedTo (l : List Int) (n : Nat) : List Int := pickB fewer (fun r => decide (sortsE l r = 0)) ((List.range n).map (rowS (iota l.length))) (iota l.length)
theorem movedTo_succ (l : List Int) (n : Nat) : movedTo l (n + 1) = if decide (sortsE l (rowS (iota l.length) n) = 0) && fewer (rowS (iota l.length) n) (movedTo l n) then rowS (iota l.length) n else movedTo l n := by
  unfold movedTo
  rw [List.range_succ, List.map_append]
  exact pickB_snoc _ _ _ _ _
def movedOf (l : List Int) : List Int := movedTo l (2 ^ l.length)
theorem movedTo_len (l : List Int) (n : Nat) : (movedTo l n).length ≤ l.length := by
  unfold movedTo
  rcases pickB_mem fewer (fun r => decide (sortsE l r = 0)) ((List.range n).map (rowS (iota l.length))) (iota l.length) with h | h
  · rw [h, iota_len]; exact Nat.le_refl _
  · obtain ⟨s, _, hs⟩ := List.mem_map.1 h.1
    rw [← hs]
    have := (rowS_sub (iota l.length) s).length_le
    rwa [iota_len] at this

theorem iota_rise (n : Nat) : Rise (iota n) := by
  unfold iota
  exact List.pairwise_map.2 (List.pairwise_lt_range.imp (fun h => by omega))
/-- A list of cards that rises has no error of its own. -/
theorem cardsE_sub {n : Nat} {r : List Int} (h : r.Sublist (iota n)) : cardsE n r = 0 := by
  refine firstE_none fun i hi => ?_
  have h1 := iota_mem.1 (h.subset (getD_mem hi))
  rw [cardBad, if_pos (by omega), if_neg]
  rintro ⟨h0, h2⟩
  have := rise_getD ((iota_rise n).sublist h) (i := i - 1) (j := i) (by omega) hi
  omega
theorem rise_runs {l : List Int} (hn : l.Nodup) : runsB l false = true ↔ Rise l := (runs_mono hn).trans mono_false
theorem sortsE_sub {l r : List Int} (hc : checkE l = 0) (h : r.Sublist (iota l.length)) : sortsE l r = 0 ↔ Rise (restL l r) := by
  have hp : preE l r = 0 := by rw [preE, if_pos hc, cardsE_sub h]
  have hn : (restL l r).Nodup := (checkE_ok hc).2.2.1.sublist List.filter_sublist
  rw [sortsE, if_pos hp, ← rise_runs hn]
  cases runsB (restL l r) false <;> simp

/-- The places of the cards that stay. -/
def stays (l r : List Int) : List Int := ((List.range l.length).filter fun x : Nat => !decide ((x : Int) ∈ r)).map fun x => (placesL l).getD x 0
theorem stays_sub (l r : List Int) : (stays l r).Sublist (placesL l) := by
  have : placesL l = (List.range l.length).map fun x => (placesL l).getD x 0 := by
    apply List.ext_getElem (by simp [placesL_len])
    intro i h1 h2
    simp [List.getD_eq_getElem?_getD, List.getElem?_eq_getElem h1]
  unfold stays
  conv => rhs; rw [this]
  exact List.filter_sublist.map _
theorem rise_iff {l r : List Int} (hp : IsPack l) : Rise (restL l r) ↔ Rise (stays l r) := by
  have h1 : Rise (restL l r) ↔ ∀ i j, i < j → j < l.length → l.getD i 0 ∉ r → l.getD j 0 ∉ r → l.getD i 0 < l.getD j 0 := by
    unfold restL Rise
    rw [List.pairwise_filter, List.pairwise_iff_getElem]
    constructor
    · intro h i j hij hj h2 h3
      have := h i j (by omega) hj hij
      simp only [List.getD_eq_getElem?_getD, List.getElem?_eq_getElem hj, List.getElem?_eq_getElem (show i < l.length by omega), Option.getD_some] at h2 h3 ⊢
      exact this (by simpa using h2) (by simpa using h3)
    · intro h i j hi hj hij h2 h3
      have := h i j hij hj
      simp only [List.getD_eq_getElem?_getD, List.getElem?_eq_getElem hj, List.getElem?_eq_getElem hi, Option.getD_some] at this
      exact this (by simpa using h2) (by simpa using h3)
  have h2 : Rise (stays l r) ↔ ∀ a b : Nat, a < b → b < l.length → (a : Int) ∉ r → (b : Int) ∉ r → (placesL l).getD a 0 < (placesL l).getD b 0 := by
    unfold stays Rise
    rw [List.pairwise_map, List.pairwise_filter, List.pairwise_iff_getElem]
    constructor
    · intro h a b hab hb h3 h4
      have := h a b (by simp; omega) (by simpa using hb) hab
      simp only [List.getElem_range] at this
      exact this (by simpa using h3) (by simpa using h4)
    · intro h a b ha hb hab h3 h4
      simp only [List.getElem_range] at h3 h4 ⊢
      simp at ha hb
      exact h a b hab hb (by simpa using h3) (by simpa using h4)
  rw [h1, h2]
  have hin : ∀ c : Nat, c < l.length → (c : Int) ∈ l := fun c hc => hp.onto (by omega) (by omega)
  constructor
  · intro h a b hab hb ha2 hb2
    rw [placesL_getD (by omega), placesL_getD hb]
    have ga := getD_idxOf (hin a (by omega))
    have gb := getD_idxOf (hin b hb)
    have la := List.idxOf_lt_length_of_mem (hin a (by omega))
    have lb := List.idxOf_lt_length_of_mem (hin b hb)
    rcases Nat.lt_trichotomy (l.idxOf (a : Int)) (l.idxOf (b : Int)) with hl | hl | hl
    · omega
    · rw [hl, gb] at ga; omega
    · have := h _ _ hl la (by rw [gb]; exact hb2) (by rw [ga]; exact ha2)
      rw [ga, gb] at this; omega
  · intro h i j hij hj hi2 hj2
    have bi := hp.2 _ (getD_mem (show i < l.length by omega))
    have bj := hp.2 _ (getD_mem hj)
    have ii := idxOf_getD hp.1 (show i < l.length by omega)
    have ij := idxOf_getD hp.1 hj
    obtain ⟨a, ha⟩ : ∃ a : Nat, l.getD i 0 = a := ⟨(l.getD i 0).toNat, by omega⟩
    obtain ⟨b, hb⟩ : ∃ b : Nat, l.getD j 0 = b := ⟨(l.getD j 0).toNat, by omega⟩
    rw [ha] at ii hi2 bi
    rw [hb] at ij hj2 bj
    rw [ha, hb]
    rcases Nat.lt_trichotomy a b with hl | hl | hl
    · omega
    · subst hl; omega
    · have := h b a hl (by omega) hj2 hi2
      rw [placesL_getD (by omega), placesL_getD (by omega)] at this
      omega
/-- Cards and places determine each other. -/
theorem movs_stays {l r : List Int} (hp : IsPack l) (h : r.Sublist (iota l.length)) : movs (placesL l) (stays l r) l.length 0 = r := by
  have h1 : ∀ x : Nat, x < l.length → ((placesL l).getD x 0 ∈ stays l r ↔ (x : Int) ∉ r) := by
    intro x hx
    unfold stays
    rw [List.mem_map]
    constructor
    · rintro ⟨y, hy, he⟩
      obtain ⟨hy1, hy2⟩ := List.mem_filter.1 hy
      rw [List.mem_range] at hy1
      have := placesL_inj hp hy1 hx he
      subst this
      simpa using hy2
    · intro hx2
      exact ⟨x, List.mem_filter.2 ⟨List.mem_range.2 hx, by simpa using hx2⟩, rfl⟩
  have h2 : movs (placesL l) (stays l r) l.length 0 = (iota l.length).filter (fun x => decide (x ∈ r)) := by
    unfold movs iota
    rw [List.filter_map, List.range_eq_range']
    congr 1
    apply List.filter_congr
    intro x hx
    have hx' : x < l.length := by have := List.mem_range'_1.1 hx; omega
    simp only [Function.comp]
    by_cases hm : (x : Int) ∈ r
    · rw [decide_eq_true hm, decide_eq_false]; rfl
      rw [h1 x hx']; simpa using hm
    · rw [decide_eq_false hm, decide_eq_true]; rfl
      rw [h1 x hx']; exact hm
  rw [h2]
  exact filter_mem_sub (iota_nodup _) h
where
  filter_mem_sub {L r : List Int} (hn : L.Nodup) (h : r.Sublist L) : L.filter (fun x => decide (x ∈ r)) = r := by
    induction h with
    | slnil => rfl
    | @cons r L x h ih =>
      have h1 := List.nodup_cons.1 hn
      rw [List.filter_cons, decide_eq_false (fun hm => h1.1 (h.subset hm))]
      simpa using ih h1.2
    | @cons_cons r L x h ih =>
      have h1 := List.nodup_cons.1 hn
      rw [List.filter_cons]
      simp only [List.mem_cons, true_or, decide_true, if_true, List.cons.injEq, true_and]
      refine Eq.trans (List.filter_congr ?_) (ih h1.2)
      intro y hy
      have : y ≠ x := by rintro rfl; exact h1.1 hy
      simp [this]
theorem stays_movs {l ρ : List Int} (hp : IsPack l) (h : ρ.Sublist (placesL l)) : stays l (movs (placesL l) ρ l.length 0) = ρ := by
  have h1 : ∀ x : Nat, x < l.length → ((x : Int) ∈ movs (placesL l) ρ l.length 0 ↔ (placesL l).getD x 0 ∉ ρ) := by
    intro x hx
    unfold movs
    rw [List.mem_map]
    constructor
    · rintro ⟨y, hy, he⟩
      obtain ⟨_, hy2⟩ := List.mem_filter.1 hy
      have : y = x := by omega
      subst this
      simpa using hy2
    · intro hx2
      exact ⟨x, List.mem_filter.2 ⟨List.mem_range'_1.2 ⟨by omega, by omega⟩, by simpa using hx2⟩, rfl⟩
  have h2 : placesL l = (List.range l.length).map fun x => (placesL l).getD x 0 := by
    apply List.ext_getElem (by simp [placesL_len])
    intro i h1 h2
    simp [List.getD_eq_getElem?_getD, List.getElem?_eq_getElem h1]
  have h3 : stays l (movs (placesL l) ρ l.length 0) = (placesL l).filter (fun x => decide (x ∈ ρ)) := by
    conv => rhs; rw [h2]
    unfold stays
    rw [List.filter_map]
    congr 1
    apply List.filter_congr
    intro x hx
    rw [List.mem_range] at hx
    simp only [Function.comp]
    by_cases hm : (placesL l).getD x 0 ∈ ρ
    · rw [decide_eq_true hm, decide_eq_false]; rfl
      rw [h1 x hx]; simpa using hm
    · rw [decide_eq_false hm, decide_eq_true]; rfl
      rw [h1 x hx]; exact hm
  rw [h3]
  exact movs_stays.filter_mem_sub (placesL_nodup hp) h
theorem movs_sub (p ρ : List Int) (d : Nat) : (movs p ρ d 0).Sublist (iota d) := by
  unfold movs iota
  rw [List.range_eq_range']
  exact List.filter_sublist.map _
theorem movs_len {l ρ : List Int} (hp : IsPack l) (h : ρ.Sublist (placesL l)) : (movs (placesL l) ρ l.length 0).length + ρ.length = l.length := by
  have h1 := stays_movs hp h
  have h2 : (movs (placesL l) ρ l.length 0).length = ((List.range l.length).filter fun x : Nat => decide ((x : Int) ∈ movs (placesL l) ρ l.length 0)).length := by
    have h3 : movs (placesL l) ρ l.length 0 = (iota l.length).filter (fun x => decide (x ∈ movs (placesL l) ρ l.length 0)) := (movs_stays.filter_mem_sub (iota_nodup _) (movs_sub _ _ _)).symm
    conv => lhs; rw [h3]
    unfold iota
    rw [List.filter_map, List.length_map]
    rfl
  have h4 : ρ.length = ((List.range l.length).filter fun x : Nat => !decide ((x : Int) ∈ movs (placesL l) ρ l.length 0)).length := by
    conv => lhs; rw [← h1]
    unfold stays
    rw [List.length_map]
  rw [h2, h4]
  have := List.length_eq_countP_add_countP (fun x : Nat => decide ((x : Int) ∈ movs (placesL l) ρ l.length 0)) (l := List.range l.length)
  rw [List.length_range, List.countP_eq_length_filter, List.countP_eq_length_filter] at this
  simp only [decide_eq_true_eq] at this
  have e : ((List.range l.length).filter fun a : Nat => decide ¬(a : Int) ∈ movs (placesL l) ρ l.length 0) = (List.range l.length).filter fun x : Nat => !decide ((x : Int) ∈ movs (placesL l) ρ l.length 0) := List.filter_congr (by intro x _; simp)
  rw [e] at this
  exact this.symm

theorem mvG_is {l : List Int} (hc : checkE l = 0) {m : Nat} (hm : ∀ k, k < l.length → (lgL false (placesL l)).getD k 0 ≤ m) (hx : ∃ k, k < l.length ∧ (lgL false (placesL l)).getD k 0 = m) : mvG (placesL l) l.length 0 m (-1) = movedOf l := by
  obtain ⟨hl0, hl9, hp⟩ := checkE_ok hc
  have hn := placesL_nodup hp
  have hlen := placesL_len l
  have hpos : ∀ ρ : List Int, ρ.Sublist (placesL l) → ∀ x ∈ ρ, (-1 : Int) < x := by
    intro ρ hρ x hx
    obtain ⟨i, hi, rfl⟩ := mem_getD (hρ.subset hx)
    have := placesL_range hp (c := i) (by omega)
    omega
  have hmax : ∀ ρ, Vl (placesL l) 0 (-1) ρ → ρ.length ≤ m := by
    intro ρ hρ
    cases ρ with
    | nil => simp
    | cons y s =>
      obtain ⟨j, _, hj2, hy, hs2⟩ := cons_sub hρ.1
      have h1 := (lg_says false (placesL l) j hj2).1 s hs2 (by rw [hy]; exact mono_false.2 hρ.2.1)
      have h2 := hm j (by omega)
      simp only [List.length_cons]
      omega
  have hex : ∃ ρ, Vl (placesL l) 0 (-1) ρ ∧ ρ.length = m := by
    obtain ⟨k, hk, he⟩ := hx
    obtain ⟨_, ⟨t, ht1, ht2, ht3⟩, _⟩ := lg_says false (placesL l) k (by omega)
    have h6 : ((placesL l).getD k 0 :: t).Sublist ((placesL l).drop k) := by rw [drop_cons (by omega)]; exact ht1.cons_cons _
    have h7 : ((placesL l).getD k 0 :: t).Sublist (placesL l) := h6.trans (List.drop_sublist _ _)
    exact ⟨_, ⟨by simpa using h7, mono_false.1 ht2, hpos _ h7⟩, by simp only [List.length_cons]; omega⟩
  obtain ⟨g, h1, h2, h3, h4⟩ := mv_best hn l.length 0 m (-1) (by omega) hmax hex
  have hg : g.Sublist (placesL l) := by simpa using h1.1
  rw [h3]
  -- the reference's
  have ht := pickB_top (bt := fewer) fewer_trans fewer_self (ok := fun r => decide (sortsE l r = 0)) ((List.range (2 ^ l.length)).map (rowS (iota l.length))) (iota l.length)
  have hall : ∀ r : List Int, r.Sublist (iota l.length) → sortsE l r = 0 → fewer r (movedOf l) = false := by
    intro r hr hs
    obtain ⟨s, hs1, hs2⟩ := rowS_onto (iota l.length) r hr
    rw [iota_len] at hs1
    exact ht.2 r (List.mem_map.2 ⟨s, List.mem_range.2 hs1, hs2⟩) (by simpa using hs)
  have hok : ∀ ρ : List Int, ρ.Sublist (placesL l) → Rise ρ → sortsE l (movs (placesL l) ρ l.length 0) = 0 := by
    intro ρ hρ hr
    rw [sortsE_sub hc (movs_sub _ _ _), rise_iff hp, stays_movs hp hρ]
    exact hr
  have hmine : ∀ r : List Int, r.Sublist (iota l.length) → sortsE l r = 0 → fewer r (movs (placesL l) g l.length 0) = false := by
    intro r hr hs
    rw [sortsE_sub hc hr, rise_iff hp] at hs
    have h5 : Vl (placesL l) 0 (-1) (stays l r) := ⟨by simpa using stays_sub l r, hs, hpos _ (stays_sub l r)⟩
    have h6 := hmax _ h5
    have h7 := movs_stays hp hr
    have h8 := movs_len hp (stays_sub l r)
    have h9 := movs_len hp hg
    rw [h7] at h8
    by_cases he : (stays l r).length = m
    · rw [fewer_eq (by omega)]
      have := h4 _ h5 he
      rw [h7] at this
      exact this
    · exact fewer_long (by omega) (by omega)
  have hbest : (movedOf l).Sublist (iota l.length) ∧ sortsE l (movedOf l) = 0 := by
    rcases pickB_mem fewer (fun r => decide (sortsE l r = 0)) ((List.range (2 ^ l.length)).map (rowS (iota l.length))) (iota l.length) with h | h
    · refine ⟨by unfold movedOf movedTo; rw [h]; exact .refl _, ?_⟩
      have : movedOf l = movs (placesL l) [] l.length 0 := by
        unfold movedOf movedTo
        rw [h]
        unfold movs iota
        rw [List.range_eq_range']
        congr 1
        symm
        rw [List.filter_eq_self]
        simp
      rw [this]
      exact hok [] (List.nil_sublist _) (by simp)
    · obtain ⟨s, _, hs⟩ := List.mem_map.1 h.1
      refine ⟨by unfold movedOf movedTo; rw [← hs]; exact rowS_sub _ _, of_decide_eq_true h.2⟩
  by_cases he : movs (placesL l) g l.length 0 = movedOf l
  · exact he
  · rcases fewer_total he with h5 | h5
    · rw [hall _ (movs_sub _ _ _) (hok g hg h1.2.1)] at h5; cases h5
    · rw [hmine _ hbest.1 hbest.2] at h5; cases h5

/-- Whether a greater one begins a row as long: of those below d. -/
def laterT (p : List Int) (c left : Nat) (last : Int) (d : Nat) : Bool := decide (left = 0) || (List.range d).any fun e => decide (c < e) && (decide ((lgL false p).getD e 0 = (left : Int)) && decide (last < p.getD e 0))
theorem laterT_full (p : List Int) (c left : Nat) (last : Int) : laterT p c left last p.length = laterB p c left last := rfl
theorem laterT_succ (p : List Int) (c left : Nat) (last : Int) (d : Nat) : laterT p c left last (d + 1) = (laterT p c left last d || (decide (c < d) && (decide ((lgL false p).getD d 0 = (left : Int)) && decide (last < p.getD d 0)))) := by
  simp only [laterT, List.range_succ, List.any_append, List.any_cons, List.any_nil, Bool.or_false, Bool.or_assoc]
theorem laterT_start (p : List Int) (c left : Nat) (last : Int) : laterT p c left last (c + 1) = decide (left = 0) := by
  have : (List.range (c + 1)).any (fun e => decide (c < e) && (decide ((lgL false p).getD e 0 = (left : Int)) && decide (last < p.getD e 0))) = false := by
    rw [List.any_eq_false]
    intro e he
    rw [List.mem_range] at he
    rw [decide_eq_false (by omega)]
    simp
  rw [laterT, this, Bool.or_false]
theorem laterT_yes {p : List Int} {c left : Nat} {last : Int} {d : Nat} (h : laterT p c left last d = true) : laterT p c left last (d + 1) = true := by rw [laterT_succ, h]; rfl
theorem laterT_at {p : List Int} {c left : Nat} {last : Int} {d : Nat} (h : laterT p c left last d = false) (hc : c < d) (he : (lgL false p).getD d 0 = (left : Int)) : laterT p c left last (d + 1) = decide (last < p.getD d 0) := by rw [laterT_succ, h, decide_eq_true hc, decide_eq_true he]; rfl
theorem laterT_no {p : List Int} {c left : Nat} {last : Int} {d : Nat} (h : laterT p c left last d = false) (he : ¬ (lgL false p).getD d 0 = (left : Int)) : laterT p c left last (d + 1) = false := by rw [laterT_succ, h, decide_eq_false he]; simp
theorem later_pos {p : List Int} {c left : Nat} {last : Int} (h : laterB p c left last = false) : left ≠ 0 := by
  rintro rfl; simp [laterB] at h
theorem stay_later {p : List Int} {c left : Nat} {last : Int} (h : laterB p c left last = true) : stay p c left last = false := by rw [stay, h]; rfl
theorem stay_ne {p : List Int} {c left : Nat} {last : Int} (h : ¬ (lgL false p).getD c 0 = (left : Int)) : stay p c left last = false := by rw [stay, decide_eq_false h]; simp
theorem stay_low {p : List Int} {c left : Nat} {last : Int} (h : p.getD c 0 < last) : stay p c left last = false := by rw [stay, decide_eq_true h]; simp
theorem stay_yes {p : List Int} {c left : Nat} {last : Int} (h : laterB p c left last = false) (h1 : (lgL false p).getD c 0 = (left : Int)) (h2 : ¬ p.getD c 0 < last) : stay p c left last = true := by rw [stay, h, decide_eq_true h1, decide_eq_false h2]; rfl
theorem mvG_move {p : List Int} {n c left : Nat} {last : Int} (hc : c < n) (h : stay p c left last = false) : mvG p (n - c) c left last = (c : Int) :: mvG p (n - (c + 1)) (c + 1) left last := by
  obtain ⟨d, hd⟩ : ∃ d, n - c = d + 1 := ⟨n - c - 1, by omega⟩
  rw [hd, show n - (c + 1) = d by omega, mvG, if_neg (by rw [h]; exact Bool.false_ne_true)]
theorem mvG_stay {p : List Int} {n c left : Nat} {last : Int} (hc : c < n) (h : stay p c left last = true) : mvG p (n - c) c left last = mvG p (n - (c + 1)) (c + 1) (left - 1) (p.getD c 0) := by
  obtain ⟨d, hd⟩ : ∃ d, n - c = d + 1 := ⟨n - c - 1, by omega⟩
  rw [hd, show n - (c + 1) = d by omega, mvG, if_pos h]

end Go.Am
