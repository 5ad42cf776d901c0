/-
  Layer 13, the plain part: the fewest cards that must be moved.
  Conditions: none.
-/
import Derived.Test.YtenkokebdgekbaaPt3
namespace Go.Am
open Go.Gr

theorem pig : ∀ (n : Nat) (l : List Int), l.Nodup → (∀ x ∈ l, 0 ≤ x ∧ x < n) → l.length ≤ n := by
  intro n
  induction n with
  | zero =>
    intro l _ h
    cases l with
    | nil => simp
    | cons x l => have := h x (by simp); omega
  | succ n ih =>
    intro l hn h
    by_cases hm : (n : Int) ∈ l
    · have h1 := ih (l.erase (n : Int)) (hn.erase _) (by
        intro x hx
        have h2 := (hn.mem_erase_iff).1 hx
        have := h x h2.2
        have := h2.1
        omega)
      rw [List.length_erase_of_mem hm] at h1
      omega
    · have h1 := ih l hn (by
        intro x hx
        have := h x hx
        have : x ≠ n := by rintro rfl; exact hm hx
        omega)
      omega
theorem IsPack.onto {l : List Int} (h : IsPack l) {c : Int} (h0 : 0 ≤ c) (hc : c < l.length) : c ∈ l := by
  by_cases hm : c ∈ l
  · exact hm
  · have := pig l.length (c :: l) (List.nodup_cons.2 ⟨hm, h.1⟩) (by
      intro x hx
      rcases List.mem_cons.1 hx with rfl | hx
      · exact ⟨h0, hc⟩
      · exact h.2 x hx)
    simp at this
    omega

/-- The numbers from 0 on. -/
def iota (n : Nat) : List Int := (List.range n).map (fun i : Nat => (i : Int))
theorem iota_len (n : Nat) : (iota n).length = n := by simp [iota]
theorem iota_getD {n i : Nat} (h : i < n) : (iota n).getD i 0 = i := by simp [iota, List.getD_eq_getElem?_getD, List.getElem?_map, List.getElem?_range h]
theorem iota_succ (n : Nat) : iota (n + 1) = iota n ++ [(n : Int)] := by simp [iota, List.range_succ]
theorem iota_mem {n : Nat} {x : Int} : x ∈ iota n ↔ 0 ≤ x ∧ x < n := by
  simp only [iota, List.mem_map, List.mem_range]
  constructor
  · rintro ⟨i, hi, rfl⟩; omega
  · intro h; exact ⟨x.toNat, by omega, by omega⟩
theorem iota_nodup (n : Nat) : (iota n).Nodup := by
  unfold iota
  exact List.pairwise_map.2 (List.nodup_range.imp (fun h => by omega))

/-- Where the cards lie. -/
def placesT (l : List Int) (i : Nat) : List Int := (List.range l.length).map fun c : Nat => if l.idxOf (c : Int) < i then (l.idxOf (c : Int) : Int) else 0
def placesL (l : List Int) : List Int := (List.range l.length).map fun c : Nat => (l.idxOf (c : Int) : Int)
theorem placesT_zero (l : List Int) : placesT l 0 = List.replicate l.length 0 := by
  apply List.ext_getElem (by simp [placesT])
  intro i h1 h2
  simp [placesT]
theorem placesT_len (l : List Int) (i : Nat) : (placesT l i).length = l.length := by simp [placesT]
theorem placesL_len (l : List Int) : (placesL l).length = l.length := by simp [placesL]
theorem idxOf_getD {l : List Int} (hn : l.Nodup) {i : Nat} (hi : i < l.length) : l.idxOf (l.getD i 0) = i := by
  have h0 := getD_mem hi
  have h1 := List.idxOf_lt_length_of_mem h0
  refine nodup_inj hn (x := l.getD i 0) ?_ ?_
  · rw [List.getElem?_eq_getElem h1, List.getElem_idxOf h1]
  · rw [List.getD_eq_getElem?_getD, List.getElem?_eq_getElem hi]; rfl
theorem getD_idxOf {l : List Int} {c : Int} (h : c ∈ l) : l.getD (l.idxOf c) 0 = c := by
  have h1 := List.idxOf_lt_length_of_mem h
  rw [List.getD_eq_getElem?_getD, List.getElem?_eq_getElem h1, List.getElem_idxOf h1]; rfl
theorem placesT_succ {l : List Int} (hp : IsPack l) {i : Nat} (hi : i < l.length) : (placesT l i).set (l.getD i 0).toNat (i : Int) = placesT l (i + 1) := by
  have hb := hp.2 _ (getD_mem hi)
  apply List.ext_getElem (by simp [placesT])
  intro c h1 h2
  simp [placesT] at h1
  rw [List.getElem_set]
  simp only [placesT, List.getElem_map, List.getElem_range]
  by_cases hc : (l.getD i 0).toNat = c
  · rw [if_pos hc]
    have : (c : Int) = l.getD i 0 := by omega
    rw [this, idxOf_getD hp.1 hi]
    simp
  · rw [if_neg hc]
    have hne : l.idxOf (c : Int) ≠ i := by
      intro he
      have hm : (c : Int) ∈ l := hp.onto (by omega) (by omega)
      have := getD_idxOf hm
      rw [he] at this
      omega
    split <;> split <;> omega
theorem placesT_full {l : List Int} (hp : IsPack l) : placesT l l.length = placesL l := by
  unfold placesT placesL
  apply List.map_congr_left
  intro c hc
  rw [List.mem_range] at hc
  rw [if_pos (List.idxOf_lt_length_of_mem (hp.onto (by omega) (by omega)))]
theorem placesL_getD {l : List Int} {c : Nat} (hc : c < l.length) : (placesL l).getD c 0 = (l.idxOf (c : Int) : Int) := by
  simp [placesL, List.getD_eq_getElem?_getD, List.getElem?_map, List.getElem?_range hc]
theorem placesL_range {l : List Int} (hp : IsPack l) {c : Nat} (hc : c < l.length) : 0 ≤ (placesL l).getD c 0 ∧ (placesL l).getD c 0 < l.length := by
  rw [placesL_getD hc]
  have := List.idxOf_lt_length_of_mem (hp.onto (c := (c : Int)) (by omega) (by omega))
  omega
theorem placesL_inj {l : List Int} (hp : IsPack l) {a b : Nat} (ha : a < l.length) (hb : b < l.length) (h : (placesL l).getD a 0 = (placesL l).getD b 0) : a = b := by
  rw [placesL_getD ha, placesL_getD hb] at h
  have h1 := getD_idxOf (hp.onto (c := (a : Int)) (by omega) (by omega))
  have h2 := getD_idxOf (hp.onto (c := (b : Int)) (by omega) (by omega))
  have : l.idxOf (a : Int) = l.idxOf (b : Int) := by omega
  rw [this, h2] at h1
  omega
theorem placesL_nodup {l : List Int} (hp : IsPack l) : (placesL l).Nodup := by
  refine List.pairwise_iff_getElem.2 ?_
  intro i j hi hj hij he
  rw [placesL_len] at hi hj
  have := placesL_inj hp hi hj (by simp [List.getD_eq_getElem?_getD, List.getElem?_eq_getElem (show i < (placesL l).length by rw [placesL_len]; exact hi), List.getElem?_eq_getElem (show j < (placesL l).length by rw [placesL_len]; exact hj), he])
  omega

/-- What must be moved, card by card. -/
def laterB (p : List Int) (c left : Nat) (last : Int) : Bool := decide (left = 0) || (List.range p.length).any fun e => decide (c < e) && (decide ((lgL false p).getD e 0 = (left : Int)) && decide (last < p.getD e 0))
def stay (p : List Int) (c left : Nat) (last : Int) : Bool := !(laterB p c left last) && (decide ((lgL false p).getD c 0 = (left : Int)) && !decide (p.getD c 0 < last))
def mvG (p : List Int) : Nat → Nat → Nat → Int → List Int
  | 0, _, _, _ => []
  | d + 1, c, left, last => if stay p c left last then mvG p d (c + 1) (left - 1) (p.getD c 0) else (c : Int) :: mvG p d (c + 1) left last

/-- The cards from c on of which no place is in a row. -/
def movs (p ρ : List Int) (d c : Nat) : List Int := ((List.range' c d).filter fun x => !decide (p.getD x 0 ∈ ρ)).map fun x : Nat => (x : Int)
theorem movs_succ (p ρ : List Int) (d c : Nat) : movs p ρ (d + 1) c = if p.getD c 0 ∈ ρ then movs p ρ d (c + 1) else (c : Int) :: movs p ρ d (c + 1) := by
  unfold movs
  rw [List.range'_succ, List.filter_cons]
  by_cases h : p.getD c 0 ∈ ρ
  · simp only [decide_eq_true h, Bool.not_true, Bool.false_eq_true, if_false, if_pos h]
  · simp only [decide_eq_false h, Bool.not_false, if_true, if_neg h, List.map_cons]
theorem movs_ge (p ρ : List Int) (d c : Nat) : ∀ x ∈ movs p ρ d c, (c : Int) ≤ x := by
  intro x hx
  unfold movs at hx
  obtain ⟨y, hy, rfl⟩ := List.mem_map.1 hx
  have := List.mem_range'_1.1 (List.mem_filter.1 hy).1
  omega
theorem movs_congr {p ρ σ : List Int} {d c : Nat} (h : ∀ x, c ≤ x → x < c + d → (p.getD x 0 ∈ ρ ↔ p.getD x 0 ∈ σ)) : movs p ρ d c = movs p σ d c := by
  unfold movs
  congr 1
  apply List.filter_congr
  intro x hx
  have := List.mem_range'_1.1 hx
  rw [decide_eq_decide.2 (h x this.1 this.2)]
def Vl (p : List Int) (c : Nat) (last : Int) (ρ : List Int) : Prop := ρ.Sublist (p.drop c) ∧ Rise ρ ∧ ∀ x ∈ ρ, last < x

theorem mono_false {l : List Int} : Mono false l ↔ Rise l := by
  constructor
  · intro h; exact h.imp (fun h => by simpa [ris] using h)
  · intro h; exact h.imp (fun h => by simpa [ris] using h)

theorem mv_best {p : List Int} (hn : p.Nodup) : ∀ d c left last, c + d = p.length → (∀ ρ, Vl p c last ρ → ρ.length ≤ left) → (∃ ρ, Vl p c last ρ ∧ ρ.length = left) →
    ∃ g, Vl p c last g ∧ g.length = left ∧ mvG p d c left last = movs p g d c ∧ ∀ ρ, Vl p c last ρ → ρ.length = left → lexB (movs p ρ d c) (movs p g d c) = false := by
  intro d
  induction d with
  | zero =>
    intro c left last _ _ hex
    obtain ⟨g, h1, h2⟩ := hex
    exact ⟨g, h1, h2, rfl, fun ρ _ _ => rfl⟩
  | succ d ih =>
    intro c left last hcd hmax hex
    have hc : c < p.length := by omega
    have hdc := drop_cons hc
    have hnot : ∀ ρ, Vl p (c + 1) last ρ → p.getD c 0 ∉ ρ := by
      intro ρ hρ hm
      have h1 : (p.drop c).Nodup := hn.sublist (List.drop_sublist _ _)
      rw [hdc] at h1
      exact (List.nodup_cons.1 h1).1 (hρ.1.subset hm)
    -- a row of the greatest length that begins at e
    have hfirst : ∀ ρ, Vl p c last ρ → ρ.length = left → 0 < left → ∃ e s, c ≤ e ∧ e < p.length ∧ ρ = p.getD e 0 :: s ∧ s.Sublist (p.drop (e + 1)) ∧ (lgL false p).getD e 0 = left ∧ last < p.getD e 0 := by
      intro ρ hρ hl h0
      cases ρ with
      | nil => simp at hl; omega
      | cons y s =>
        obtain ⟨e, h1, h2, hy, h3⟩ := cons_sub hρ.1
        obtain ⟨hA, ⟨t, ht1, ht2, ht3⟩, _⟩ := lg_says false p e h2
        have hlast := hρ.2.2 y (by simp)
        have h4 := hA s h3 (by rw [hy]; exact mono_false.2 hρ.2.1)
        have h5 : Vl p c last (p.getD e 0 :: t) := by
          refine ⟨?_, mono_false.1 ht2, ?_⟩
          · have h6 : (p.getD e 0 :: t).Sublist (p.drop e) := by rw [drop_cons h2]; exact ht1.cons_cons _
            exact h6.trans (drop_sub h1)
          · intro x hx
            rcases List.mem_cons.1 hx with rfl | hx
            · rw [hy]; exact hlast
            · have := (List.pairwise_cons.1 (mono_false.1 ht2)).1 x hx
              rw [hy] at this; omega
        have h6 := hmax _ h5
        simp only [List.length_cons] at h6 hl
        exact ⟨e, s, h1, h2, by rw [hy], h3, by omega, by rw [hy]; exact hlast⟩
    cases hlt : laterB p c left last with
    | true =>
      have hst : stay p c left last = false := by simp [stay, hlt]
      have hex2 : ∃ ρ, Vl p (c + 1) last ρ ∧ ρ.length = left := by
        simp only [laterB, Bool.or_eq_true, decide_eq_true_eq, List.any_eq_true, List.mem_range, Bool.and_eq_true] at hlt
        rcases hlt with h0 | ⟨e, he, hce, hle, hla⟩
        · exact ⟨[], ⟨by simp, by simp, by simp⟩, by simp [h0]⟩
        · obtain ⟨_, ⟨t, ht1, ht2, ht3⟩, _⟩ := lg_says false p e he
          refine ⟨p.getD e 0 :: t, ⟨?_, mono_false.1 ht2, ?_⟩, by simp only [List.length_cons]; omega⟩
          · have h6 : (p.getD e 0 :: t).Sublist (p.drop e) := by rw [drop_cons he]; exact ht1.cons_cons _
            exact h6.trans (drop_sub hce)
          · intro x hx
            rcases List.mem_cons.1 hx with rfl | hx
            · exact hla
            · have := (List.pairwise_cons.1 (mono_false.1 ht2)).1 x hx
              omega
      have hmono : ∀ ρ, Vl p (c + 1) last ρ → Vl p c last ρ := fun ρ hρ => ⟨hρ.1.trans (drop_sub (by omega)), hρ.2⟩
      obtain ⟨g, h1, h2, h3, h4⟩ := ih (c + 1) left last (by omega) (fun ρ hρ => hmax ρ (hmono ρ hρ)) hex2
      refine ⟨g, hmono g h1, h2, ?_, ?_⟩
      · rw [mvG, hst, if_neg (by simp), movs_succ, if_neg (hnot g h1), h3]
      · intro ρ hρ hl
        rw [movs_succ p g, if_neg (hnot g h1), movs_succ]
        split
        · cases hq : movs p ρ d (c + 1) with
          | nil => rfl
          | cons y ys =>
            have := movs_ge p ρ d (c + 1) y (by rw [hq]; simp)
            simp only [lexB]
            rw [if_neg (by omega)]
            exact decide_eq_false (by omega)
        · rename_i hpc
          simp only [lexB, if_true]
          refine h4 ρ ⟨?_, hρ.2⟩ hl
          have := hρ.1
          rw [hdc] at this
          cases this with
          | cons _ h => exact h
          | cons_cons _ h => simp at hpc
    | false =>
      have hle : left ≠ 0 := by intro h0; simp [laterB, h0] at hlt
      have hno : ∀ e, c < e → e < p.length → (lgL false p).getD e 0 = left → last < p.getD e 0 → False := by
        intro e h1 h2 h3 h4
        have : laterB p c left last = true := by
          simp only [laterB, Bool.or_eq_true, decide_eq_true_eq, List.any_eq_true, List.mem_range, Bool.and_eq_true]
          exact .inr ⟨e, h2, h1, h3, h4⟩
        rw [this] at hlt; cases hlt
      have hform : ∀ ρ, Vl p c last ρ → ρ.length = left → ∃ s, ρ = p.getD c 0 :: s ∧ Vl p (c + 1) (p.getD c 0) s ∧ (lgL false p).getD c 0 = left ∧ last < p.getD c 0 := by
        intro ρ hρ hl
        obtain ⟨e, s, h1, h2, rfl, h4, h5, h6⟩ := hfirst ρ hρ hl (by omega)
        have : e = c := by
          rcases Nat.lt_or_ge c e with h | h
          · exact (hno e h h2 h5 h6).elim
          · omega
        subst this
        exact ⟨s, rfl, ⟨h4, (List.pairwise_cons.1 hρ.2.1).2, (List.pairwise_cons.1 hρ.2.1).1⟩, h5, h6⟩
      obtain ⟨ρ0, hρ0, hl0⟩ := hex
      obtain ⟨s0, rfl, hs0, hlc, hla⟩ := hform ρ0 hρ0 hl0
      have hst : stay p c left last = true := by
        simp only [stay, hlt, Bool.not_false, Bool.true_and, Bool.and_eq_true, decide_eq_true_eq]
        exact ⟨hlc, by rw [decide_eq_false (by omega)]; rfl⟩
      have hup : ∀ s, Vl p (c + 1) (p.getD c 0) s → Vl p c last (p.getD c 0 :: s) := by
        intro s hs
        refine ⟨?_, List.pairwise_cons.2 ⟨hs.2.2, hs.2.1⟩, ?_⟩
        · rw [hdc]; exact hs.1.cons_cons _
        · intro x hx
          rcases List.mem_cons.1 hx with rfl | hx
          · exact hla
          · have := hs.2.2 x hx; omega
      obtain ⟨g, h1, h2, h3, h4⟩ := ih (c + 1) (left - 1) (p.getD c 0) (by omega) (fun ρ hρ => by have := hmax _ (hup ρ hρ); simp at this; omega) ⟨s0, hs0, by simp at hl0; omega⟩
      have hcg : ∀ s, movs p (p.getD c 0 :: s) d (c + 1) = movs p s d (c + 1) := by
        intro s
        apply movs_congr
        intro x hx1 hx2
        simp only [List.mem_cons]
        constructor
        · rintro (h | h)
          · exfalso
            have := nodup_inj hn (i := x) (j := c) (x := p.getD c 0) (by rw [← h, List.getD_eq_getElem?_getD, List.getElem?_eq_getElem (show x < p.length by omega)]; rfl) (by rw [List.getD_eq_getElem?_getD, List.getElem?_eq_getElem hc]; rfl)
            omega
          · exact h
        · exact .inr
      refine ⟨p.getD c 0 :: g, hup g h1, by simp only [List.length_cons]; omega, ?_, ?_⟩
      · rw [mvG, hst, if_pos rfl, movs_succ, if_pos (by simp), hcg, h3]
      · intro ρ hρ hl
        obtain ⟨s, rfl, hs, _, _⟩ := hform ρ hρ hl
        rw [movs_succ, movs_succ, if_pos (by simp), if_pos (by simp), hcg, hcg]
        exact h4 s hs (by simp at hl; omega)

end Go.Am
