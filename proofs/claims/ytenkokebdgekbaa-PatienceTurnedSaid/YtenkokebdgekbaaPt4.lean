/-
  Layer 13, the plain part: the fewest cards that must be moved.
  Conditions: none.
-/
import Derived.Test.YtenkokebdgekbaaPt3
namespace Go.Am
open Go.Gr

theorem pig : ∀ (n : Nat) (l : List Int), l.Nodup → (∀ x ∈ l, 0 ≤ x ∧ x < n) → l.length ≤ n := by
  intro n
  induction n with
  | zero =>
    intro l _ h
    cases l with
    | nil => simp
    | cons x l => have := h x (by simp); omega
  | succ n ih =>
    intro l hn h
    by_cases hm : (n : Int) ∈ l
    · have h1 := ih (l.erase (n : Int)) (hn.erase _) (by
        intro x hx
        have h2 := (hn.mem_erase_iff).1 hx
        have := h x h2.2
        have := h2.1
        omega)
      rw [List.length_erase_of_mem hm] at h1
      omega
    · have h1 := ih l hn (by
        intro x hx
        have := h x hx
        have : x ≠ n := by rintro rfl; exact hm hx
        omega)
      omega
theorem IsPack.onto {l : List Int} (h : IsPack l) {c : Int} (h0 : 0 ≤ c) (hc : c < l.length) : c ∈ l := by
  by_cases hm : c ∈ l
  · exact hm
  · have := pig l.length (c :: l) (List.nodup_cons.2 ⟨hm, h.1⟩) (by
      intro x hx
      rcases List.mem_cons.1 hx with rfl | hx
      · exact ⟨h0, hc⟩
      · exact h.2 x hx)
    simp at this
    omega

/-- The numbers from 0 on. -/
def iota (n : Nat) : List Int := (List.range n).map (fun i : Nat => (i : Int))
theorem iota_len (n : Nat) : (iota n).length = n := by simp [iota]
theorem iota_getD {n i : Nat} (h : i < n) : (iota n).getD i 0 = i := by simp [iota, List.getD_eq_getElem?_getD, List.getElem?_map, List.getElem?_range h]
theorem iota_succ (n : Nat) : iota (n + 1) = iota n ++ [(n : Int)] := by simp [iota, List.range_succ]
theorem iota_mem {n : Nat} {x : Int} : x ∈ iota n ↔ 0 ≤ x ∧ x < n := by
  simp only [iota, List.mem_map, List.mem_range]
  constructor
  · rintro ⟨i, hi, rfl⟩; omega
  · intro h; exact ⟨x.toNat, by omega, by omega⟩
theorem iota_nodup (n : Nat) : (iota n).Nodup := by
  unfold iota
  exact List.pairwise_map.2 (List.nodup_range.imp (fun h => by omega))

/-- Where the cards lie. -/
def placesT (l : List Int) (i : Nat) : List Int := (List.range l.length).map fun c : Nat => if l.idxOf (c : Int) < i then (l.idxOf (c : Int) : Int) else 0
def placesL (l : List Int) : List Int := (List.range l.length).map fun c : Nat => (l.idxOf (c : Int) : Int)
theorem placesT_zero (l : List Int) : placesT l 0 = List.replicate l.length 0 := by
  apply List.ext_getElem (by simp [placesT])
  intro i h1 h2
  simp [placesT]
theorem placesT_len (l : List Int) (i : Nat) : (placesT l i).length = l.length := by simp [placesT]
theorem placesL_len (l : List Int) : (placesL l).length = l.length := by simp [placesL]
theorem idxOf_getD {l : List Int} (hn : l.Nodup) {i : Nat} (hi : i < l.length) : l.idxOf (l.getD i 0) = i := by
  have h0 := getD_mem hi
  have h1 := List.idxOf_lt_length_of_mem h0
  refine nodup_inj hn (x := l.getD i 0) ?_ ?_
  · rw [List.getElem?_eq_getElem h1, List.getElem_idxOf h1]
  · rw [List.getD_eq_getElem?_getD, List.getElem?_eq_getElem hi]; rfl
theorem getD_idxOf {l : List Int} {c : Int} (h : c ∈ l) : l.getD (l.idxOf c) 0 = c := by
  have h1 := List.idxOf_lt_length_of_mem h
  rw [List.getD_eq_getElem?_getD, List.getElem?_eq_getElem h1, List.getElem_idxOf h1]; rfl
theorem placesT_succ {l : List Int} (hp : IsPack l) {i : Nat} (hi : i < l.length) : (placesT l i).set (l.getD i 0).toNat (i : Int) = placesT l (i + 1) := by
  have hb := hp.2 _ (getD_mem hi)
  apply List.ext_getElem (by simp [placesT])
  intro c h1 h2
  simp [placesT] at h1
  rw [List.getElem_set]
  simp only [placesT, List.getElem_map, List.getElem_range]
  by_cases hc : (l.getD i 0).toNat = c
  · rw [if_pos hc]
    have : (c : Int) = l.getD i 0 := by omega
    rw [this, idxOf_getD hp.1 hi]
    simp
  · rw [if_neg hc]
    have hne : l.idxOf (c : Int) ≠ i := by
      intro he
      have hm : (c : Int) ∈ l := hp.onto (by omega) (by omega)
      have := getD_idxOf hm
      rw [he] at this
      omega
    split <;> split <;> omega
theorem placesT_full {l : List Int} (hp : IsPack l) : placesT l l.length = placesL l := by
  unfold placesT placesL
  apply List.map_congr_left
  intro c hc
  rw [List.mem_range] at hc
  rw [if_pos (List.idxOf_lt_length_of_mem (hp.onto (by omega) (by omega)))]
theorem placesL_getD {l : List Int} {c : Nat} (hc : c < l.length) : (placesL l).getD c 0 = (l.idxOf (c : Int) : Int) := by
  simp [placesL, List.getD_eq_getElem?_getD, List.getElem?_map, List.getElem?_range hc]

/-- What must be moved, card by card. -/
def laterB (p : List Int) (c left : Nat) (last : Int) : Bool := decide (left = 0) || (List.range p.length).any fun e => decide (c < e) && (decide ((lgL false p).getD e 0 = (left : Int)) && decide (last < p.getD e 0))
def stay (p : List Int) (c left : Nat) (last : Int) : Bool := !(laterB p c left last) && (decide ((lgL false p).getD c 0 = (left : Int)) && !decide (p.getD c 0 < last))

end Go.Am
