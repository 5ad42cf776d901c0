/-
  Layer 13, the plain part: the fewest cards that must be moved.
  Conditions: none.
-/
import Derived.Test.YtenkokebdgekbaaPt3
namespace Go.Am
open Go.Gr

theorem pig : ∀ (n : Nat) (l : List Int), l.Nodup → (∀ x ∈ l, 0 ≤ x ∧ x < n) → l.length ≤ n := by
  intro n
  induction n with
  | zero =>
    intro l _ h
    cases l with
    | nil => simp
    | cons x l => have := h x (by simp); omega
  | succ n ih =>
    intro l hn h
    by_cases hm : (n : Int) ∈ l
    · have h1 := ih (l.erase (n : Int)) (hn.erase _) (by
        intro x hx
        have h2 := (hn.mem_erase_iff).1 hx
        have := h x h2.2
        have := h2.1
        omega)
      rw [List.length_erase_of_mem hm] at h1
      omega
    · have h1 := ih l hn (by
        intro x hx
        have := h x hx
        have : x ≠ n := by rintro rfl; exact hm hx
        omega)
      omega
theorem IsPack.onto {l : List Int} (h : IsPack l) {c : Int} (h0 : 0 ≤ c) (hc : c < l.length) : c ∈ l := by
  by_cases hm : c ∈ l
  · exact hm
  · have := pig l.length (c :: l) (List.nodup_cons.2 ⟨hm, h.1⟩) (by
      intro x hx
      rcases List.mem_cons.1 hx with rfl | hx
      · exact ⟨h0, hc⟩
      · exact h.2 x hx)
    simp at this
    omega

/-- The numbers from 0 on. -/
def iota (n : Nat) : List Int := (List.range n).map (fun i : Nat => (i : Int))
theorem iota_len (n : Nat) : (iota n).length = n := by simp [iota]
theorem iota_succ (n : Nat) : iota (n + 1) = iota n ++ [(n : Int)] := by simp [iota, List.range_succ]
theorem iota_mem {n : Nat} {x : Int} : x ∈ iota n ↔ 0 ≤ x ∧ x < n := by
  simp only [iota, List.mem_map, List.mem_range]
  constructor
  · rintro ⟨i, hi, rfl⟩; omega
  · intro h; exact ⟨x.toNat, by omega, by omega⟩
theorem iota_nodup (n : Nat) : (iota n).Nodup := by
  unfold iota
  exact List.pairwise_map.2 (List.nodup_range.imp (fun h => by omega))

def placesL (l : List Int) : List Int := (List.range l.length).map fun c : Nat => (l.idxOf (c : Int) : Int)

/-- What must be moved, card by card. -/
def laterB (p : List Int) (c left : Nat) (last : Int) : Bool := decide (left = 0) || (List.range p.length).any fun e => decide (c < e) && (decide ((lgL false p).getD e 0 = (left : Int)) && decide (last < p.getD e 0))
def stay (p : List Int) (c left : Nat) (last : Int) : Bool := !(laterB p c left last) && (decide ((lgL false p).getD c 0 = (left : Int)) && !decide (p.getD c 0 < last))

end Go.Am
