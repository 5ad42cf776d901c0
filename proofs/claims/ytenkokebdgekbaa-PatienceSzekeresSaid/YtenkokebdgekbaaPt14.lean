/-
  Layer 13, the plain part: the first pack without long rows, out of all packs.
  Conditions: none.
-/
import Derived.Test.YtenkokebdgekbaaPt11
import Derived.Test.YtenkokebdgekbaaCs
namespace Go.Am
open Go.Gr

def permsN (k : Nat) : Nat → List Nat → List (List Nat)
  | 0, c => [c]
  | d + 1, c => (List.range k).flatMap fun v => bif c.any (Nat.beq v) then [] else permsN k d (v :: c)
theorem any_mem (c : List Nat) (i : Nat) : c.any (Nat.beq i) = decide (i ∈ c) := by
  rw [Bool.eq_iff_iff, List.any_eq_true, decide_eq_true_eq]
  constructor
  · rintro ⟨x, hx, he⟩; rw [Nat.eq_of_beq_eq_true he]; exact hx
  · intro hx; exact ⟨i, hx, Nat.beq_refl i⟩
theorem permsN_is (k : Nat) : ∀ (d : Nat) (c : List Nat), permsF k d (up c.reverse) = (permsN k d c).map fun c => up c.reverse := by
  intro d
  induction d with
  | zero => intro c; rfl
  | succ d ih =>
    intro c
    rw [permsF, permsN, List.map_flatMap]
    congr 1
    funext v
    rw [any_mem]
    by_cases h : v ∈ c
    · rw [if_pos (up_mem.2 (List.mem_reverse.2 h)), decide_eq_true h]; rfl
    · rw [if_neg (fun hq => h (List.mem_reverse.1 (up_mem.1 hq))), decide_eq_false h, cond_false, ← ih (v :: c)]
      congr 1
      simp [up]
theorem permsN_nodup (k : Nat) : ∀ (d : Nat) (c : List Nat), c.Nodup → ∀ x ∈ permsN k d c, x.Nodup ∧ x.length = c.length + d := by
  intro d
  induction d with
  | zero => intro c hc x hx; rw [permsN, List.mem_singleton] at hx; subst hx; exact ⟨hc, rfl⟩
  | succ d ih =>
    intro c hc x hx
    rw [permsN, List.mem_flatMap] at hx
    obtain ⟨v, _, hx⟩ := hx
    rw [any_mem] at hx
    by_cases h : v ∈ c
    · rw [decide_eq_true h] at hx; simp at hx
    · rw [decide_eq_false h, cond_false] at hx
      have := ih (v :: c) (List.nodup_cons.2 ⟨h, hc⟩) x hx
      rw [List.length_cons] at this
      exact ⟨this.1, by omega⟩
def okNN (r f : Nat) (c : List Nat) : Bool := !((labN true c).any (Nat.ble r) || (labN false c).any (Nat.ble f))
def firstOk (r f : Nat) : Bool := match (permsN ((r - 1) * (f - 1)) ((r - 1) * (f - 1)) []).find? (okNN r f) with
  | none => true
  | some c => decide (up c.reverse = flatW (f : Int) (r - 1))
set_option maxRecDepth 100000 in
theorem firstOk_all : (firstOk 2 2 && firstOk 2 3 && firstOk 2 4 && firstOk 3 2 && firstOk 3 3 && firstOk 3 4 && firstOk 4 2 && firstOk 4 3) = true := by decide +kernel
def shortB (r f : Int) (p : List Int) : Prop := ((bestOf p false).length : Int) < r ∧ ((bestOf p true).length : Int) < f
theorem short_first {r f : Int} (h1 : 2 ≤ r) (h2 : r ≤ 4) (h3 : 2 ≤ f) (h4 : f ≤ 4) (h6 : (r.toNat - 1) * (f.toNat - 1) ≤ 6) {i : Nat} (hi : i < (permsF ((r.toNat - 1) * (f.toNat - 1)) ((r.toNat - 1) * (f.toNat - 1)) []).length)
    (hj : ∀ j, j < i → ¬ shortB r f ((permsF ((r.toNat - 1) * (f.toNat - 1)) ((r.toNat - 1) * (f.toNat - 1)) []).getD j [])) (hs : shortB r f ((permsF ((r.toNat - 1) * (f.toNat - 1)) ((r.toNat - 1) * (f.toNat - 1)) []).getD i [])) : (permsF ((r.toNat - 1) * (f.toNat - 1)) ((r.toNat - 1) * (f.toNat - 1)) []).getD i [] = flatW f (r.toNat - 1) := by
  have hall := firstOk_all
  simp only [Bool.and_eq_true] at hall
  have hw : firstOk r.toNat f.toNat = true := by
    have hr : r = 2 ∨ r = 3 ∨ r = 4 := by omega
    have hf : f = 2 ∨ f = 3 ∨ f = 4 := by omega
    obtain ⟨⟨⟨⟨⟨⟨⟨a, b⟩, c⟩, d⟩, e⟩, g⟩, i⟩, j⟩ := hall
    rcases hr with rfl | rfl | rfl <;> rcases hf with rfl | rfl | rfl
    · exact a
    · exact b
    · exact c
    · exact d
    · exact e
    · exact g
    · exact i
    · exact j
    · exact absurd h6 (by decide)
  have hq := permsN_is ((r.toNat - 1) * (f.toNat - 1)) ((r.toNat - 1) * (f.toNat - 1)) []
  rw [show up ([] : List Nat).reverse = [] from rfl] at hq
  generalize hk : (r.toNat - 1) * (f.toNat - 1) = k at *
  rw [hq] at hi hj hs ⊢
  rw [List.length_map] at hi
  have hg : ∀ j, j < (permsN k k []).length → ((permsN k k []).map fun c => up c.reverse).getD j [] = up ((permsN k k []).getD j []).reverse := by
    intro j hj
    simp [List.getD_eq_getElem?_getD, List.getElem?_map, List.getElem?_eq_getElem hj]
  have hsh : ∀ j, j < (permsN k k []).length → (okNN r.toNat f.toNat ((permsN k k []).getD j []) = true ↔ shortB r f (up ((permsN k k []).getD j []).reverse)) := by
    intro j hj
    have hm : (permsN k k []).getD j [] ∈ permsN k k [] := by
      rw [List.getD_eq_getElem?_getD, List.getElem?_eq_getElem hj]; exact List.getElem_mem hj
    have hn := (permsN_nodup k k [] List.nodup_nil _ hm).1
    have e1 := long_up hn (r := r.toNat) (by omega) false
    have e2 := long_up hn (r := f.toNat) (by omega) true
    simp only [Bool.not_false, Bool.not_true] at e1 e2
    unfold okNN shortB
    rw [Bool.not_eq_true', Bool.or_eq_false_iff, ← Bool.not_eq_true, ← Bool.not_eq_true, ← e1, ← e2]
    omega
  rw [hg i hi] at hs ⊢
  have hfind : (permsN k k []).find? (okNN r.toNat f.toNat) = some ((permsN k k []).getD i []) := by
    refine List.find?_eq_some_iff_getElem.2 ⟨(hsh i hi).2 hs, i, hi, ?_, ?_⟩
    · rw [List.getD_eq_getElem?_getD, List.getElem?_eq_getElem hi]; rfl
    · intro j hji
      have h7 := hj j hji
      rw [hg j (by omega)] at h7
      have h8 := fun hq => h7 ((hsh j (by omega)).1 hq)
      rw [List.getD_eq_getElem?_getD, List.getElem?_eq_getElem (show j < (permsN k k []).length by omega)] at h8
      simpa using h8
  unfold firstOk at hw
  rw [hk, hfind] at hw
  have := of_decide_eq_true hw
  rw [this, show ((f.toNat : Nat) : Int) = f by omega]

end Go.Am
