/-
  Layer 13, the plain part: all tables of at most five numbers: two of the same shape are those of a pack.
  Conditions: none.
-/
import Derived.Test.YtenkokebdgekbaaCv
import Derived.Test.YtenkokebdgekbaaCw
import Derived.Test.YtenkokebdgekbaaCk
import Derived.Test.YtenkokebdgekbaaCn
import Derived.Test.YtenkokebdgekbaaCs
import Derived.Test.YtenkokebdgekbaaPt9
namespace Go.Am
open Go.Gr
def keyP (x y : List (List Int)) : Int := keyL (unpack y y.flatten.length x)
def pairOkB (n : Nat) (x y : List (List Int)) : Bool := decide (y.flatten.length = n ∧ checkE (unpack y y.flatten.length x) = 0 ∧ insAll (unpack y y.flatten.length x) = x ∧ recOf (unpack y y.flatten.length x) = y)
def robP (n : Nat) : Bool := (stdAll n).all fun x => decide (stdE x = 0 ∧ x.length ≤ 5 ∧ (∀ r ∈ x, r.length ≤ 5) ∧ cntE (rowLens x) = 0) && (stdAll n).all fun y => !decide (shapeL x = shapeL y) || pairOkB n x y
/-- The keys of the packs that were met. -/
def metIn (L : List (List (List Int))) (x : List (List Int)) : List Int := (L.filter fun y => decide (shapeL x = shapeL y)).map (keyP x)
def metTo (n i : Nat) : List Int := ((stdAll n).take i).flatMap (metIn (stdAll n))
/-- How many tables have a shape. -/
def cntStep (m : List (Int × Int)) (x : List (List Int)) : List (Int × Int) := mput m (keyL (rowLens x)) ((mget m (keyL (rowLens x))).getD 0 + 1)
def cntTo (n i : Nat) : List (Int × Int) := ((stdAll n).take i).foldl cntStep []
def robC (n : Nat) : Bool := decide ((metTo n (stdAll n).length).Nodup) && decide ((metTo n (stdAll n).length).length = (permsF n n []).length) && decide ((stdAll n).length ≤ 26) && decide ((permsF n n []).length ≤ 120) &&
  let m := cntTo n (stdAll n).length
  (stdAll n).all fun x => decide (mget m (keyL (rowLens x)) = some (tabS (rowLens x).sum.toNat (rowLens x)))
theorem robP_all : (robP 1 && robP 2 && robP 3 && robP 4 && robP 5) = true := by decide +kernel
theorem robC_all : (robC 1 && robC 2 && robC 3 && robC 4 && robC 5) = true := by decide +kernel
theorem robP_at {n : Nat} (h1 : 1 ≤ n) (h5 : n ≤ 5) : robP n = true := by
  have h := robP_all
  simp only [Bool.and_eq_true] at h
  rcases (by omega : n = 1 ∨ n = 2 ∨ n = 3 ∨ n = 4 ∨ n = 5) with rfl | rfl | rfl | rfl | rfl
  · exact h.1.1.1.1
  · exact h.1.1.1.2
  · exact h.1.1.2
  · exact h.1.2
  · exact h.2
theorem robC_at {n : Nat} (h1 : 1 ≤ n) (h5 : n ≤ 5) : robC n = true := by
  have h := robC_all
  simp only [Bool.and_eq_true] at h
  rcases (by omega : n = 1 ∨ n = 2 ∨ n = 3 ∨ n = 4 ∨ n = 5) with rfl | rfl | rfl | rfl | rfl
  · exact h.1.1.1.1
  · exact h.1.1.1.2
  · exact h.1.1.2
  · exact h.1.2
  · exact h.2
section
variable {n : Nat} (h1 : 1 ≤ n) (h5 : n ≤ 5)
include h1 h5
theorem rob_tab {i : Nat} (hi : i < (stdAll n).length) : stdE ((stdAll n).getD i []) = 0 ∧ ((stdAll n).getD i []).length ≤ 5 ∧ (∀ j, (((stdAll n).getD i []).getD j []).length ≤ 5) ∧ cntE (rowLens ((stdAll n).getD i [])) = 0 := by
  have h := List.all_eq_true.1 (robP_at h1 h5) ((stdAll n).getD i []) (by rw [List.getD_eq_getElem?_getD, List.getElem?_eq_getElem hi]; exact List.getElem_mem hi)
  simp only [Bool.and_eq_true, decide_eq_true_eq] at h
  refine ⟨h.1.1, h.1.2.1, ?_, h.1.2.2.2⟩
  intro j
  by_cases hj : j < ((stdAll n).getD i []).length
  · exact h.1.2.2.1 _ (getDL_mem hj)
  · rw [getDL_out (by omega)]; exact Nat.zero_le _
theorem rob_pair {i j : Nat} (hi : i < (stdAll n).length) (hj : j < (stdAll n).length) (hs : shapeL ((stdAll n).getD i []) = shapeL ((stdAll n).getD j [])) :
    packE ((stdAll n).getD i []) ((stdAll n).getD j []) = 0 ∧ (packOf ((stdAll n).getD i []) ((stdAll n).getD j [])).length = n ∧ checkE (packOf ((stdAll n).getD i []) ((stdAll n).getD j [])) = 0 ∧ insAll (packOf ((stdAll n).getD i []) ((stdAll n).getD j [])) = (stdAll n).getD i [] ∧
      recOf (packOf ((stdAll n).getD i []) ((stdAll n).getD j [])) = (stdAll n).getD j [] ∧ keyL (packOf ((stdAll n).getD i []) ((stdAll n).getD j [])) = keyP ((stdAll n).getD i []) ((stdAll n).getD j []) := by
  have hp : packE ((stdAll n).getD i []) ((stdAll n).getD j []) = 0 := by
    unfold packE
    rw [if_pos (rob_tab h1 h5 hi).1, if_pos (rob_tab h1 h5 hj).1, if_pos hs]
  have hq : packOf ((stdAll n).getD i []) ((stdAll n).getD j []) = unpack ((stdAll n).getD j []) ((stdAll n).getD j []).flatten.length ((stdAll n).getD i []) := if_pos hp
  have hm : ∀ k, k < (stdAll n).length → (stdAll n).getD k [] ∈ stdAll n := fun k hk => by rw [List.getD_eq_getElem?_getD, List.getElem?_eq_getElem hk]; exact List.getElem_mem hk
  have h := List.all_eq_true.1 (robP_at h1 h5) _ (hm i hi)
  simp only [Bool.and_eq_true] at h
  have h := List.all_eq_true.1 h.2 _ (hm j hj)
  simp only [decide_eq_true hs, Bool.not_true, Bool.false_or, pairOkB, decide_eq_true_eq] at h
  refine ⟨hp, ?_⟩
  rw [hq]
  exact ⟨by rw [unpack_len]; exact h.1, h.2.1, h.2.2.1, h.2.2.2, rfl⟩
theorem rob_other {i j : Nat} (hi : i < (stdAll n).length) (hj : j < (stdAll n).length) (hs : ¬ shapeL ((stdAll n).getD i []) = shapeL ((stdAll n).getD j [])) :
    packE ((stdAll n).getD i []) ((stdAll n).getD j []) = 13 ∧ packOf ((stdAll n).getD i []) ((stdAll n).getD j []) = [] := by
  have hp : packE ((stdAll n).getD i []) ((stdAll n).getD j []) = 13 := by
    unfold packE
    rw [if_pos (rob_tab h1 h5 hi).1, if_pos (rob_tab h1 h5 hj).1, if_neg hs]
  exact ⟨hp, if_neg (by rw [hp]; decide)⟩
theorem rob_end : (metTo n (stdAll n).length).Nodup ∧ (metTo n (stdAll n).length).length = (permsF n n []).length ∧ (stdAll n).length ≤ 26 ∧ (permsF n n []).length ≤ 120 ∧ ∀ i, i < (stdAll n).length → mget (cntTo n (stdAll n).length) (keyL (rowLens ((stdAll n).getD i []))) = some (tabS (rowLens ((stdAll n).getD i [])).sum.toNat (rowLens ((stdAll n).getD i []))) := by
  have h := robC_at h1 h5
  unfold robC at h
  simp only [Bool.and_eq_true, decide_eq_true_eq] at h
  refine ⟨h.1.1.1.1, h.1.1.1.2, h.1.1.2, h.1.2, ?_⟩
  intro i hi
  have := List.all_eq_true.1 h.2 ((stdAll n).getD i []) (by rw [List.getD_eq_getElem?_getD, List.getElem?_eq_getElem hi]; exact List.getElem_mem hi)
  simpa using this
end
theorem takeT3 {n i : Nat} (hi : i < (stdAll n).length) : (stdAll n).take (i + 1) = (stdAll n).take i ++ [(stdAll n).getD i []] := by
  rw [List.take_add_one, List.getElem?_eq_getElem hi, List.getD_eq_getElem?_getD, List.getElem?_eq_getElem hi]; rfl
theorem metTo_succ {n i : Nat} (hi : i < (stdAll n).length) : metTo n (i + 1) = metTo n i ++ metIn (stdAll n) ((stdAll n).getD i []) := by
  unfold metTo
  rw [takeT3 hi, List.flatMap_append, List.flatMap_singleton]
theorem cntTo_succ {n i : Nat} (hi : i < (stdAll n).length) : cntTo n (i + 1) = cntStep (cntTo n i) ((stdAll n).getD i []) := by
  unfold cntTo
  rw [takeT3 hi, List.foldl_append]; rfl
theorem metIn_succ {n j : Nat} (x : List (List Int)) (hj : j < (stdAll n).length) : metIn ((stdAll n).take (j + 1)) x = metIn ((stdAll n).take j) x ++ if shapeL x = shapeL ((stdAll n).getD j []) then [keyP x ((stdAll n).getD j [])] else [] := by
  unfold metIn
  rw [takeT3 hj, List.filter_append, List.map_append]
  congr 1
  split
  · rename_i h
    rw [List.filter_cons_of_pos (by rw [decide_eq_true h])]; rfl
  · rename_i h
    rw [List.filter_cons_of_neg (by rw [decide_eq_false h]; decide)]; rfl
/-- What was met is part of what is met in the end. -/
theorem met_sub {n i j : Nat} (hi : i < (stdAll n).length) (hj : j ≤ (stdAll n).length) : (metTo n i ++ metIn ((stdAll n).take j) ((stdAll n).getD i [])).Sublist (metTo n (stdAll n).length) := by
  have h1 : (metIn ((stdAll n).take j) ((stdAll n).getD i [])).Sublist (metIn (stdAll n) ((stdAll n).getD i [])) := ((List.take_sublist j _).filter _).map _
  have h2 : (metTo n (i + 1)).Sublist (metTo n (stdAll n).length) := by
    unfold metTo
    rw [List.take_length]
    have h3 : ∀ f : List (List Int) → List Int, (((stdAll n).take (i + 1)).flatMap f).Sublist ((stdAll n).flatMap f) := by
      intro f
      conv => rhs; rw [← List.take_append_drop (i + 1) (stdAll n)]
      rw [List.flatMap_append]
      exact List.sublist_append_left _ _
    exact h3 _
  rw [metTo_succ hi] at h2
  exact ((List.Sublist.refl _).append h1).trans h2
theorem cnt_val {n : Nat} : ∀ i, i ≤ (stdAll n).length → ∀ a, 0 ≤ (mget (cntTo n i) a).getD 0 ∧ (mget (cntTo n i) a).getD 0 ≤ (i : Int) := by
  intro i
  induction i with
  | zero => intro _ a; exact ⟨Int.le_refl _, Int.le_refl _⟩
  | succ i ih =>
    intro hi a
    rw [cntTo_succ (by omega), cntStep, mget_mput]
    have h1 := ih (by omega) (keyL (rowLens ((stdAll n).getD i [])))
    have h2 := ih (by omega) a
    split
    · simp only [Option.getD_some]; omega
    · omega
end Go.Am
