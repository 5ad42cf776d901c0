/-
  Layer 13, the plain part: orders without long rows, found by trying all.
  Conditions: none.
-/
import Derived.Test.YtenkokebdgekbaaPt3
namespace Go.Am
open Go.Gr

def withoutS (k r f : Nat) : Nat → List Int → Option (List Int)
  | 0, b => if r ≤ (bestOf b false).length ∨ f ≤ (bestOf b true).length then none else if b.length = k then some b else none
  | d + 1, b => if r ≤ (bestOf b false).length ∨ f ≤ (bestOf b true).length then none else if b.length = k then some b else (List.range k).findSome? fun i : Nat => if (i : Int) ∈ b then none else withoutS k r f d (b ++ [(i : Int)])
def wTry (k r f d : Nat) (b : List Int) (i : Nat) : Option (List Int) := if (i : Int) ∈ b then none else withoutS k r f d (b ++ [(i : Int)])
theorem withoutS_cut {k r f d : Nat} {b : List Int} (h : r ≤ (bestOf b false).length ∨ f ≤ (bestOf b true).length) : withoutS k r f d b = none := by
  cases d <;> rw [withoutS, if_pos h]
theorem withoutS_full {k r f d : Nat} {b : List Int} (h : ¬ (r ≤ (bestOf b false).length ∨ f ≤ (bestOf b true).length)) (hb : b.length = k) : withoutS k r f d b = some b := by
  cases d <;> rw [withoutS, if_neg h, if_pos hb]
theorem withoutS_go {k r f d : Nat} {b : List Int} (h : ¬ (r ≤ (bestOf b false).length ∨ f ≤ (bestOf b true).length)) (hb : b.length ≠ k) : withoutS k r f (d + 1) b = (List.range k).findSome? (wTry k r f d b) := by
  rw [withoutS, if_neg h, if_neg hb]; rfl
theorem fs_none {g : Nat → Option (List Int)} {k : Nat} (h : ∀ j, j < k → g j = none) : (List.range k).findSome? g = none :=
  List.findSome?_eq_none_iff.2 fun j hj => h j (List.mem_range.1 hj)
theorem fs_at {g : Nat → Option (List Int)} {k i : Nat} {l : List Int} (hi : i < k) (h : ∀ j, j < i → g j = none) (hg : g i = some l) : (List.range k).findSome? g = some l := by
  induction k with
  | zero => omega
  | succ k ih =>
    rw [List.range_succ, List.findSome?_append]
    rcases Nat.lt_or_eq_of_le (Nat.le_of_lt_succ hi) with h1 | rfl
    · rw [ih h1]; rfl
    · rw [fs_none h]; simp [hg]

theorem ris_not (f : Bool) (a b : Int) : ris (!f) a b = ris f b a := by cases f <;> rfl
theorem mono_reverse {f : Bool} {s : List Int} (h : Mono f s) : Mono (!f) s.reverse := by
  refine List.pairwise_reverse.2 (List.Pairwise.imp (fun {a b} hab => ?_) h)
  rw [ris_not]; exact hab
theorem long_iff {c : List Int} (hn : c.Nodup) {r : Nat} (hr : 0 < r) (f : Bool) : r ≤ (bestOf c.reverse f).length ↔ ∃ j, j < c.length ∧ (r : Int) ≤ (lgL (!f) c).getD j 0 := by
  have hb := bestOf_is c.reverse f
  have hnr : c.reverse.Nodup := List.pairwise_reverse.2 (hn.imp Ne.symm)
  constructor
  · intro h
    have hm := mono_reverse ((runs_mono (hnr.sublist hb.sub)).1 hb.run)
    have hs : (bestOf c.reverse f).reverse.Sublist c := by have := hb.sub.reverse; rwa [List.reverse_reverse] at this
    have hl : (bestOf c.reverse f).reverse.length = (bestOf c.reverse f).length := List.length_reverse
    cases hq : (bestOf c.reverse f).reverse with
    | nil => rw [hq] at hl; simp at hl; omega
    | cons y s =>
      rw [hq] at hm hs hl
      obtain ⟨j, _, hj, hy, hs2⟩ := cons_sub (q := 0) (by simpa using hs)
      have h1 := (lg_says (!f) c j hj).1 s hs2 (by rw [hy]; exact hm)
      rw [List.length_cons] at hl
      exact ⟨j, hj, by omega⟩
  · rintro ⟨j, hj, h⟩
    obtain ⟨s, h4, h5, h6⟩ := (lg_says (!f) c j hj).2.1
    have hs : (c.getD j 0 :: s).Sublist c := by
      have : (c.getD j 0 :: s).Sublist (c.drop j) := by rw [drop_cons hj]; exact h4.cons_cons _
      exact this.trans (List.drop_sublist _ _)
    have hm := mono_reverse h5
    rw [Bool.not_not] at hm
    have ht := hb.top _ hs.reverse ((runs_mono (hnr.sublist hs.reverse)).2 hm)
    have : ¬ (bestOf c.reverse f).length < (c.getD j 0 :: s).reverse.length := fun hlt => by rw [better_long hlt] at ht; cases ht
    rw [List.length_reverse, List.length_cons] at this
    omega

def stepN (f : Bool) (x : Nat) : List Nat → List Nat → Nat → Nat
  | y :: ys, m :: ms, a => stepN f x ys ms (bif (bif f then Nat.blt y x else Nat.blt x y) then (bif Nat.ble (m + 1) a then a else m + 1) else a)
  | _, _, a => a
def labN (f : Bool) : List Nat → List Nat
  | [] => []
  | x :: c => stepN f x c (labN f c) 1 :: labN f c
def up (l : List Nat) : List Int := l.map fun n : Nat => (n : Int)
theorem blt_iff (a b : Nat) : Nat.blt a b = decide (a < b) := by
  by_cases h : a < b
  · rw [decide_eq_true h]; exact Nat.ble_eq_true_of_le h
  · rw [decide_eq_false h]; exact Bool.eq_false_iff.2 fun hq => h (Nat.le_of_ble_eq_true hq)
theorem stepN_is (f : Bool) (x : Nat) : ∀ (c m : List Nat) (a : Nat), lgStep f x ((up c).zip (up m)) a = (stepN f x c m a : Nat) := by
  intro c
  induction c with
  | nil => intro m a; simp [up, lgStep, stepN]
  | cons y c ih =>
    intro m a
    cases m with
    | nil => simp [up, lgStep, stepN]
    | cons b m =>
      rw [stepN, ← ih]
      show lgStep f x (((y : Int), (b : Int)) :: (up c).zip (up m)) a = _
      rw [lgStep, List.foldl_cons]
      show lgStep f x _ (if ris f x y then max (a : Int) (1 + (b : Int)) else a) = _
      congr 1
      have hr : ris f x y = (bif f then Nat.blt y x else Nat.blt x y) := by
        cases f
        · show decide ((x : Int) < y) = Nat.blt x y
          rw [blt_iff]; exact decide_eq_decide.2 (by omega)
        · show decide ((y : Int) < x) = Nat.blt y x
          rw [blt_iff]; exact decide_eq_decide.2 (by omega)
      rw [hr]
      cases (bif f then Nat.blt y x else Nat.blt x y)
      · rfl
      · rw [if_pos rfl, cond_true]
        by_cases h : b + 1 ≤ a
        · rw [Nat.ble_eq_true_of_le h, cond_true]; omega
        · rw [Bool.eq_false_iff.2 fun hq => h (Nat.le_of_ble_eq_true hq), cond_false]; omega
theorem labN_is (f : Bool) (c : List Nat) : lgL f (up c) = up (labN f c) := by
  induction c with
  | nil => rfl
  | cons x c ih =>
    show lgL f ((x : Int) :: up c) = ((stepN f x c (labN f c) 1 : Nat) : Int) :: up (labN f c)
    rw [lgL, ih, show (1 : Int) = ((1 : Nat) : Int) from rfl, stepN_is]
theorem up_getD (c : List Nat) (j : Nat) : (up c).getD j 0 = ((c.getD j 0 : Nat) : Int) := by
  simp only [up, List.getD_eq_getElem?_getD, List.getElem?_map]
  cases c[j]? <;> rfl
theorem up_len (c : List Nat) : (up c).length = c.length := List.length_map _
theorem labN_len (f : Bool) (c : List Nat) : (labN f c).length = c.length := by
  induction c with
  | nil => rfl
  | cons x c ih => simp [labN, ih]
theorem up_nodup {c : List Nat} (h : c.Nodup) : (up c).Nodup := by
  refine List.Pairwise.map _ (fun a b hab => ?_) h
  omega
theorem up_mem {c : List Nat} {i : Nat} : (i : Int) ∈ up c ↔ i ∈ c := by
  unfold up
  rw [List.mem_map]
  constructor
  · rintro ⟨a, ha, he⟩
    have : a = i := by omega
    rw [← this]; exact ha
  · intro h; exact ⟨i, h, rfl⟩
theorem up_rev (c : List Nat) : up c.reverse = (up c).reverse := List.map_reverse ..
theorem long_up {c : List Nat} (hn : c.Nodup) {r : Nat} (hr : 0 < r) (f : Bool) : r ≤ (bestOf (up c.reverse) f).length ↔ (labN (!f) c).any (Nat.ble r) = true := by
  rw [up_rev, long_iff (up_nodup hn) hr, labN_is, up_len, List.any_eq_true]
  constructor
  · rintro ⟨j, hj, h⟩
    rw [up_getD] at h
    have hj2 : j < (labN (!f) c).length := by rw [labN_len]; exact hj
    refine ⟨(labN (!f) c).getD j 0, ?_, Nat.ble_eq_true_of_le (by omega)⟩
    rw [List.getD_eq_getElem?_getD, List.getElem?_eq_getElem hj2]
    exact List.getElem_mem hj2
  · rintro ⟨x, hx, h⟩
    obtain ⟨j, hj, rfl⟩ := List.getElem_of_mem hx
    have := Nat.le_of_ble_eq_true h
    refine ⟨j, by rw [labN_len] at hj; exact hj, ?_⟩
    rw [up_getD, List.getD_eq_getElem?_getD, List.getElem?_eq_getElem hj]
    simpa using this

def fw (k r f : Nat) : Nat → List Nat → List Nat → List Nat → Option (List Nat)
  | 0, c, lr, lf => bif lr.any (Nat.ble r) || lf.any (Nat.ble f) then none else bif Nat.beq c.length k then some c.reverse else none
  | d + 1, c, lr, lf => bif lr.any (Nat.ble r) || lf.any (Nat.ble f) then none else bif Nat.beq c.length k then some c.reverse else (List.range k).findSome? fun i => bif c.any (Nat.beq i) then none else fw k r f d (i :: c) (stepN true i c lr 1 :: lr) (stepN false i c lf 1 :: lf)
theorem beq_iff (a b : Nat) : Nat.beq a b = decide (a = b) := by
  by_cases h : a = b
  · rw [decide_eq_true h, h]; exact Nat.beq_refl b
  · rw [decide_eq_false h]; exact Bool.eq_false_iff.2 fun hq => h (Nat.eq_of_beq_eq_true hq)
theorem fw_is {k r f : Nat} (hr : 0 < r) (hf : 0 < f) : ∀ (d : Nat) (c : List Nat), c.Nodup → (fw k r f d c (labN true c) (labN false c)).map up = withoutS k r f d (up c.reverse) := by
  have cutB : ∀ c : List Nat, c.Nodup → ((labN true c).any (Nat.ble r) || (labN false c).any (Nat.ble f)) = decide (r ≤ (bestOf (up c.reverse) false).length ∨ f ≤ (bestOf (up c.reverse) true).length) := by
    intro c hn
    have h1 := long_up hn hr false
    have h2 := long_up hn hf true
    simp only [Bool.not_false, Bool.not_true] at h1 h2
    rw [Bool.eq_iff_iff, Bool.or_eq_true, decide_eq_true_eq, h1, h2]
  intro d
  induction d with
  | zero =>
    intro c hn
    rw [fw, cutB c hn, beq_iff]
    by_cases h : r ≤ (bestOf (up c.reverse) false).length ∨ f ≤ (bestOf (up c.reverse) true).length
    · rw [withoutS_cut h, decide_eq_true h]; rfl
    · rw [decide_eq_false h, cond_false]
      by_cases hk : c.length = k
      · rw [withoutS_full h (by rw [up_len, List.length_reverse]; exact hk), decide_eq_true hk]; rfl
      · rw [decide_eq_false hk, cond_false, withoutS, if_neg h, if_neg (by rw [up_len, List.length_reverse]; exact hk)]; rfl
  | succ d ih =>
    intro c hn
    rw [fw, cutB c hn, beq_iff]
    by_cases h : r ≤ (bestOf (up c.reverse) false).length ∨ f ≤ (bestOf (up c.reverse) true).length
    · rw [withoutS_cut h, decide_eq_true h]; rfl
    · rw [decide_eq_false h, cond_false]
      by_cases hk : c.length = k
      · rw [withoutS_full h (by rw [up_len, List.length_reverse]; exact hk), decide_eq_true hk]; rfl
      · rw [decide_eq_false hk, cond_false, withoutS_go h (by rw [up_len, List.length_reverse]; exact hk), List.map_findSome?]
        congr 1
        funext i
        show Option.map up (bif c.any (Nat.beq i) then none else _) = wTry k r f d (up c.reverse) i
        have ha : c.any (Nat.beq i) = decide (i ∈ c) := by
          rw [Bool.eq_iff_iff, List.any_eq_true, decide_eq_true_eq]
          constructor
          · rintro ⟨x, hx, he⟩; rw [Nat.eq_of_beq_eq_true he]; exact hx
          · intro hx; exact ⟨i, hx, Nat.beq_refl i⟩
        rw [ha, wTry]
        by_cases hi : i ∈ c
        · rw [decide_eq_true hi, cond_true, if_pos (up_mem.2 (List.mem_reverse.2 hi))]; rfl
        · rw [decide_eq_false hi, cond_false, if_neg (fun hq => hi (List.mem_reverse.1 (up_mem.1 hq)))]
          have h3 := ih (i :: c) (List.nodup_cons.2 ⟨hi, hn⟩)
          rw [show up (i :: c).reverse = up c.reverse ++ [(i : Int)] by simp [up]] at h3
          exact h3

/-- What the program gives. -/
def flatW (f : Int) (i : Nat) : List Int := (List.range i).flatMap fun a : Nat => (List.range (f.toNat - 1)).map fun b : Nat => ((a : Int) + 1) * (f - 1) - ((b : Int) + 1)
theorem flatW_len {f : Int} (hf : f ≤ 4) (i : Nat) : (flatW f i).length ≤ 3 * i := by
  induction i with
  | zero => simp [flatW]
  | succ i ih =>
    unfold flatW at ih ⊢
    rw [List.range_succ, List.flatMap_append, List.length_append, List.flatMap_singleton, List.length_map, List.length_range]
    omega
theorem flatW_succ (f : Int) (i : Nat) : flatW f (i + 1) = flatW f i ++ (List.range (f.toNat - 1)).map fun b : Nat => ((i : Int) + 1) * (f - 1) - ((b : Int) + 1) := by
  unfold flatW
  rw [List.range_succ, List.flatMap_append, List.flatMap_singleton]
def wOk (r f : Nat) : Bool := match fw ((r - 1) * (f - 1)) r f ((r - 1) * (f - 1)) [] [] [] with
  | none => false
  | some l => decide (up l = flatW (f : Int) (r - 1))
set_option maxRecDepth 100000 in
theorem wOk_all : (wOk 2 2 && wOk 2 3 && wOk 2 4 && wOk 3 2 && wOk 3 3 && wOk 3 4 && wOk 4 2 && wOk 4 3) = true := by decide +kernel
set_option maxRecDepth 100000 in
theorem wOk_44 : wOk 4 4 = true := by decide +kernel
theorem without_is {r f : Int} (h1 : 2 ≤ r) (h2 : r ≤ 4) (h3 : 2 ≤ f) (h4 : f ≤ 4) : withoutS ((r.toNat - 1) * (f.toNat - 1)) r.toNat f.toNat ((r.toNat - 1) * (f.toNat - 1)) [] = some (flatW f (r.toNat - 1)) := by
  have hall := wOk_all
  simp only [Bool.and_eq_true] at hall
  have hw : wOk r.toNat f.toNat = true := by
    have hr : r = 2 ∨ r = 3 ∨ r = 4 := by omega
    have hf : f = 2 ∨ f = 3 ∨ f = 4 := by omega
    obtain ⟨⟨⟨⟨⟨⟨⟨a, b⟩, c⟩, d⟩, e⟩, g⟩, i⟩, j⟩ := hall
    rcases hr with rfl | rfl | rfl <;> rcases hf with rfl | rfl | rfl
    · exact a
    · exact b
    · exact c
    · exact d
    · exact e
    · exact g
    · exact i
    · exact j
    · exact wOk_44
  have hq := fw_is (k := (r.toNat - 1) * (f.toNat - 1)) (r := r.toNat) (f := f.toNat) (by omega) (by omega) ((r.toNat - 1) * (f.toNat - 1)) [] List.nodup_nil
  rw [show up ([] : List Nat).reverse = [] from rfl, show labN true [] = [] from rfl, show labN false [] = [] from rfl] at hq
  rw [← hq]
  unfold wOk at hw
  split at hw
  · cases hw
  · rename_i l hl
    rw [hl, Option.map_some, of_decide_eq_true hw, show ((f.toNat : Nat) : Int) = f by omega]

end Go.Am
