/-
  Layer 13: all tables in order, made by a function that calls itself.
  Conditions: none.
-/
import Derived.Test.YtenkokebdgekbaaAmI
import Derived.Test.YtenkokebdgekbaaCo
import Derived.Test.YtenkokebdgekbaaPt5
namespace Go.Am
open Go.Gr
/-- A table is read whenever the objects behind are there. -/
def Reads (h0 : AHeap) (G : List Obj) (v : AV) (T : List (List Int)) : Prop := ∃ vs : List AV, vs.length = T.length ∧ ∀ h A, St h0 h (A ++ G) → Rd h v 1 vs ∧ ∀ i, i < T.length → Row h (vs.getD i .bot) (T.getD i [])
theorem Reads.mat {h0 h : AHeap} {A G : List Obj} {v : AV} {T : List (List Int)} (hr : Reads h0 G v T) (hS : St h0 h (A ++ G)) : Mat h v T := let ⟨vs, hl, hw⟩ := hr; ⟨vs, (hw h A hS).1, hl, (hw h A hS).2⟩
theorem Reads.more {h0 : AHeap} {G : List Obj} {v : AV} {T : List (List Int)} (hr : Reads h0 G v T) (B : List Obj) : Reads h0 (B ++ G) v T := let ⟨vs, hl, hw⟩ := hr; ⟨vs, hl, fun h A hS => hw h (A ++ B) (by rw [List.append_assoc]; exact hS)⟩
theorem Reads.one {h0 h : AHeap} {A G : List Obj} {v : AV} {T : List (List Int)} (hr : Reads h0 G v T) (hS : St h0 h (A ++ G)) : v.one = true := let ⟨_, _, hw⟩ := hr; (hw h A hS).1.one
theorem Reads.own {h0 : AHeap} {vo : AV} {vs : List AV} {T : List (List Int)} {G : List Obj} (hl : vs.length = T.length) : Reads h0 (matObjs true vo vs T ++ G) vo T :=
  ⟨vs, hl, fun _ A hS => ⟨St.outer (pre := A) hS, fun _ hi => St.rowAt (pre := A) hS hl hi⟩⟩
theorem Reads.nil {h0 : AHeap} {G : List Obj} : Reads h0 G .nils [] := ⟨[], rfl, fun _ _ _ => ⟨.inl ⟨rfl, rfl⟩, fun _ hi => absurd hi (Nat.not_lt_zero _)⟩⟩
theorem St.g0 {h0 h : AHeap} {A B G : List Obj} (hS : St h0 h (A ++ (B ++ G))) : St h0 h ((A ++ B) ++ G) := by rw [List.append_assoc]; exact hS
theorem St.g1 {h0 h : AHeap} (M B : List Obj) {G : List Obj} {a b c d : Obj} (hS : St h0 h (a :: b :: c :: d :: (M ++ (B ++ G)))) : St h0 h ((a :: b :: c :: d :: (M ++ B)) ++ G) := by simpa only [List.cons_append, List.append_assoc] using hS
theorem St.g2 {h0 h : AHeap} (M B : List Obj) {G : List Obj} {a b c d e : Obj} (hS : St h0 h (a :: b :: c :: d :: e :: (M ++ (B ++ G)))) : St h0 h ((a :: b :: c :: d :: e :: (M ++ B)) ++ G) := by simpa only [List.cons_append, List.append_assoc] using hS
def ReadsL (h0 : AHeap) (G : List Obj) (vs : List AV) (L : List (List (List Int))) : Prop := vs.length = L.length ∧ ∀ i, i < L.length → Reads h0 G (vs.getD i .bot) (L.getD i [])
theorem ReadsL.more {h0 : AHeap} {G : List Obj} {vs : List AV} {L : List (List (List Int))} (hr : ReadsL h0 G vs L) (B : List Obj) : ReadsL h0 (B ++ G) vs L := ⟨hr.1, fun i hi => (hr.2 i hi).more B⟩

end Go.Am
