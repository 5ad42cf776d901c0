/-
  Layer 13: the number of tables of a shape: contracts.
  Conditions: none.
-/
import Derived.Test.YtenkokebdgekbaaCf
import Derived.Test.YtenkokebdgekbaaAmF
import Derived.Test.YtenkokebdgekbaaPt10
import Derived.Test.YtenkokebdgekbaaPt11
namespace Go.Am
open Go.Gr
/-- A row, or nothing. -/
def WO (h : AHeap) (v : AV) : Option (List Int) → Prop
  | none => v = .nils
  | some l => Row h v l ∧ l ≠ []
theorem WO.keep {h h' : AHeap} {v : AV} {o : Option (List Int)} (k : Keeps h h') (w : WO h v o) : WO h' v o := by
  cases o with
  | none => exact w
  | some l => exact ⟨Row.ext k w.1, w.2⟩
variable {P : Program} {n : Nat} {ops : Array Oper} {ex : List Nat} {Q : KF → AHeap → Prop} {k : Nat} {os : List Oper} {K : KF} {h h0 : AHeap} {d : Nat} {ty : TypeId} {pos : String} {after : Array Edge} {objs pre rest : List Obj}

end Go.Am
