/-
  Layer 13: all packs, made by a function that calls itself.
  Conditions: none.
-/
import Derived.Test.YtenkokebdgekbaaCo
import Derived.Test.YtenkokebdgekbaaPt5
import Derived.Test.YtenkokebdgekbaaCf
namespace Go.Am
open Go.Gr
theorem St.rise {h0 h : AHeap} {u : Obj} {A M G : List Obj} (st : St h0 h (A ++ (M ++ (u :: G)))) : St h0 h (u :: (A ++ (M ++ G))) :=
  St.perm (by rw [← List.append_assoc A M (u :: G), ← List.append_assoc A M G]; exact List.perm_middle) st

end Go.Am
