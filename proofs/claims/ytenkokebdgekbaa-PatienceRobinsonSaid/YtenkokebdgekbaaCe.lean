/-
  Contracts of layer 13: longest rows of the program.
  Conditions: none.
-/
import Derived.Test.YtenkokebdgekbaaCb
import Derived.Test.YtenkokebdgekbaaPt1
import Derived.Test.YtenkokebdgekbaaPt2
import Derived.Test.YtenkokebdgekbaaPt3
namespace Go.Am
open Go.Gr

theorem repl_set (i : Nat) (L : List Int) (c : Int) : (List.replicate (i + 1) 0 ++ L).set i c = List.replicate i 0 ++ c :: L := by
  rw [List.replicate_succ', List.append_assoc, List.set_append_right _ _ (by simp)]; simp

end Go.Am
