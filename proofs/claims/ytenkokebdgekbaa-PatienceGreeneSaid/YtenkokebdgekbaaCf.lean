/-
  Layer 13: the law of the piles, over the abstract machine.
  Conditions: none.
-/
import Derived.Test.YtenkokebdgekbaaCb
import Derived.Test.YtenkokebdgekbaaPt1
import Derived.Test.YtenkokebdgekbaaPt2
import Derived.Test.YtenkokebdgekbaaPt3
import Derived.Test.YtenkokebdgekbaaAmC
namespace Go.Am
open Go.Gr
set_option maxRecDepth 100000 in
theorem works_runs : runs Go.Proofs.Try.prog 300 16 [] true = true := by kernel_rfl
theorem works_c (h : AHeap) : ACalls Go.Proofs.Try.prog 16 [] h (fun r h' => r = .bool true ∧ h = h') := by
  obtain ⟨h1, he⟩ := runs_ev mixed works_runs
  exact he.acalls h

end Go.Am
