/-
  Layer 13: the law of the piles, over the abstract machine.
  Conditions: none.
-/
import Derived.Test.YtenkokebdgekbaaCe
import Derived.Test.YtenkokebdgekbaaAmC
namespace Go.Am
open Go.Gr
set_option maxRecDepth 100000 in
theorem works_runs : runs Go.Proofs.Try.prog 300 16 [] true = true := by kernel_rfl
theorem works_c (h : AHeap) : ACalls Go.Proofs.Try.prog 16 [] h (fun r h' => r = .bool true ∧ h = h') := by
  obtain ⟨h1, he⟩ := runs_ev mixed works_runs
  exact he.acalls h
theorem alike_t {h : AHeap} {v u : AV} {l m : List (List Int)} (he : l = m) (hv : Mat h v l) (hu : Mat h u m) (hlen : l.length ≤ 4294967296) (hrow : ∀ i, i < l.length → (l.getD i []).length ≤ 4294967296) : ACalls Go.Proofs.Try.prog 23 [v, u] h (fun r h' => r = .bool true ∧ h = h') :=
  (alike_c hv hu hlen hrow).mono fun r h' ⟨h1, h2⟩ => ⟨by rw [h1, decide_eq_true he], h2⟩
theorem bestOf_len (l : List Int) (f : Bool) : (bestOf l f).length ≤ l.length := bestTo_len l f _

end Go.Am
