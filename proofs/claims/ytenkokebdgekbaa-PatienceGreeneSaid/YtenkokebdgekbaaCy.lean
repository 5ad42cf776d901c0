/-
  Layer 13: the law that tables lead back to packs.
  Conditions: none.
-/
import Derived.Test.YtenkokebdgekbaaCv
import Derived.Test.YtenkokebdgekbaaAmI
import Derived.Test.YtenkokebdgekbaaCo
import Derived.Test.YtenkokebdgekbaaPt5
import Derived.Test.YtenkokebdgekbaaPt15
import Derived.Test.YtenkokebdgekbaaCk
import Derived.Test.YtenkokebdgekbaaCn
import Derived.Test.YtenkokebdgekbaaCs
import Derived.Test.YtenkokebdgekbaaPt9
import Derived.Test.YtenkokebdgekbaaCi
namespace Go.Am
open Go.Gr
theorem rec_facts {l : List Int} (hc : checkE l = 0) : (Tab (insAll l) ∧ IsPack (insAll l).flatten ∧ (insAll l).flatten.length = l.length) ∧ (Tab (recOf l) ∧ IsPack (recOf l).flatten ∧ (recOf l).flatten.length = l.length) ∧ shapeL (insAll l) = shapeL (recOf l) ∧
    (insAll l).length ≤ 9 ∧ (∀ j, ((insAll l).getD j []).length ≤ 9) ∧ (recOf l).length ≤ 9 ∧ (∀ j, ((recOf l).getD j []).length ≤ 9) ∧ packE (insAll l) (recOf l) = 0 ∧ packOf (insAll l) (recOf l) = l := by
  obtain ⟨h0, h9, hp⟩ := checkE_ok hc
  have ha := insAll_pack hp
  have hb1 := recOf_tab hp.1
  have hb2 := recOf_pack l
  have hs : shapeL (insAll l) = shapeL (recOf l) := by
    have := shapes l l.length (Nat.le_refl _)
    rw [List.take_length] at this
    exact this.symm
  have key : ∀ T : List (List Int), Tab T → T.flatten.length = l.length → T.length ≤ 9 ∧ ∀ j, (T.getD j []).length ≤ 9 := by
    intro T ht hl
    have h1 := rows_flat (tab_ne ht)
    refine ⟨by omega, fun j => ?_⟩
    by_cases hj : j < T.length
    · have := (ord_row ht hj).2.2; omega
    · rw [getDL_out (by omega)]; exact Nat.zero_le _
  have hne : ∀ T : List (List Int), T.flatten.length = l.length → T ≠ [] := by
    rintro T hl rfl
    simp at hl; omega
  obtain ⟨k1, k2⟩ := key _ ha.1 ha.2.2
  obtain ⟨k3, k4⟩ := key _ hb1 hb2.2
  have e1 := stdE_of ha.1 ha.2.1 (hne _ ha.2.2) (by omega)
  have e2 := stdE_of hb1 hb2.1 (hne _ hb2.2) (by omega)
  have hpe : packE (insAll l) (recOf l) = 0 := by unfold packE; rw [if_pos e1, if_pos e2, if_pos hs]
  refine ⟨ha, ⟨hb1, hb2⟩, hs, k1, k2, k3, k4, hpe, ?_⟩
  unfold packOf
  rw [if_pos hpe, hb2.2]
  exact unpack_back hp.1

end Go.Am
