/-
  MasterUndone: whatever the two years, the Go function returns true: a line that was done and taken back leaves all as it was, a new book that is told the lines is the same, and Would says what Do does.
  Conditions: none.
-/
import Derived.Test.YtgnogfjajnnaoaaGreatDoorLUndoneA
import Derived.Test.YtgnogfjajnnaoaaGreatDoorCards
import Derived.Test.YtgnogfjajnnaoaaGreatDoorTie
namespace Go.Proofs.YtgnogfjajnnaoaaGreatDoor.masterUndone
open Go.ChangeShapes Go.WideShapes Go.ChangeAt Go.RowKit Go.Am
theorem byText : Rows.masterUndoneRow.wfByText (OpenSpec.ofChange Rows.masterUndoneSpec) = true := by kernel_rfl
theorem mainIs : Tryz.pinned.checked.prog.mainIs = some (true, ("afce8a396815444d4406cdc9c23946eb5321332b248120e239658d6d6bac4cb6" : String).toList) := by kernel_rfl
theorem looksIs : true = Tryz.pinned.checked.prog.looks [] := by kernel_rfl
theorem goesIs : false = Rows.masterUndoneRow.goesBy Tryz.pinned.checked.prog := by kernel_rfl
theorem proved : Rows.MasterUndoneCardSaid :=
  Claim7.holds_tied_plain_at .later [] [.data, .data, .data, .data, .data, .pinned] true (true, "afce8a396815444d4406cdc9c23946eb5321332b248120e239658d6d6bac4cb6") true
    over (fun _ h => by cases h) byText (fun _ h => by cases h) masterUndone_row_tie rfl ⟨rfl, rfl⟩ mainIs rfl
    (fun f fn hf hfn => by
      obtain rfl : f = 6 := Option.some.inj (named.symm.trans hf) |>.symm
      obtain rfl : fn = Tryz.f6 := (Option.some.inj (Tryz.func6.symm.trans hfn)).symm
      exact ⟨looksIs, fun j t ht => by
        rw [Tryz.params6] at ht
        have hm : t ∈ [53, 53] := by simpa using Array.mem_of_getElem? ht
        have hall : ([53, 53].all fun u => !Tryz.prog.wantsStandIn u) = true := by kernel_rfl
        exact (show Tryz.prog.wantsStandIn t = false by simpa using List.all_eq_true.1 hall t hm)⟩)
    goesIs
#print axioms proved
end Go.Proofs.YtgnogfjajnnaoaaGreatDoor.masterUndone
