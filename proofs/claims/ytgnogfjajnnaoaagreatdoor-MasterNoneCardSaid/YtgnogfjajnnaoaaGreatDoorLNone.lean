/-
  MasterNone: whatever the line, the way and the number, the Go function returns true: a book that is none, or was not made, returns nothing, and its errors are those of nil.
  Conditions: none.
-/
import Derived.Test.YtgnogfjajnnaoaaGreatDoorLNoneA
import Derived.Test.YtgnogfjajnnaoaaGreatDoorCards
import Derived.Test.YtgnogfjajnnaoaaGreatDoorTie
namespace Go.Proofs.YtgnogfjajnnaoaaGreatDoor.masterNone
open Go.ChangeShapes Go.WideShapes Go.ChangeAt Go.RowKit Go.Am
theorem byText : Rows.masterNoneRow.wfByText (OpenSpec.ofChange Rows.masterNoneSpec) = true := by kernel_rfl
theorem mainIs : Tryz.pinned.checked.prog.mainIs = some (true, ("afce8a396815444d4406cdc9c23946eb5321332b248120e239658d6d6bac4cb6" : String).toList) := by kernel_rfl
theorem looksIs : true = Tryz.pinned.checked.prog.looks [] := by kernel_rfl
theorem goesIs : false = Rows.masterNoneRow.goesBy Tryz.pinned.checked.prog := by kernel_rfl
theorem proved : Rows.MasterNoneCardSaid :=
  Claim7.holds_tied_plain_at .later [] [.data, .data, .data, .data, .data, .pinned] true (true, "afce8a396815444d4406cdc9c23946eb5321332b248120e239658d6d6bac4cb6") true
    over (fun _ h => by cases h) byText (fun _ h => by cases h) masterNone_row_tie rfl ⟨rfl, rfl⟩ mainIs rfl
    (fun f fn hf hfn => by
      obtain rfl : f = 5 := Option.some.inj (named.symm.trans hf) |>.symm
      obtain rfl : fn = Tryz.f5 := (Option.some.inj (Tryz.func5.symm.trans hfn)).symm
      exact ⟨looksIs, fun j t ht => by
        rw [Tryz.params5] at ht
        have hm : t ∈ [9, 9, 3] := by simpa using Array.mem_of_getElem? ht
        have hall : ([9, 9, 3].all fun u => !Tryz.prog.wantsStandIn u) = true := by kernel_rfl
        exact (show Tryz.prog.wantsStandIn t = false by simpa using List.all_eq_true.1 hall t hm)⟩)
    goesIs
#print axioms proved
end Go.Proofs.YtgnogfjajnnaoaaGreatDoor.masterNone
