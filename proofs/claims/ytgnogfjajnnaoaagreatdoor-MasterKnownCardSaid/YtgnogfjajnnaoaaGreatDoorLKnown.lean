/-
  MasterKnown: the examples of the chapter hold: the Go function returns true.
  Conditions: none.
-/
import Derived.Test.YtgnogfjajnnaoaaGreatDoorLKnownA
import Derived.Test.YtgnogfjajnnaoaaGreatDoorCards
import Derived.Test.YtgnogfjajnnaoaaGreatDoorTie
namespace Go.Proofs.YtgnogfjajnnaoaaGreatDoor.masterKnown
open Go.ChangeShapes Go.WideShapes Go.ChangeAt Go.RowKit Go.Am
theorem byText : Rows.masterKnownRow.wfByText (OpenSpec.ofChange Rows.masterKnownSpec) = true := by kernel_rfl
theorem mainIs : Tryz.pinned.checked.prog.mainIs = some (true, ("afce8a396815444d4406cdc9c23946eb5321332b248120e239658d6d6bac4cb6" : String).toList) := by kernel_rfl
theorem looksIs : true = Tryz.pinned.checked.prog.looks [] := by kernel_rfl
theorem goesIs : false = Rows.masterKnownRow.goesBy Tryz.pinned.checked.prog := by kernel_rfl
theorem proved : Rows.MasterKnownCardSaid :=
  Claim7.holds_tied_plain_at .later [] [.data, .data, .data, .data, .data, .pinned] true (true, "afce8a396815444d4406cdc9c23946eb5321332b248120e239658d6d6bac4cb6") true
    over (fun _ h => by cases h) byText (fun _ h => by cases h) masterKnown_row_tie rfl ⟨rfl, rfl⟩ mainIs rfl
    (fun f fn hf hfn => by
      obtain rfl : f = 8 := Option.some.inj (named.symm.trans hf) |>.symm
      obtain rfl : fn = Tryz.f8 := (Option.some.inj (Tryz.func8.symm.trans hfn)).symm
      exact ⟨looksIs, fun j t ht => by
        rw [Tryz.params8] at ht
        simp at ht⟩)
    goesIs
#print axioms proved
end Go.Proofs.YtgnogfjajnnaoaaGreatDoor.masterKnown
