/-
  MasterNames: whatever the year and the turn, the Go function returns true: under other names all is as it was, under these names.
  Conditions: none.
-/
import Derived.Test.YtgnogfjajnnaoaaGreatDoorLNamesA
import Derived.Test.YtgnogfjajnnaoaaGreatDoorCards
import Derived.Test.YtgnogfjajnnaoaaGreatDoorTie
namespace Go.Proofs.YtgnogfjajnnaoaaGreatDoor.masterNames
open Go.ChangeShapes Go.WideShapes Go.ChangeAt Go.RowKit Go.Am
theorem byText:Rows.masterNamesRow.wfByText (OpenSpec.ofChange Rows.masterNamesSpec)=true:=by kernel_rfl
theorem mainIs:Tryz.pinned.checked.prog.mainIs=some (true,("afce8a396815444d4406cdc9c23946eb5321332b248120e239658d6d6bac4cb6":String).toList):=by kernel_rfl
theorem looksIs:true=Tryz.pinned.checked.prog.looks []:=by kernel_rfl
theorem goesIs:false=Rows.masterNamesRow.goesBy Tryz.pinned.checked.prog:=by kernel_rfl
theorem proved:Rows.MasterNamesCardSaid:=
  Claim7.holds_tied_plain_at .later [] [.data, .data, .data, .data, .data, .pinned] true (true, "afce8a396815444d4406cdc9c23946eb5321332b248120e239658d6d6bac4cb6") true
    over (fun _ h=>by cases h) byText (fun _ h=>by cases h) masterNames_row_tie rfl ⟨rfl,rfl⟩ mainIs rfl
    (fun f fn hf hfn=>by
      obtain rfl:f=7:=Option.some.inj (named.symm.trans hf) |>.symm;obtain rfl:fn=Tryz.f7:=(Option.some.inj (Tryz.func7.symm.trans hfn)).symm;exact⟨looksIs,fun j t ht=>by
        rw[Tryz.params7] at ht;have hm:t∈[53,5]:=by simpa using Array.mem_of_getElem? ht
        have hall:([53,5].all fun u=>!Tryz.prog.wantsStandIn u)=true:=by kernel_rfl
        exact(show Tryz.prog.wantsStandIn t=false by simpa using List.all_eq_true.1 hall t hm)⟩)
    goesIs
#print axioms proved
end Go.Proofs.YtgnogfjajnnaoaaGreatDoor.masterNames
