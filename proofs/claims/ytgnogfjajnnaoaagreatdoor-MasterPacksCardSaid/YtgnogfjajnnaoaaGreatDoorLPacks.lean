/-
  MasterPacks: whatever the year, the Go function returns true: each pack is bare, sealed, dealt or burnt, as told, and ways have the packs that are there.
  Conditions: none.
-/
import Derived.Test.YtgnogfjajnnaoaaGreatDoorLPacksA
import Derived.Test.YtgnogfjajnnaoaaGreatDoorCards
import Derived.Test.YtgnogfjajnnaoaaGreatDoorTie
namespace Go.Proofs.YtgnogfjajnnaoaaGreatDoor.masterPacks
open Go.ChangeShapes Go.WideShapes Go.ChangeAt Go.RowKit Go.Am
theorem byText:Rows.masterPacksRow.wfByText (OpenSpec.ofChange Rows.masterPacksSpec)=true:=by kernel_rfl
theorem mainIs:Tryz.pinned.checked.prog.mainIs=some (true,("afce8a396815444d4406cdc9c23946eb5321332b248120e239658d6d6bac4cb6":String).toList):=by kernel_rfl
theorem looksIs:true=Tryz.pinned.checked.prog.looks []:=by kernel_rfl
theorem goesIs:false=Rows.masterPacksRow.goesBy Tryz.pinned.checked.prog:=by kernel_rfl
theorem proved:Rows.MasterPacksCardSaid:=
  Claim7.holds_tied_plain_at .later [] [.data, .data, .data, .data, .data, .sentinel, .sentinel, .pinned] true (true, "afce8a396815444d4406cdc9c23946eb5321332b248120e239658d6d6bac4cb6") true
    over (fun _ h=>by cases h) byText (fun _ h=>by cases h) masterPacks_row_tie rfl ⟨rfl,rfl⟩ mainIs rfl
    (fun f fn hf hfn=>by
      obtain rfl:f=12:=Option.some.inj (named.symm.trans hf) |>.symm;obtain rfl:fn=Tryz.f12:=(Option.some.inj (Tryz.func12.symm.trans hfn)).symm;exact⟨looksIs,fun j t ht=>by
        rw[Tryz.params12] at ht;have hm:t∈[53]:=by simpa using Array.mem_of_getElem? ht
        have hall:([53].all fun u=>!Tryz.prog.wantsStandIn u)=true:=by kernel_rfl
        exact(show Tryz.prog.wantsStandIn t=false by simpa using List.all_eq_true.1 hall t hm)⟩)
    goesIs
#print axioms proved
end Go.Proofs.YtgnogfjajnnaoaaGreatDoor.masterPacks
