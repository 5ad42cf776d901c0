/-
  TopJudge: whatever the numbers, the Go function returns true: where a flow has one of two to eight forms, the duty master meets a claim just if all flows have the number, before and after a way is seen: just if it is known to one who sees nothing and to one who sees this way.
  Conditions: none.
-/
import Derived.Test.YtdfhmdhjeiipfaaGreatDoorLJudgeA
import Derived.Test.YtdfhmdhjeiipfaaGreatDoorCards
import Derived.Test.YtdfhmdhjeiipfaaGreatDoorTie
namespace Go.Proofs.YtdfhmdhjeiipfaaGreatDoor.topJudge
open Go.ChangeShapes Go.WideShapes Go.ChangeAt Go.RowKit Go.Am
theorem byText:Rows.topJudgeRow.wfByText (OpenSpec.ofChange Rows.topJudgeSpec)=true:=by kernel_rfl
theorem mainIs:Tryz.pinned.checked.prog.mainIs=some (true,("2516fa6afe5e249a49a22fd1f208c99821250fc8e4767db3dde5750cb17b8910":String).toList):=by kernel_rfl
theorem looksIs:true=Tryz.pinned.checked.prog.looks []:=by kernel_rfl
theorem goesIs:false=Rows.topJudgeRow.goesBy Tryz.pinned.checked.prog:=by kernel_rfl
theorem proved:Rows.TopJudgeCardSaid:=
  Claim7.holds_tied_plain_at .later [] [.data, .data, .data, .data, .pinned] true (true, "2516fa6afe5e249a49a22fd1f208c99821250fc8e4767db3dde5750cb17b8910") true
    over (fun _ h=>by cases h) byText (fun _ h=>by cases h) topJudge_row_tie rfl ⟨rfl,rfl⟩ mainIs rfl
    (fun f fn hf hfn=>by
      obtain rfl:f=5:=Option.some.inj (named.symm.trans hf) |>.symm;obtain rfl:fn=Tryz.f5:=(Option.some.inj (Tryz.func5.symm.trans hfn)).symm;exact⟨looksIs,fun j t ht=>by
        rw[Tryz.params5] at ht;have hm:t∈[5,45,5,5,5]:=by simpa using Array.mem_of_getElem? ht
        have hall:([5,45,5,5,5].all fun u=>!Tryz.prog.wantsStandIn u)=true:=by kernel_rfl
        exact(show Tryz.prog.wantsStandIn t=false by simpa using List.all_eq_true.1 hall t hm)⟩)
    goesIs
#print axioms proved
end Go.Proofs.YtdfhmdhjeiipfaaGreatDoor.topJudge
