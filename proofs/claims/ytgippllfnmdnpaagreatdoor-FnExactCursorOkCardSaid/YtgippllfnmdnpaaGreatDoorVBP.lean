/- Own text: part VBP. -/
import Derived.Test.YtgippllfnmdnpaaGreatDoorVBO
set_option linter.all false
namespace Go.Proofs.YtgippllfnmdnpaaGreatDoor.fnExactCursorOk
open Go.ChangeMaps (open_string shut_string)
open Go.ChangeShapes Go.WideShapes Go.ChangeAt Go.RowKit Go.Vg
theorem d1:Rows.fnExactCursorOkRow.wfByText (OpenSpec.ofChange Rows.fnExactCursorOkSpec)=true:=by kernel_rfl
theorem d2:Tryz.pinned.checked.prog.mainIs=some ((true, "d0fe93772344aec577757371c214af22f2460713fd3c248127ef10f817705425").1,(true, "d0fe93772344aec577757371c214af22f2460713fd3c248127ef10f817705425").2.toList):=by kernel_rfl
theorem d3:Tryz.prog.funcNamed "loop.example/g00666/laws.FnExactCursorOk" = some 9:=by kernel_rfl
theorem d4:false=Tryz.pinned.checked.prog.looks []:=by kernel_rfl
theorem d5:([56].all fun u=>!Tryz.prog.wantsStandIn u)=true:=by kernel_rfl
theorem d6:false=Rows.fnExactCursorOkRow.goesBy Tryz.pinned.checked.prog:=by kernel_rfl
theorem card:Rows.FnExactCursorOkCardSaid:=
 Claim7.holds_tied_plain_at .later [] [.data,.pinned] true (true, "d0fe93772344aec577757371c214af22f2460713fd3c248127ef10f817705425") false over (fun _ h=>by cases h) d1 (fun _ h=>by cases h) fnExactCursorOk_row_tie rfl ⟨rfl,rfl⟩ d2 rfl
  (fun f fn d b=>by
   obtain rfl:f=9:=Option.some.inj (d3.symm.trans d) |>.symm;obtain rfl:fn=Tryz.f9:=(Option.some.inj (Tryz.func9.symm.trans b)).symm;exact⟨d4,fun j t c=>by
    rw[Tryz.params9]at c;have hm:t∈[56]:=by simpa using Array.mem_of_getElem? c
    exact(show Tryz.prog.wantsStandIn t=false by simpa using cx.1 d5 t hm)⟩)
  d6
end Go.Proofs.YtgippllfnmdnpaaGreatDoor.fnExactCursorOk
namespace Go.Proofs.YtgippllfnmdnpaaGreatDoor
theorem fnExactCursorOk_holds:Rows.FnExactCursorOkCardSaid:=fnExactCursorOk.card
end Go.Proofs.YtgippllfnmdnpaaGreatDoor
