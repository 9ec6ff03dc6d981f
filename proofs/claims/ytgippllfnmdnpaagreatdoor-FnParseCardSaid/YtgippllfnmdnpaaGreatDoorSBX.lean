/- The law FnParse: its card. -/
import Derived.Test.YtgippllfnmdnpaaGreatDoorSBW
set_option linter.unusedVariables false
set_option linter.unusedSimpArgs false
set_option linter.unusedSectionVars false
set_option linter.unnecessarySimpa false
namespace Go.Proofs.YtgippllfnmdnpaaGreatDoor.fnParse
open Go.ChangeMaps (open_string shut_string)
open Go.ChangeShapes Go.WideShapes Go.ChangeAt Go.RowKit Go.Vg
theorem d1:Rows.fnParseRow.wfByText (OpenSpec.ofChange Rows.fnParseSpec)=true:=by kernel_rfl
theorem d2:Tryz.pinned.checked.prog.mainIs=some ((true, "d0fe93772344aec577757371c214af22f2460713fd3c248127ef10f817705425").1,(true, "d0fe93772344aec577757371c214af22f2460713fd3c248127ef10f817705425").2.toList):=by kernel_rfl
theorem d3:Tryz.prog.funcNamed "loop.example/g00666/laws.FnParse" = some 3:=by kernel_rfl
theorem d4:false=Tryz.pinned.checked.prog.looks []:=by kernel_rfl
theorem d5:([22].all fun u=>!Tryz.prog.wantsStandIn u)=true:=by kernel_rfl
theorem d6:false=Rows.fnParseRow.goesBy Tryz.pinned.checked.prog:=by kernel_rfl
theorem card:Rows.FnParseCardSaid:=
 Claim7.holds_tied_plain_at .later [] [.data,.pinned] true (true, "d0fe93772344aec577757371c214af22f2460713fd3c248127ef10f817705425") false over (fun _ h=>by cases h) d1 (fun _ h=>by cases h) fnParse_row_tie rfl ⟨rfl,rfl⟩ d2 rfl
  (fun f fn hf hfn=>by
   obtain rfl:f=3:=Option.some.inj (d3.symm.trans hf) |>.symm
   obtain rfl:fn=Tryz.f3:=(Option.some.inj (Tryz.func3.symm.trans hfn)).symm
   exact ⟨d4,fun j t ht=>by
    rw [Tryz.params3] at ht
    have hm:t∈[22]:=by simpa using Array.mem_of_getElem? ht
    exact (show Tryz.prog.wantsStandIn t=false by simpa using List.all_eq_true.1 d5 t hm)⟩)
  d6
#print axioms card
end Go.Proofs.YtgippllfnmdnpaaGreatDoor.fnParse
namespace Go.Proofs.YtgippllfnmdnpaaGreatDoor
theorem fnParse_holds:Rows.FnParseCardSaid:=fnParse.card
end Go.Proofs.YtgippllfnmdnpaaGreatDoor
