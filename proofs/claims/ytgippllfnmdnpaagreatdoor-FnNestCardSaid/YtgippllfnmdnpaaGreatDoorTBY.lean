/- The law FnNest: its card. -/
import Derived.Test.YtgippllfnmdnpaaGreatDoorTBX
set_option linter.unusedVariables false
set_option linter.unusedSimpArgs false
set_option linter.unusedSectionVars false
set_option linter.unnecessarySimpa false
namespace Go.Proofs.YtgippllfnmdnpaaGreatDoor.fnNest
open Go.ChangeMaps (open_string shut_string)
open Go.ChangeShapes Go.WideShapes Go.ChangeAt Go.RowKit Go.Vg
theorem d1:Rows.fnNestRow.wfByText (OpenSpec.ofChange Rows.fnNestSpec)=true:=by kernel_rfl
theorem d2:Tryz.pinned.checked.prog.mainIs=some ((true, "d0fe93772344aec577757371c214af22f2460713fd3c248127ef10f817705425").1,(true, "d0fe93772344aec577757371c214af22f2460713fd3c248127ef10f817705425").2.toList):=by kernel_rfl
theorem d3:Tryz.prog.funcNamed "loop.example/g00666/laws.FnNest" = some 7:=by kernel_rfl
theorem d4:false=Tryz.pinned.checked.prog.looks []:=by kernel_rfl
theorem d5:([22].all fun u=>!Tryz.prog.wantsStandIn u)=true:=by kernel_rfl
theorem d6:false=Rows.fnNestRow.goesBy Tryz.pinned.checked.prog:=by kernel_rfl
theorem card:Rows.FnNestCardSaid:=
 Claim7.holds_tied_plain_at .later [] [.data,.pinned] true (true, "d0fe93772344aec577757371c214af22f2460713fd3c248127ef10f817705425") false over (fun _ h=>by cases h) d1 (fun _ h=>by cases h) fnNest_row_tie rfl ⟨rfl,rfl⟩ d2 rfl
  (fun f fn hf hfn=>by
   obtain rfl:f=7:=Option.some.inj (d3.symm.trans hf) |>.symm
   obtain rfl:fn=Tryz.f7:=(Option.some.inj (Tryz.func7.symm.trans hfn)).symm
   exact ⟨d4,fun j t ht=>by
    rw [Tryz.params7] at ht
    have hm:t∈[22]:=by simpa using Array.mem_of_getElem? ht
    exact (show Tryz.prog.wantsStandIn t=false by simpa using List.all_eq_true.1 d5 t hm)⟩)
  d6
#print axioms card
end Go.Proofs.YtgippllfnmdnpaaGreatDoor.fnNest
namespace Go.Proofs.YtgippllfnmdnpaaGreatDoor
theorem fnNest_holds:Rows.FnNestCardSaid:=fnNest.card
end Go.Proofs.YtgippllfnmdnpaaGreatDoor
