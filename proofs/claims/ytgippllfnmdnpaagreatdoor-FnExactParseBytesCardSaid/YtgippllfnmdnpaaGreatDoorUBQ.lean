/- The law FnExactParseBytes: its card. -/
import Derived.Test.YtgippllfnmdnpaaGreatDoorUBP
set_option linter.all false
namespace Go.Proofs.YtgippllfnmdnpaaGreatDoor.fnExactParseBytes
open Go.ChangeMaps (open_string shut_string)
open Go.ChangeShapes Go.WideShapes Go.ChangeAt Go.RowKit Go.Vg
theorem d1:Rows.fnExactParseBytesRow.wfByText (OpenSpec.ofChange Rows.fnExactParseBytesSpec)=true:=by kernel_rfl
theorem d2:Tryz.pinned.checked.prog.mainIs=some ((true, "d0fe93772344aec577757371c214af22f2460713fd3c248127ef10f817705425").1,(true, "d0fe93772344aec577757371c214af22f2460713fd3c248127ef10f817705425").2.toList):=by kernel_rfl
theorem d3:Tryz.prog.funcNamed "loop.example/g00666/laws.FnExactParseBytes" = some 8:=by kernel_rfl
theorem d4:false=Tryz.pinned.checked.prog.looks []:=by kernel_rfl
theorem d5:([22].all fun u=>!Tryz.prog.wantsStandIn u)=true:=by kernel_rfl
theorem d6:false=Rows.fnExactParseBytesRow.goesBy Tryz.pinned.checked.prog:=by kernel_rfl
theorem card:Rows.FnExactParseBytesCardSaid:=
 Claim7.holds_tied_plain_at .later [] [.data,.pinned] true (true, "d0fe93772344aec577757371c214af22f2460713fd3c248127ef10f817705425") false over (fun _ h=>by cases h) d1 (fun _ h=>by cases h) fnExactParseBytes_row_tie rfl ⟨rfl,rfl⟩ d2 rfl
  (fun f fn hf hfn=>by
   obtain rfl:f=8:=Option.some.inj (d3.symm.trans hf) |>.symm;obtain rfl:fn=Tryz.f8:=(Option.some.inj (Tryz.func8.symm.trans hfn)).symm;exact ⟨d4,fun j t ht=>by
    rw [Tryz.params8] at ht;have hm:t∈[22]:=by simpa using Array.mem_of_getElem? ht
    exact (show Tryz.prog.wantsStandIn t=false by simpa using List.all_eq_true.1 d5 t hm)⟩)
  d6
#print axioms card
end Go.Proofs.YtgippllfnmdnpaaGreatDoor.fnExactParseBytes
namespace Go.Proofs.YtgippllfnmdnpaaGreatDoor
theorem fnExactParseBytes_holds:Rows.FnExactParseBytesCardSaid:=fnExactParseBytes.card
end Go.Proofs.YtgippllfnmdnpaaGreatDoor
