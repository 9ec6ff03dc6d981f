/- The law FnExactParseBytes: its row over the walk. -/
import Derived.Test.YtgippllfnmdnpaaGreatDoorUBO
set_option linter.all false
namespace Go.Proofs.YtgippllfnmdnpaaGreatDoor.fnExactParseBytes
open Go.ChangeMaps (open_string shut_string)
open Go.ChangeShapes Go.WideShapes Go.ChangeAt Go.RowKit Go.Vg
theorem zdg {a b:Bool} (h:a=true) (g:b=true):(a&&b)=true:=by rw [h,g];rfl
theorem c0:(Rows.fnExactParseBytesRow.wf (OpenSpec.ofChange Rows.fnExactParseBytesSpec))=true:=by kernel_rfl
theorem c1:(laidOutB Tryz.pinned.checked.prog)=true:=by kernel_rfl
theorem c2:(mapsRowed Tryz.pinned.checked.prog)=true:=by kernel_rfl
theorem c3:(Tryz.f8.params.all (Tryz.pinned.checked.prog.readableRec ·))=true:=by kernel_rfl
theorem c4:(namedTie Tryz.pinned.checked.prog Rows.fnExactParseBytesRow.named Rows.fnExactParseBytesSpec.vars)=true:=by kernel_rfl
theorem c5:((Rows.fnExactParseBytesRow.stops==[]))=true:=by kernel_rfl
theorem c6:((Tryz.pinned.checked.prog.stops==[]))=true:=by kernel_rfl
theorem c7:((Rows.fnExactParseBytesRow.knobs==[]))=true:=by kernel_rfl
theorem c8:((Tryz.pinned.checked.prog.stopKnobs==[]))=true:=by kernel_rfl
theorem c9:((Rows.fnExactParseBytesRow.inPlace==Tryz.pinned.checked.prog.inPlace 8))=true:=by kernel_rfl
theorem c10:((Rows.fnExactParseBytesRow.unfollowed==Tryz.pinned.checked.prog.unfollowed 8))=true:=by kernel_rfl
theorem c11:((Rows.fnExactParseBytesRow.recurses==Tryz.pinned.checked.prog.recurses 8))=true:=by kernel_rfl
theorem c12:((Rows.fnExactParseBytesRow.named==Tryz.pinned.checked.prog.varsNamed 8))=true:=by kernel_rfl
theorem c13:((Rows.fnExactParseBytesRow.maps==(Tryz.f8.params.toList++Rows.fnExactParseBytesSpec.plain.varTypes Tryz.pinned.checked.prog).any (Tryz.pinned.checked.prog.mapsRec ·)))=true:=by kernel_rfl
theorem c14:((Rows.fnExactParseBytesRow.ifaces==(Tryz.f8.params.toList++Rows.fnExactParseBytesSpec.plain.varTypes Tryz.pinned.checked.prog).any (Tryz.pinned.checked.prog.ifacesRec ·)))=true:=by kernel_rfl
theorem c15:((Rows.fnExactParseBytesRow.mapsOut==Tryz.pinned.checked.prog.mapsAmong Tryz.f8.resultTypes.toList))=true:=by kernel_rfl
theorem c16:((Rows.fnExactParseBytesRow.loops==(Tryz.f8.params.toList++Rows.fnExactParseBytesSpec.plain.varTypes Tryz.pinned.checked.prog).any (Tryz.pinned.checked.prog.loopsFrom ·)))=true:=by kernel_rfl
theorem c17:((Rows.fnExactParseBytesRow.wideKeys==(Tryz.f8.params.toList++Rows.fnExactParseBytesSpec.plain.varTypes Tryz.pinned.checked.prog++Tryz.f8.resultTypes.toList).any (Tryz.pinned.checked.prog.wideKeysFrom ·)))=true:=by kernel_rfl
theorem c18:(Rows.fnExactParseBytesSpec.vars.all (Tryz.pinned.checked.prog.varReadable ·))=true:=by kernel_rfl
theorem c19:(Tryz.f8.resultTypes.all (fun t=>Tryz.pinned.checked.prog.readableRec t&&decide (t<Tryz.pinned.checked.prog.types.size)))=true:=by kernel_rfl
theorem c20:((Rows.fnExactParseBytesRow.ifacesOut==Tryz.f8.resultTypes.toList.any (Tryz.pinned.checked.prog.ifacesRec ·)))=true:=by kernel_rfl
theorem c21:((Rows.fnExactParseBytesRow.loopsOut==Tryz.f8.resultTypes.toList.any (Tryz.pinned.checked.prog.loopsFrom ·)))=true:=by kernel_rfl
theorem c22:((Rows.fnExactParseBytesRow.plainKeys==Tryz.pinned.checked.prog.plainKeys))=true:=by kernel_rfl
theorem c23:(Rows.fnExactParseBytesRow.shortTexts.isNone)=true:=by kernel_rfl
theorem c24:(Tryz.pinned.checked.prog.stopsHeard)=true:=by kernel_rfl
theorem c25:(Tryz.pinned.checked.prog.mayEnter)=true:=by kernel_rfl
theorem c26:((Rows.fnExactParseBytesRow.lifted==Tryz.pinned.checked.prog.liftsFinal))=true:=by kernel_rfl
theorem c27:((Tryz.pinned.checked.prog.make==some Rows.fnExactParseBytesRow.make))=true:=by kernel_rfl
theorem c28:((Rows.fnExactParseBytesRow.kinds==(if Rows.fnExactParseBytesRow.domain.isEmpty then [] else Tryz.f8.params.toList.map fun t=>match Tryz.pinned.checked.prog.underlying t with | some (.int k)=>some k | _=>none)))=true:=by kernel_rfl
theorem c29:((Rows.fnExactParseBytesRow.pinned==Rows.fnExactParseBytesRow.pinnedBy))=true:=by kernel_rfl
theorem c30:((Rows.fnExactParseBytesRow.veiled==(Tryz.f8.params.toList++Rows.fnExactParseBytesSpec.plain.varTypes Tryz.pinned.checked.prog++Tryz.f8.resultTypes.toList).any (Tryz.pinned.checked.prog.veiledRec ·)))=true:=by kernel_rfl
theorem c31:(Rows.fnExactParseBytesRow.veiledFits Tryz.pinned.checked.prog Tryz.f8.params.toList (Tryz.f8.params.toList++Rows.fnExactParseBytesSpec.plain.varTypes Tryz.pinned.checked.prog++Tryz.f8.resultTypes.toList))=true:=by kernel_rfl
set_option maxRecDepth 100000 in
theorem joined:joinedFacts Tryz.pinned.checked.prog 8 Tryz.f8 Rows.fnExactParseBytesSpec Rows.fnExactParseBytesRow=true:=(zdg (zdg (zdg (zdg (zdg (zdg (zdg (zdg (zdg (zdg (zdg (zdg (zdg (zdg (zdg (zdg (zdg (zdg (zdg (zdg (zdg (zdg (zdg (zdg (zdg (zdg (zdg (zdg (zdg (zdg (zdg c0 c1) c2) c3) c4) c5) c6) c7) c8) c9) c10) c11) c12) c13) c14) c15) c16) c17) c18) c19) c20) c21) c22) c23) c24) c25) c26) c27) c28) c29) c30) c31)
theorem over:Rows.fnExactParseBytesRow.holds Tryz.pinned (OpenSpec.ofChange Rows.fnExactParseBytesSpec):=
 OpenClaim.holds_of_wide 8 Tryz.f8 rfl rfl rfl rfl rfl rfl rfl ⟨rfl,rfl,rfl,rfl,rfl⟩ rfl rfl rfl rfl rfl (by kernel_rfl) Tryz.func8 joined
  (of_decide_eq_true (by kernel_rfl)) (by unfold Func.isWrapper;first | (rw [if_pos (by decide +kernel)];kernel_rfl) | (rw [if_neg (by decide +kernel)];exact ⟨rfl,rfl⟩))
  (fun os started H enc _=>lifted os started H enc)
end Go.Proofs.YtgippllfnmdnpaaGreatDoor.fnExactParseBytes
