/- The law FnNest: its row over the walk. -/
import Derived.Test.YtgippllfnmdnpaaGreatDoorTBW
set_option linter.unusedVariables false
set_option linter.unusedSimpArgs false
set_option linter.unusedSectionVars false
set_option linter.unnecessarySimpa false
namespace Go.Proofs.YtgippllfnmdnpaaGreatDoor.fnNest
open Go.ChangeMaps (open_string shut_string)
open Go.ChangeShapes Go.WideShapes Go.ChangeAt Go.RowKit Go.Vg
theorem zdl {a b:Bool} (h:a=true) (g:b=true):(a&&b)=true:=by rw [h,g];rfl
theorem c0:(Rows.fnNestRow.wf (OpenSpec.ofChange Rows.fnNestSpec))=true:=by kernel_rfl
theorem c1:(laidOutB Tryz.pinned.checked.prog)=true:=by kernel_rfl
theorem c2:(mapsRowed Tryz.pinned.checked.prog)=true:=by kernel_rfl
theorem c3:(Tryz.f7.params.all (Tryz.pinned.checked.prog.readableRec ·))=true:=by kernel_rfl
theorem c4:(namedTie Tryz.pinned.checked.prog Rows.fnNestRow.named Rows.fnNestSpec.vars)=true:=by kernel_rfl
theorem c5:((Rows.fnNestRow.stops==[]))=true:=by kernel_rfl
theorem c6:((Tryz.pinned.checked.prog.stops==[]))=true:=by kernel_rfl
theorem c7:((Rows.fnNestRow.knobs==[]))=true:=by kernel_rfl
theorem c8:((Tryz.pinned.checked.prog.stopKnobs==[]))=true:=by kernel_rfl
theorem c9:((Rows.fnNestRow.inPlace==Tryz.pinned.checked.prog.inPlace 7))=true:=by kernel_rfl
theorem c10:((Rows.fnNestRow.unfollowed==Tryz.pinned.checked.prog.unfollowed 7))=true:=by kernel_rfl
theorem c11:((Rows.fnNestRow.recurses==Tryz.pinned.checked.prog.recurses 7))=true:=by kernel_rfl
theorem c12:((Rows.fnNestRow.named==Tryz.pinned.checked.prog.varsNamed 7))=true:=by kernel_rfl
theorem c13:((Rows.fnNestRow.maps==(Tryz.f7.params.toList++Rows.fnNestSpec.plain.varTypes Tryz.pinned.checked.prog).any (Tryz.pinned.checked.prog.mapsRec ·)))=true:=by kernel_rfl
theorem c14:((Rows.fnNestRow.ifaces==(Tryz.f7.params.toList++Rows.fnNestSpec.plain.varTypes Tryz.pinned.checked.prog).any (Tryz.pinned.checked.prog.ifacesRec ·)))=true:=by kernel_rfl
theorem c15:((Rows.fnNestRow.mapsOut==Tryz.pinned.checked.prog.mapsAmong Tryz.f7.resultTypes.toList))=true:=by kernel_rfl
theorem c16:((Rows.fnNestRow.loops==(Tryz.f7.params.toList++Rows.fnNestSpec.plain.varTypes Tryz.pinned.checked.prog).any (Tryz.pinned.checked.prog.loopsFrom ·)))=true:=by kernel_rfl
theorem c17:((Rows.fnNestRow.wideKeys==(Tryz.f7.params.toList++Rows.fnNestSpec.plain.varTypes Tryz.pinned.checked.prog++Tryz.f7.resultTypes.toList).any (Tryz.pinned.checked.prog.wideKeysFrom ·)))=true:=by kernel_rfl
theorem c18:(Rows.fnNestSpec.vars.all (Tryz.pinned.checked.prog.varReadable ·))=true:=by kernel_rfl
theorem c19:(Tryz.f7.resultTypes.all (fun t=>Tryz.pinned.checked.prog.readableRec t&&decide (t<Tryz.pinned.checked.prog.types.size)))=true:=by kernel_rfl
theorem c20:((Rows.fnNestRow.ifacesOut==Tryz.f7.resultTypes.toList.any (Tryz.pinned.checked.prog.ifacesRec ·)))=true:=by kernel_rfl
theorem c21:((Rows.fnNestRow.loopsOut==Tryz.f7.resultTypes.toList.any (Tryz.pinned.checked.prog.loopsFrom ·)))=true:=by kernel_rfl
theorem c22:((Rows.fnNestRow.plainKeys==Tryz.pinned.checked.prog.plainKeys))=true:=by kernel_rfl
theorem c23:(Rows.fnNestRow.shortTexts.isNone)=true:=by kernel_rfl
theorem c24:(Tryz.pinned.checked.prog.stopsHeard)=true:=by kernel_rfl
theorem c25:(Tryz.pinned.checked.prog.mayEnter)=true:=by kernel_rfl
theorem c26:((Rows.fnNestRow.lifted==Tryz.pinned.checked.prog.liftsFinal))=true:=by kernel_rfl
theorem c27:((Tryz.pinned.checked.prog.make==some Rows.fnNestRow.make))=true:=by kernel_rfl
theorem c28:((Rows.fnNestRow.kinds==(if Rows.fnNestRow.domain.isEmpty then [] else Tryz.f7.params.toList.map fun t=>match Tryz.pinned.checked.prog.underlying t with | some (.int k)=>some k | _=>none)))=true:=by kernel_rfl
theorem c29:((Rows.fnNestRow.pinned==Rows.fnNestRow.pinnedBy))=true:=by kernel_rfl
theorem c30:((Rows.fnNestRow.veiled==(Tryz.f7.params.toList++Rows.fnNestSpec.plain.varTypes Tryz.pinned.checked.prog++Tryz.f7.resultTypes.toList).any (Tryz.pinned.checked.prog.veiledRec ·)))=true:=by kernel_rfl
theorem c31:(Rows.fnNestRow.veiledFits Tryz.pinned.checked.prog Tryz.f7.params.toList (Tryz.f7.params.toList++Rows.fnNestSpec.plain.varTypes Tryz.pinned.checked.prog++Tryz.f7.resultTypes.toList))=true:=by kernel_rfl
set_option maxRecDepth 100000 in
theorem joined:joinedFacts Tryz.pinned.checked.prog 7 Tryz.f7 Rows.fnNestSpec Rows.fnNestRow=true:=(zdl (zdl (zdl (zdl (zdl (zdl (zdl (zdl (zdl (zdl (zdl (zdl (zdl (zdl (zdl (zdl (zdl (zdl (zdl (zdl (zdl (zdl (zdl (zdl (zdl (zdl (zdl (zdl (zdl (zdl (zdl c0 c1) c2) c3) c4) c5) c6) c7) c8) c9) c10) c11) c12) c13) c14) c15) c16) c17) c18) c19) c20) c21) c22) c23) c24) c25) c26) c27) c28) c29) c30) c31)
theorem over:Rows.fnNestRow.holds Tryz.pinned (OpenSpec.ofChange Rows.fnNestSpec):=
 OpenClaim.holds_of_wide 7 Tryz.f7 rfl rfl rfl rfl rfl rfl rfl ⟨rfl,rfl,rfl,rfl,rfl⟩ rfl rfl rfl rfl rfl (by kernel_rfl) Tryz.func7 joined
  (of_decide_eq_true (by kernel_rfl)) (by unfold Func.isWrapper;first | (rw [if_pos (by decide +kernel)];kernel_rfl) | (rw [if_neg (by decide +kernel)];exact ⟨rfl,rfl⟩))
  (fun os started H enc _=>lifted os started H enc)
end Go.Proofs.YtgippllfnmdnpaaGreatDoor.fnNest
