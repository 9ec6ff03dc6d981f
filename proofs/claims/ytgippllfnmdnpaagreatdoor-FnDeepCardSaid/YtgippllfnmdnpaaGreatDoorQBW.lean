/- The law FnDeep: its row over the walk. -/
import Derived.Test.YtgippllfnmdnpaaGreatDoorQBV
set_option linter.unusedVariables false
set_option linter.unusedSimpArgs false
set_option linter.unusedSectionVars false
set_option linter.unnecessarySimpa false
namespace Go.Proofs.YtgippllfnmdnpaaGreatDoor.fnDeep
open Go.ChangeMaps (open_string shut_string)
open Go.ChangeShapes Go.WideShapes Go.ChangeAt Go.RowKit Go.Vg
theorem zcc {a b:Bool} (h:a=true) (g:b=true):(a&&b)=true:=by rw [h,g];rfl
theorem c0:(Rows.fnDeepRow.wf (OpenSpec.ofChange Rows.fnDeepSpec))=true:=by kernel_rfl
theorem c1:(laidOutB Tryz.pinned.checked.prog)=true:=by kernel_rfl
theorem c2:(mapsRowed Tryz.pinned.checked.prog)=true:=by kernel_rfl
theorem c3:(Tryz.f5.params.all (Tryz.pinned.checked.prog.readableRec ·))=true:=by kernel_rfl
theorem c4:(namedTie Tryz.pinned.checked.prog Rows.fnDeepRow.named Rows.fnDeepSpec.vars)=true:=by kernel_rfl
theorem c5:((Rows.fnDeepRow.stops==[]))=true:=by kernel_rfl
theorem c6:((Tryz.pinned.checked.prog.stops==[]))=true:=by kernel_rfl
theorem c7:((Rows.fnDeepRow.knobs==[]))=true:=by kernel_rfl
theorem c8:((Tryz.pinned.checked.prog.stopKnobs==[]))=true:=by kernel_rfl
theorem c9:((Rows.fnDeepRow.inPlace==Tryz.pinned.checked.prog.inPlace 5))=true:=by kernel_rfl
theorem c10:((Rows.fnDeepRow.unfollowed==Tryz.pinned.checked.prog.unfollowed 5))=true:=by kernel_rfl
theorem c11:((Rows.fnDeepRow.recurses==Tryz.pinned.checked.prog.recurses 5))=true:=by kernel_rfl
theorem c12:((Rows.fnDeepRow.named==Tryz.pinned.checked.prog.varsNamed 5))=true:=by kernel_rfl
theorem c13:((Rows.fnDeepRow.maps==(Tryz.f5.params.toList++Rows.fnDeepSpec.plain.varTypes Tryz.pinned.checked.prog).any (Tryz.pinned.checked.prog.mapsRec ·)))=true:=by kernel_rfl
theorem c14:((Rows.fnDeepRow.ifaces==(Tryz.f5.params.toList++Rows.fnDeepSpec.plain.varTypes Tryz.pinned.checked.prog).any (Tryz.pinned.checked.prog.ifacesRec ·)))=true:=by kernel_rfl
theorem c15:((Rows.fnDeepRow.mapsOut==Tryz.pinned.checked.prog.mapsAmong Tryz.f5.resultTypes.toList))=true:=by kernel_rfl
theorem c16:((Rows.fnDeepRow.loops==(Tryz.f5.params.toList++Rows.fnDeepSpec.plain.varTypes Tryz.pinned.checked.prog).any (Tryz.pinned.checked.prog.loopsFrom ·)))=true:=by kernel_rfl
theorem c17:((Rows.fnDeepRow.wideKeys==(Tryz.f5.params.toList++Rows.fnDeepSpec.plain.varTypes Tryz.pinned.checked.prog++Tryz.f5.resultTypes.toList).any (Tryz.pinned.checked.prog.wideKeysFrom ·)))=true:=by kernel_rfl
theorem c18:(Rows.fnDeepSpec.vars.all (Tryz.pinned.checked.prog.varReadable ·))=true:=by kernel_rfl
theorem c19:(Tryz.f5.resultTypes.all (fun t=>Tryz.pinned.checked.prog.readableRec t&&decide (t<Tryz.pinned.checked.prog.types.size)))=true:=by kernel_rfl
theorem c20:((Rows.fnDeepRow.ifacesOut==Tryz.f5.resultTypes.toList.any (Tryz.pinned.checked.prog.ifacesRec ·)))=true:=by kernel_rfl
theorem c21:((Rows.fnDeepRow.loopsOut==Tryz.f5.resultTypes.toList.any (Tryz.pinned.checked.prog.loopsFrom ·)))=true:=by kernel_rfl
theorem c22:((Rows.fnDeepRow.plainKeys==Tryz.pinned.checked.prog.plainKeys))=true:=by kernel_rfl
theorem c23:(Rows.fnDeepRow.shortTexts.isNone)=true:=by kernel_rfl
theorem c24:(Tryz.pinned.checked.prog.stopsHeard)=true:=by kernel_rfl
theorem c25:(Tryz.pinned.checked.prog.mayEnter)=true:=by kernel_rfl
theorem c26:((Rows.fnDeepRow.lifted==Tryz.pinned.checked.prog.liftsFinal))=true:=by kernel_rfl
theorem c27:((Tryz.pinned.checked.prog.make==some Rows.fnDeepRow.make))=true:=by kernel_rfl
theorem c28:((Rows.fnDeepRow.kinds==(if Rows.fnDeepRow.domain.isEmpty then [] else Tryz.f5.params.toList.map fun t=>match Tryz.pinned.checked.prog.underlying t with | some (.int k)=>some k | _=>none)))=true:=by kernel_rfl
theorem c29:((Rows.fnDeepRow.pinned==Rows.fnDeepRow.pinnedBy))=true:=by kernel_rfl
theorem c30:((Rows.fnDeepRow.veiled==(Tryz.f5.params.toList++Rows.fnDeepSpec.plain.varTypes Tryz.pinned.checked.prog++Tryz.f5.resultTypes.toList).any (Tryz.pinned.checked.prog.veiledRec ·)))=true:=by kernel_rfl
theorem c31:(Rows.fnDeepRow.veiledFits Tryz.pinned.checked.prog Tryz.f5.params.toList (Tryz.f5.params.toList++Rows.fnDeepSpec.plain.varTypes Tryz.pinned.checked.prog++Tryz.f5.resultTypes.toList))=true:=by kernel_rfl
set_option maxRecDepth 100000 in
theorem joined:joinedFacts Tryz.pinned.checked.prog 5 Tryz.f5 Rows.fnDeepSpec Rows.fnDeepRow=true:=(zcc (zcc (zcc (zcc (zcc (zcc (zcc (zcc (zcc (zcc (zcc (zcc (zcc (zcc (zcc (zcc (zcc (zcc (zcc (zcc (zcc (zcc (zcc (zcc (zcc (zcc (zcc (zcc (zcc (zcc (zcc c0 c1) c2) c3) c4) c5) c6) c7) c8) c9) c10) c11) c12) c13) c14) c15) c16) c17) c18) c19) c20) c21) c22) c23) c24) c25) c26) c27) c28) c29) c30) c31)
theorem over:Rows.fnDeepRow.holds Tryz.pinned (OpenSpec.ofChange Rows.fnDeepSpec):=
 OpenClaim.holds_of_wide 5 Tryz.f5 rfl rfl rfl rfl rfl rfl rfl ⟨rfl,rfl,rfl,rfl,rfl⟩ rfl rfl rfl rfl rfl (by kernel_rfl) Tryz.func5 joined
  (of_decide_eq_true (by kernel_rfl)) (by unfold Func.isWrapper;first | (rw [if_pos (by decide +kernel)];kernel_rfl) | (rw [if_neg (by decide +kernel)];exact ⟨rfl,rfl⟩))
  (fun os started H enc _=>lifted os started H enc)
end Go.Proofs.YtgippllfnmdnpaaGreatDoor.fnDeep
