/- Own text: part VBO. -/
import Derived.Test.YtgippllfnmdnpaaGreatDoorVBN
set_option linter.all false
namespace Go.Proofs.YtgippllfnmdnpaaGreatDoor.fnExactCursorOk
open Go.ChangeMaps (open_string shut_string)
open Go.ChangeShapes Go.WideShapes Go.ChangeAt Go.RowKit Go.Vg
theorem ky{a b:Bool}(h:a=true)(g:b=true):(a&&b)=true:=by rw[h,g];rfl
theorem c0:(Rows.fnExactCursorOkRow.wf (OpenSpec.ofChange Rows.fnExactCursorOkSpec))=true:=by kernel_rfl
theorem c1:(laidOutB Tryz.pinned.checked.prog)=true:=by kernel_rfl
theorem c2:(mapsRowed Tryz.pinned.checked.prog)=true:=by kernel_rfl
theorem c3:(Tryz.f9.params.all (Tryz.pinned.checked.prog.readableRec ·))=true:=by kernel_rfl
theorem c4:(namedTie Tryz.pinned.checked.prog Rows.fnExactCursorOkRow.named Rows.fnExactCursorOkSpec.vars)=true:=by kernel_rfl
theorem c5:((Rows.fnExactCursorOkRow.stops==[]))=true:=by kernel_rfl
theorem c6:((Tryz.pinned.checked.prog.stops==[]))=true:=by kernel_rfl
theorem c7:((Rows.fnExactCursorOkRow.knobs==[]))=true:=by kernel_rfl
theorem c8:((Tryz.pinned.checked.prog.stopKnobs==[]))=true:=by kernel_rfl
theorem c9:((Rows.fnExactCursorOkRow.inPlace==Tryz.pinned.checked.prog.inPlace 9))=true:=by kernel_rfl
theorem W6:((Rows.fnExactCursorOkRow.unfollowed==Tryz.pinned.checked.prog.unfollowed 9))=true:=by kernel_rfl
theorem W7:((Rows.fnExactCursorOkRow.recurses==Tryz.pinned.checked.prog.recurses 9))=true:=by kernel_rfl
theorem W8:((Rows.fnExactCursorOkRow.named==Tryz.pinned.checked.prog.varsNamed 9))=true:=by kernel_rfl
theorem W9:((Rows.fnExactCursorOkRow.maps==(Tryz.f9.params.toList++Rows.fnExactCursorOkSpec.plain.varTypes Tryz.pinned.checked.prog).any (Tryz.pinned.checked.prog.mapsRec ·)))=true:=by kernel_rfl
theorem Xa:((Rows.fnExactCursorOkRow.ifaces==(Tryz.f9.params.toList++Rows.fnExactCursorOkSpec.plain.varTypes Tryz.pinned.checked.prog).any (Tryz.pinned.checked.prog.ifacesRec ·)))=true:=by kernel_rfl
theorem Xb:((Rows.fnExactCursorOkRow.mapsOut==Tryz.pinned.checked.prog.mapsAmong Tryz.f9.resultTypes.toList))=true:=by kernel_rfl
theorem Xc:((Rows.fnExactCursorOkRow.loops==(Tryz.f9.params.toList++Rows.fnExactCursorOkSpec.plain.varTypes Tryz.pinned.checked.prog).any (Tryz.pinned.checked.prog.loopsFrom ·)))=true:=by kernel_rfl
theorem Xd:((Rows.fnExactCursorOkRow.wideKeys==(Tryz.f9.params.toList++Rows.fnExactCursorOkSpec.plain.varTypes Tryz.pinned.checked.prog++Tryz.f9.resultTypes.toList).any (Tryz.pinned.checked.prog.wideKeysFrom ·)))=true:=by kernel_rfl
theorem Xe:(Rows.fnExactCursorOkSpec.vars.all (Tryz.pinned.checked.prog.varReadable ·))=true:=by kernel_rfl
theorem Xf:(Tryz.f9.resultTypes.all (fun t=>Tryz.pinned.checked.prog.readableRec t&&decide (t<Tryz.pinned.checked.prog.types.size)))=true:=by kernel_rfl
theorem Xg:((Rows.fnExactCursorOkRow.ifacesOut==Tryz.f9.resultTypes.toList.any (Tryz.pinned.checked.prog.ifacesRec ·)))=true:=by kernel_rfl
theorem c21:((Rows.fnExactCursorOkRow.loopsOut==Tryz.f9.resultTypes.toList.any (Tryz.pinned.checked.prog.loopsFrom ·)))=true:=by kernel_rfl
theorem Xh:((Rows.fnExactCursorOkRow.plainKeys==Tryz.pinned.checked.prog.plainKeys))=true:=by kernel_rfl
theorem Xi:(Rows.fnExactCursorOkRow.shortTexts.isNone)=true:=by kernel_rfl
theorem Xj:(Tryz.pinned.checked.prog.stopsHeard)=true:=by kernel_rfl
theorem Xk:(Tryz.pinned.checked.prog.mayEnter)=true:=by kernel_rfl
theorem Xl:((Rows.fnExactCursorOkRow.lifted==Tryz.pinned.checked.prog.liftsFinal))=true:=by kernel_rfl
theorem Xm:((Tryz.pinned.checked.prog.make==some Rows.fnExactCursorOkRow.make))=true:=by kernel_rfl
theorem Xn:((Rows.fnExactCursorOkRow.kinds==(if Rows.fnExactCursorOkRow.domain.isEmpty then[]else Tryz.f9.params.toList.map fun t=>match Tryz.pinned.checked.prog.underlying t with|some (.int k)=>some k|_=>none)))=true:=by kernel_rfl
theorem Xo:((Rows.fnExactCursorOkRow.pinned==Rows.fnExactCursorOkRow.pinnedBy))=true:=by kernel_rfl
theorem Xp:((Rows.fnExactCursorOkRow.veiled==(Tryz.f9.params.toList++Rows.fnExactCursorOkSpec.plain.varTypes Tryz.pinned.checked.prog++Tryz.f9.resultTypes.toList).any (Tryz.pinned.checked.prog.veiledRec ·)))=true:=by kernel_rfl
theorem Xq:(Rows.fnExactCursorOkRow.veiledFits Tryz.pinned.checked.prog Tryz.f9.params.toList (Tryz.f9.params.toList++Rows.fnExactCursorOkSpec.plain.varTypes Tryz.pinned.checked.prog++Tryz.f9.resultTypes.toList))=true:=by kernel_rfl
set_option maxRecDepth 100000 in
theorem joined:joinedFacts Tryz.pinned.checked.prog 9 Tryz.f9 Rows.fnExactCursorOkSpec Rows.fnExactCursorOkRow=true:=(ky (ky (ky (ky (ky (ky (ky (ky (ky (ky (ky (ky (ky (ky (ky (ky (ky (ky (ky (ky (ky (ky (ky (ky (ky (ky (ky (ky (ky (ky (ky c0 c1) c2) c3) c4) c5) c6) c7) c8) c9) W6) W7) W8) W9) Xa) Xb) Xc) Xd) Xe) Xf) Xg) c21) Xh) Xi) Xj) Xk) Xl) Xm) Xn) Xo) Xp) Xq)
theorem over:Rows.fnExactCursorOkRow.holds Tryz.pinned (OpenSpec.ofChange Rows.fnExactCursorOkSpec):=
 OpenClaim.holds_of_wide 9 Tryz.f9 rfl rfl rfl rfl rfl rfl rfl ⟨rfl,rfl,rfl,rfl,rfl⟩ rfl rfl rfl rfl rfl (by kernel_rfl) Tryz.func9 joined
  (aW (by kernel_rfl)) (by unfold Func.isWrapper;first|(rw[aB (by decide +kernel)];kernel_rfl)|(rw[aA (by decide +kernel)];exact⟨rfl,rfl⟩))
  (fun os started H enc _=>lifted os started H enc)
end Go.Proofs.YtgippllfnmdnpaaGreatDoor.fnExactCursorOk
