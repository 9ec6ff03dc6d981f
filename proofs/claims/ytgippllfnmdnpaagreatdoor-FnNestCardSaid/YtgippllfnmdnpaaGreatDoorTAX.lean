/- Own text: part TAX. -/
import Derived.Test.YtgippllfnmdnpaaGreatDoorTAQ
import Derived.Test.YtgippllfnmdnpaaGreatDoorTAW
set_option linter.unusedVariables false
set_option linter.unusedSimpArgs false
set_option linter.unusedSectionVars false
set_option linter.unnecessarySimpa false
namespace Go.T
variable [Go.Vg.Glob]
open Go.Proofs Go.Vg Go.RowKit Go.TT Go.Pl
set_option maxRecDepth 10000
set_option maxHeartbeats 4000000
theorem l01Word (cd:Bs) (d:Nat×Int) (hp:d.1≤cd.length∧cd.length≤1048576):FnK Tryz.prog 99 1 [.ptr 0 0 0] [some (.blk false [.fs 1 (cd.map u6),.i .i64 (d.1:Nat),.i .i64 d.2])] (fun z c=>z=.s (ztv cd d).1∧c=[some (.blk false [.fs 1 (cd.map u6),.i .i64 ((ztv cd d).2.1:Nat),.i .i64 (ztv cd d).2.2])]):=by
 refine FnK.ofE (cf:=zk Tryz.prog te [] 6 1 false (fun _=>false) (kp [(0,[0]),(1,[2])]) [] []) (zf te_ok (l:=[]) (trivial) zc) Tryz.func99 rfl rfl rfl (by simp [zk]) (by simp [zk]) (rs:=[.tmp 2]) rfl 100000 ?_
 simp only [↓XC,XV,XT,Yg,seval,TES,XR]
 refine zj.mut (l01Of cd d zvz ⟨hp.1,hp.2,by decide,by decide⟩) rfl [0,1] (by simp [Yf];decide) (by simp only [Ye];exact ⟨by omega,za rfl,by omega,y3 (l:=zvz)⟩) (by decide) ?_
 simp only [↓XC,XV,XT,Yg,seval,TES,XR,zr,upd,muL,List.getElem?_nil,List.drop_nil,Option.map_none,SO.mapH,List.getElem?_cons_zero,List.getElem?_cons_succ]
 exact ⟨[0],by decide,by simp only [Yd];exact za rfl,by simp only [↓XC,XV,XT,Yg,seval,TES];try first | rfl | simp [Yf],by simp [zw,SO.ro],by simp⟩
end Go.T
