/- Own text: part RBG. -/
import Derived.Test.YtgippllfnmdnpaaGreatDoorRBE
import Derived.Test.YtgippllfnmdnpaaGreatDoorRBF
section
set_option linter.unusedVariables false
set_option linter.unusedSimpArgs false
set_option linter.unusedSectionVars false
set_option linter.unnecessarySimpa false
namespace Go.T
variable [Go.Vg.Glob]
open Go.Proofs Go.Vg Go.RowKit Go.TT Go.Pl
set_option maxRecDepth 10000
set_option maxHeartbeats 4000000
theorem isColl_i (k st:Int) (fl:Bool) (x a g:Bs) (p c:Int):PF Tryz.prog 151 [.agg [.i .i64 k,.i .i64 st,.b fl,.s x,.s a,.s g,.i .i64 p,.i .i64 c]] (.b (Pl.isColl k)):=by
 refine ⟨rfl,rfl,FnK.of (cf:=zk Tryz.prog te [] 11 0 false (fun _=>false) (kp [(0,[1]),(1,[2])]) [] []) (zf te_ok (l:=[]) (trivial) zd) Tryz.func151 rfl rfl rfl (by simp [zk]) (by simp [zk]) (rs:=[.tmp 2]) rfl 100000 ?_⟩
 simp only [↓XC,XV,XT,Yg,seval,TES]
 repeat' (first | with_reducible refine Chk.mk ?_ fun _=>?_ | with_reducible refine And.intro ?_ ?_ | intro _)
 all_goals first | (exfalso;omega) | simp_all [isColl]
noncomputable def j3:PE:=peR (fun (x:Int×Int×Bool×Bs×Bs×Bs×Int×Int)=>match x with | (k,st,fl,x,a,g,p,c)=>[.agg [.i .i64 k,.i .i64 st,.b fl,.s x,.s a,.s g,.i .i64 p,.i .i64 c]]) (fun (x:Int×Int×Bool×Bs×Bs×Bs×Int×Int)=>match x with | (k,st,fl,x,a,g,p,c)=>True) (fun (x:Int×Int×Bool×Bs×Bs×Bs×Int×Int)=>match x with | (k,st,fl,x,a,g,p,c)=>.b (Pl.isColl k))
theorem xy {k st:Int} {fl:Bool} {x a g:Bs} {p c:Int}:j3 [.agg [.i .i64 k,.i .i64 st,.b fl,.s x,.s a,.s g,.i .i64 p,.i .i64 c]]=some (True,.b (Pl.isColl k)):=z6 (by rintro ⟨a0,a1,a2,a3,a4,a5,a6,a7⟩ ⟨b0,b1,b2,b3,b4,b5,b6,b7⟩ h;simp_all []) (k,st,fl,x,a,g,p,c)
theorem zbs:PE1 Tryz.prog 151 j3:=yb (by rintro ⟨k,st,fl,x,a,g,p,c⟩ hp;exact isColl_i k st fl x a g p c)
theorem isNode_i (k st:Int) (fl:Bool) (x a g:Bs) (p c:Int):PF Tryz.prog 129 [.agg [.i .i64 k,.i .i64 st,.b fl,.s x,.s a,.s g,.i .i64 p,.i .i64 c]] (.b (Pl.isNode k)):=by
 refine ⟨rfl,rfl,FnK.of (cf:=zk Tryz.prog te [(151,j3)] 15 0 false (fun _=>false) (kp [(0,[1]),(1,[2])]) [] []) (zf te_ok (l:=[(151,j3)]) (⟨zbs,trivial⟩) zd) Tryz.func129 rfl rfl rfl (by simp [zk]) (by simp [zk]) (rs:=[.tmp 2]) rfl 100000 ?_⟩
 simp only [↓XC,XV,XT,Yg,seval,TES,xy]
 repeat' (first | with_reducible refine Chk.mk ?_ fun _=>?_ | with_reducible refine And.intro ?_ ?_ | intro _)
 all_goals first | (exfalso;omega) | simp_all [isColl,Pl.isNode]
noncomputable def uu:PE:=peR (fun (x:Int×Int×Bool×Bs×Bs×Bs×Int×Int)=>match x with | (k,st,fl,x,a,g,p,c)=>[.agg [.i .i64 k,.i .i64 st,.b fl,.s x,.s a,.s g,.i .i64 p,.i .i64 c]]) (fun (x:Int×Int×Bool×Bs×Bs×Bs×Int×Int)=>match x with | (k,st,fl,x,a,g,p,c)=>True) (fun (x:Int×Int×Bool×Bs×Bs×Bs×Int×Int)=>match x with | (k,st,fl,x,a,g,p,c)=>.b (Pl.isNode k))
theorem zbr {k st:Int} {fl:Bool} {x a g:Bs} {p c:Int}:uu [.agg [.i .i64 k,.i .i64 st,.b fl,.s x,.s a,.s g,.i .i64 p,.i .i64 c]]=some (True,.b (Pl.isNode k)):=z6 (by rintro ⟨a0,a1,a2,a3,a4,a5,a6,a7⟩ ⟨b0,b1,b2,b3,b4,b5,b6,b7⟩ h;simp_all []) (k,st,fl,x,a,g,p,c)
theorem zg7:PE1 Tryz.prog 129 uu:=yb (by rintro ⟨k,st,fl,x,a,g,p,c⟩ hp;exact isNode_i k st fl x a g p c)
theorem ztg (l:List Ev) (hp:l.length≤1048576∧qh l=true):FnK Tryz.prog 74 0 [.fs 8 (l.map evc)] [] (fun z c=>z=.agg [.fs 8 (l.map evc),.slc 0 0 l.length,.slc 1 0 l.length,.slc 2 0 l.length]∧c=[some (.row false 1 l.length (zg w6 0 (zjf l))),some (.row false 1 l.length (zg w6 0 (upL l))),some (.row false 1 l.length (zg w6 0 (zpd l)))]):=by
 refine FnK.ofE (cf:=zk Tryz.prog te [(151,j3),(129,uu)] 94 0 false (fun _=>false) (kp [(0,[0,2]),(1,[0,2,3]),(2,[0,2,3,4]),(3,[0,2,3,4,5]),(4,[2,3,4,5,21,22,23]),(5,[2,3,4,5,21,22,23,24]),(6,[2,3,4,5,6,7,21,22,23]),(7,[2,3,4,5,6,7,21,22,23]),(8,[2,3,4,5,6,7,8,21,22,23]),(9,[2,3,4,5,6,7,8,21,22,23,35]),(10,[2,3,4,5,6,7,21,22,23]),(11,[2,3,4,5,6,7,21,22,23,47]),(12,[2,3,4,5,6,7,21,22,23]),(13,[2,3,4,5,6,7,21,22,23]),(14,[2,3,4,5,6,7,21,22,23]),(15,[2,3,4,5,6,7,21,22,23,58]),(16,[2,3,4,5,21,22,23]),(17,[2,3,4,5,6,7,21,22,23,65]),(18,[2,3,4,5,21,22,23]),(19,[2,3,4,5,21,22,23]),(20,[2,3,4,5,6,21,22,23,84]),(21,[2,3,4,5,21,22,23]),(22,[2,3,4,5,21,22,23]),(23,[2])]) [2] [(1,[],[],.q1 0 (.q1 1 (.q1 2 (.q1 4 (.q1 5 (.q1 7 (.q1 8 (.alt 3 (.alt 6 (.alt 9 (.q1 10 (.alt 11 (.alt 12 (.fin) (.fin)) (.fin))) (.alt 11 (.alt 9 (.q1 10 (.alt 12 (.fin) (.fin))) (.fin)) (.fin))) (.alt 9 (.alt 6 (.q1 10 (.alt 11 (.alt 12 (.fin) (.fin)) (.fin))) (.alt 11 (.alt 6 (.q1 10 (.alt 12 (.fin) (.fin))) (.fin)) (.fin))) (.alt 11 (.alt 6 (.alt 9 (.q1 10 (.alt 12 (.fin) (.fin))) (.fin)) (.alt 9 (.alt 6 (.q1 10 (.alt 12 (.fin) (.fin))) (.fin)) (.fin))) (.fin)))) (.alt 6 (.alt 3 (.alt 9 (.q1 10 (.alt 11 (.alt 12 (.fin) (.fin)) (.fin))) (.alt 11 (.alt 9 (.q1 10 (.alt 12 (.fin) (.fin))) (.fin)) (.fin))) (.alt 9 (.alt 3 (.q1 10 (.alt 11 (.alt 12 (.fin) (.fin)) (.fin))) (.alt 11 (.alt 3 (.q1 10 (.alt 12 (.fin) (.fin))) (.fin)) (.fin))) (.alt 11 (.alt 3 (.alt 9 (.q1 10 (.alt 12 (.fin) (.fin))) (.fin)) (.alt 9 (.alt 3 (.q1 10 (.alt 12 (.fin) (.fin))) (.fin)) (.fin))) (.fin)))) (.alt 9 (.alt 3 (.alt 6 (.q1 10 (.alt 11 (.alt 12 (.fin) (.fin)) (.fin))) (.alt 11 (.alt 6 (.q1 10 (.alt 12 (.fin) (.fin))) (.fin)) (.fin))) (.alt 6 (.alt 3 (.q1 10 (.alt 11 (.alt 12 (.fin) (.fin)) (.fin))) (.alt 11 (.alt 3 (.q1 10 (.alt 12 (.fin) (.fin))) (.fin)) (.fin))) (.alt 11 (.alt 3 (.alt 6 (.q1 10 (.alt 12 (.fin) (.fin))) (.fin)) (.alt 6 (.alt 3 (.q1 10 (.alt 12 (.fin) (.fin))) (.fin)) (.fin))) (.fin)))) (.alt 11 (.alt 3 (.alt 6 (.alt 9 (.q1 10 (.alt 12 (.fin) (.fin))) (.fin)) (.alt 9 (.alt 6 (.q1 10 (.alt 12 (.fin) (.fin))) (.fin)) (.fin))) (.alt 6 (.alt 3 (.alt 9 (.q1 10 (.alt 12 (.fin) (.fin))) (.fin)) (.alt 9 (.alt 3 (.q1 10 (.alt 12 (.fin) (.fin))) (.fin)) (.fin))) (.alt 9 (.alt 3 (.alt 6 (.q1 10 (.alt 12 (.fin) (.fin))) (.fin)) (.alt 6 (.alt 3 (.q1 10 (.alt 12 (.fin) (.fin))) (.fin)) (.fin))) (.fin)))) (.fin)))))))))))),(10,[9],[2],.q1 0 (.q1 2 (.q1 3 (.q1 4 (.q1 5 (.q0 6 [6,7,8,9] (.q0 1 [1,8,9] (.q0 7 [7,8,9] (.q0 8 [8,9] (.sw (.alt 9 (.fin) (.fin)))))))))))),(18,[10],[1],.q1 0 (.q1 2 (.q1 3 (.q1 4 (.q1 5 (.q0 6 [6,7,9,10] (.q1 8 (.q0 1 [1,9,10] (.q0 7 [7,9,10] (.q0 9 [9,10] (.sw (.alt 10 (.fin) (.fin)))))))))))))]) (zf te_ok (l:=[(151,j3),(129,uu)]) (⟨zbs,zg7,trivial⟩) zd) Tryz.func74 rfl rfl rfl (by simp [zk]) (by simp [zk]) (rs:=[.cell 2 89]) rfl 100000 ?_
 simp only [↓XC,XV,XT,Yg,seval,TES,xy,zbr,XRE,yf]
 refine ze1.of (ι:=Unit) (fun _=>(⟨[(0,.fs 8 (l.map evc)),(2,.ptr 0 0 0),(3,.ptr 4 0 0)],[some (.blk false [.nils,.nils,.nils,.nils]),some (.row false 1 l.length (zg w6 0 (mkR l.length (endF l 0)))),some (.row false 1 l.length (zg w6 0 (mkR l.length fun j=>if j<0 then zh6 (stk l j) else 0))),some (.row false 1 l.length (zg w6 0 (mkR l.length fun j=>if j<0 then (docF l (j+1):Nat) else 0))),some (.blk false [.fs 8 (l.map evc),.slc 1 0 l.length,.slc 2 0 l.length,.slc 3 0 l.length])]⟩:St)) ?_ (fun _=>?_)
 ·simp only [↓XC,XV,XT,Yg,seval,TES]
  refine ⟨by decide +kernel, ?_⟩
  repeat' (first | with_reducible refine Chk.mk ?_ fun _=>?_ | with_reducible refine And.intro ?_ ?_)
  all_goals first | omega | (first | (refine ⟨(),Ent.ren1 [0,1,2,3,4] (by decide) ?_ ?_⟩;(focus ((simp only [Yd]);(refine ⟨?_, ?_, ?_, ?_, ?_⟩);(exact zb rfl);(exact zh fun j hj=>by simp only [zg,zm hj,endF]<;>rfl);(exact zh fun j hj=>by simp only [zg,zm hj,Nat.not_lt_zero,if_false]<;>rfl);(exact zh fun j hj=>by simp only [zg,zm hj,Nat.not_lt_zero,if_false]<;>rfl);(refine zb ?_);(simp [Yf]);done));(simp [zj,Vg.look,SV.mapH,muL]);done) | (refine ⟨(),Ent.ren1 [0,1,2,4,3] (by decide) ?_ ?_⟩;(focus ((simp only [Yd]);(refine ⟨?_, ?_, ?_, ?_, ?_⟩);(exact zb rfl);(exact zh fun j hj=>by simp only [zg,zm hj,endF]<;>rfl);(exact zh fun j hj=>by simp only [zg,zm hj,Nat.not_lt_zero,if_false]<;>rfl);(exact zh fun j hj=>by simp only [zg,zm hj,Nat.not_lt_zero,if_false]<;>rfl);(refine zb ?_);(simp [Yf]);done));(simp [zj,Vg.look,SV.mapH,muL]);done) | (refine ⟨(),Ent.ren1 [0,1,3,2,4] (by decide) ?_ ?_⟩;(focus ((simp only [Yd]);(refine ⟨?_, ?_, ?_, ?_, ?_⟩);(exact zb rfl);(exact zh fun j hj=>by simp only [zg,zm hj,endF]<;>rfl);(exact zh fun j hj=>by simp only [zg,zm hj,Nat.not_lt_zero,if_false]<;>rfl);(exact zh fun j hj=>by simp only [zg,zm hj,Nat.not_lt_zero,if_false]<;>rfl);(refine zb ?_);(simp [Yf]);done));(simp [zj,Vg.look,SV.mapH,muL]);done) | (refine ⟨(),Ent.ren1 [0,1,3,4,2] (by decide) ?_ ?_⟩;(focus ((simp only [Yd]);(refine ⟨?_, ?_, ?_, ?_, ?_⟩);(exact zb rfl);(exact zh fun j hj=>by simp only [zg,zm hj,endF]<;>rfl);(exact zh fun j hj=>by simp only [zg,zm hj,Nat.not_lt_zero,if_false]<;>rfl);(exact zh fun j hj=>by simp only [zg,zm hj,Nat.not_lt_zero,if_false]<;>rfl);(refine zb ?_);(simp [Yf]);done));(simp [zj,Vg.look,SV.mapH,muL]);done) | (refine ⟨(),Ent.ren1 [0,1,4,2,3] (by decide) ?_ ?_⟩;(focus ((simp only [Yd]);(refine ⟨?_, ?_, ?_, ?_, ?_⟩);(exact zb rfl);(exact zh fun j hj=>by simp only [zg,zm hj,endF]<;>rfl);(exact zh fun j hj=>by simp only [zg,zm hj,Nat.not_lt_zero,if_false]<;>rfl);(exact zh fun j hj=>by simp only [zg,zm hj,Nat.not_lt_zero,if_false]<;>rfl);(refine zb ?_);(simp [Yf]);done));(simp [zj,Vg.look,SV.mapH,muL]);done) | (refine ⟨(),Ent.ren1 [0,1,4,3,2] (by decide) ?_ ?_⟩;(focus ((simp only [Yd]);(refine ⟨?_, ?_, ?_, ?_, ?_⟩);(exact zb rfl);(exact zh fun j hj=>by simp only [zg,zm hj,endF]<;>rfl);(exact zh fun j hj=>by simp only [zg,zm hj,Nat.not_lt_zero,if_false]<;>rfl);(exact zh fun j hj=>by simp only [zg,zm hj,Nat.not_lt_zero,if_false]<;>rfl);(refine zb ?_);(simp [Yf]);done));(simp [zj,Vg.look,SV.mapH,muL]);done) | (refine ⟨(),Ent.ren1 [0,2,1,3,4] (by decide) ?_ ?_⟩;(focus ((simp only [Yd]);(refine ⟨?_, ?_, ?_, ?_, ?_⟩);(exact zb rfl);(exact zh fun j hj=>by simp only [zg,zm hj,endF]<;>rfl);(exact zh fun j hj=>by simp only [zg,zm hj,Nat.not_lt_zero,if_false]<;>rfl);(exact zh fun j hj=>by simp only [zg,zm hj,Nat.not_lt_zero,if_false]<;>rfl);(refine zb ?_);(simp [Yf]);done));(simp [zj,Vg.look,SV.mapH,muL]);done) | (refine ⟨(),Ent.ren1 [0,2,1,4,3] (by decide) ?_ ?_⟩;(focus ((simp only [Yd]);(refine ⟨?_, ?_, ?_, ?_, ?_⟩);(exact zb rfl);(exact zh fun j hj=>by simp only [zg,zm hj,endF]<;>rfl);(exact zh fun j hj=>by simp only [zg,zm hj,Nat.not_lt_zero,if_false]<;>rfl);(exact zh fun j hj=>by simp only [zg,zm hj,Nat.not_lt_zero,if_false]<;>rfl);(refine zb ?_);(simp [Yf]);done));(simp [zj,Vg.look,SV.mapH,muL]);done) | (refine ⟨(),Ent.ren1 [0,2,3,1,4] (by decide) ?_ ?_⟩;(focus ((simp only [Yd]);(refine ⟨?_, ?_, ?_, ?_, ?_⟩);(exact zb rfl);(exact zh fun j hj=>by simp only [zg,zm hj,endF]<;>rfl);(exact zh fun j hj=>by simp only [zg,zm hj,Nat.not_lt_zero,if_false]<;>rfl);(exact zh fun j hj=>by simp only [zg,zm hj,Nat.not_lt_zero,if_false]<;>rfl);(refine zb ?_);(simp [Yf]);done));(simp [zj,Vg.look,SV.mapH,muL]);done) | (refine ⟨(),Ent.ren1 [0,2,3,4,1] (by decide) ?_ ?_⟩;(focus ((simp only [Yd]);(refine ⟨?_, ?_, ?_, ?_, ?_⟩);(exact zb rfl);(exact zh fun j hj=>by simp only [zg,zm hj,endF]<;>rfl);(exact zh fun j hj=>by simp only [zg,zm hj,Nat.not_lt_zero,if_false]<;>rfl);(exact zh fun j hj=>by simp only [zg,zm hj,Nat.not_lt_zero,if_false]<;>rfl);(refine zb ?_);(simp [Yf]);done));(simp [zj,Vg.look,SV.mapH,muL]);done) | (refine ⟨(),Ent.ren1 [0,2,4,1,3] (by decide) ?_ ?_⟩;(focus ((simp only [Yd]);(refine ⟨?_, ?_, ?_, ?_, ?_⟩);(exact zb rfl);(exact zh fun j hj=>by simp only [zg,zm hj,endF]<;>rfl);(exact zh fun j hj=>by simp only [zg,zm hj,Nat.not_lt_zero,if_false]<;>rfl);(exact zh fun j hj=>by simp only [zg,zm hj,Nat.not_lt_zero,if_false]<;>rfl);(refine zb ?_);(simp [Yf]);done));(simp [zj,Vg.look,SV.mapH,muL]);done) | (refine ⟨(),Ent.ren1 [0,2,4,3,1] (by decide) ?_ ?_⟩;(focus ((simp only [Yd]);(refine ⟨?_, ?_, ?_, ?_, ?_⟩);(exact zb rfl);(exact zh fun j hj=>by simp only [zg,zm hj,endF]<;>rfl);(exact zh fun j hj=>by simp only [zg,zm hj,Nat.not_lt_zero,if_false]<;>rfl);(exact zh fun j hj=>by simp only [zg,zm hj,Nat.not_lt_zero,if_false]<;>rfl);(refine zb ?_);(simp [Yf]);done));(simp [zj,Vg.look,SV.mapH,muL]);done) | (refine ⟨(),Ent.ren1 [0,3,1,2,4] (by decide) ?_ ?_⟩;(focus ((simp only [Yd]);(refine ⟨?_, ?_, ?_, ?_, ?_⟩);(exact zb rfl);(exact zh fun j hj=>by simp only [zg,zm hj,endF]<;>rfl);(exact zh fun j hj=>by simp only [zg,zm hj,Nat.not_lt_zero,if_false]<;>rfl);(exact zh fun j hj=>by simp only [zg,zm hj,Nat.not_lt_zero,if_false]<;>rfl);(refine zb ?_);(simp [Yf]);done));(simp [zj,Vg.look,SV.mapH,muL]);done) | (refine ⟨(),Ent.ren1 [0,3,1,4,2] (by decide) ?_ ?_⟩;(focus ((simp only [Yd]);(refine ⟨?_, ?_, ?_, ?_, ?_⟩);(exact zb rfl);(exact zh fun j hj=>by simp only [zg,zm hj,endF]<;>rfl);(exact zh fun j hj=>by simp only [zg,zm hj,Nat.not_lt_zero,if_false]<;>rfl);(exact zh fun j hj=>by simp only [zg,zm hj,Nat.not_lt_zero,if_false]<;>rfl);(refine zb ?_);(simp [Yf]);done));(simp [zj,Vg.look,SV.mapH,muL]);done) | (refine ⟨(),Ent.ren1 [0,3,2,1,4] (by decide) ?_ ?_⟩;(focus ((simp only [Yd]);(refine ⟨?_, ?_, ?_, ?_, ?_⟩);(exact zb rfl);(exact zh fun j hj=>by simp only [zg,zm hj,endF]<;>rfl);(exact zh fun j hj=>by simp only [zg,zm hj,Nat.not_lt_zero,if_false]<;>rfl);(exact zh fun j hj=>by simp only [zg,zm hj,Nat.not_lt_zero,if_false]<;>rfl);(refine zb ?_);(simp [Yf]);done));(simp [zj,Vg.look,SV.mapH,muL]);done) | (refine ⟨(),Ent.ren1 [0,3,2,4,1] (by decide) ?_ ?_⟩;(focus ((simp only [Yd]);(refine ⟨?_, ?_, ?_, ?_, ?_⟩);(exact zb rfl);(exact zh fun j hj=>by simp only [zg,zm hj,endF]<;>rfl);(exact zh fun j hj=>by simp only [zg,zm hj,Nat.not_lt_zero,if_false]<;>rfl);(exact zh fun j hj=>by simp only [zg,zm hj,Nat.not_lt_zero,if_false]<;>rfl);(refine zb ?_);(simp [Yf]);done));(simp [zj,Vg.look,SV.mapH,muL]);done) | (refine ⟨(),Ent.ren1 [0,3,4,1,2] (by decide) ?_ ?_⟩;(focus ((simp only [Yd]);(refine ⟨?_, ?_, ?_, ?_, ?_⟩);(exact zb rfl);(exact zh fun j hj=>by simp only [zg,zm hj,endF]<;>rfl);(exact zh fun j hj=>by simp only [zg,zm hj,Nat.not_lt_zero,if_false]<;>rfl);(exact zh fun j hj=>by simp only [zg,zm hj,Nat.not_lt_zero,if_false]<;>rfl);(refine zb ?_);(simp [Yf]);done));(simp [zj,Vg.look,SV.mapH,muL]);done) | (refine ⟨(),Ent.ren1 [0,3,4,2,1] (by decide) ?_ ?_⟩;(focus ((simp only [Yd]);(refine ⟨?_, ?_, ?_, ?_, ?_⟩);(exact zb rfl);(exact zh fun j hj=>by simp only [zg,zm hj,endF]<;>rfl);(exact zh fun j hj=>by simp only [zg,zm hj,Nat.not_lt_zero,if_false]<;>rfl);(exact zh fun j hj=>by simp only [zg,zm hj,Nat.not_lt_zero,if_false]<;>rfl);(refine zb ?_);(simp [Yf]);done));(simp [zj,Vg.look,SV.mapH,muL]);done) | (refine ⟨(),Ent.ren1 [0,4,1,2,3] (by decide) ?_ ?_⟩;(focus ((simp only [Yd]);(refine ⟨?_, ?_, ?_, ?_, ?_⟩);(exact zb rfl);(exact zh fun j hj=>by simp only [zg,zm hj,endF]<;>rfl);(exact zh fun j hj=>by simp only [zg,zm hj,Nat.not_lt_zero,if_false]<;>rfl);(exact zh fun j hj=>by simp only [zg,zm hj,Nat.not_lt_zero,if_false]<;>rfl);(refine zb ?_);(simp [Yf]);done));(simp [zj,Vg.look,SV.mapH,muL]);done) | (refine ⟨(),Ent.ren1 [0,4,1,3,2] (by decide) ?_ ?_⟩;(focus ((simp only [Yd]);(refine ⟨?_, ?_, ?_, ?_, ?_⟩);(exact zb rfl);(exact zh fun j hj=>by simp only [zg,zm hj,endF]<;>rfl);(exact zh fun j hj=>by simp only [zg,zm hj,Nat.not_lt_zero,if_false]<;>rfl);(exact zh fun j hj=>by simp only [zg,zm hj,Nat.not_lt_zero,if_false]<;>rfl);(refine zb ?_);(simp [Yf]);done));(simp [zj,Vg.look,SV.mapH,muL]);done) | (refine ⟨(),Ent.ren1 [0,4,2,1,3] (by decide) ?_ ?_⟩;(focus ((simp only [Yd]);(refine ⟨?_, ?_, ?_, ?_, ?_⟩);(exact zb rfl);(exact zh fun j hj=>by simp only [zg,zm hj,endF]<;>rfl);(exact zh fun j hj=>by simp only [zg,zm hj,Nat.not_lt_zero,if_false]<;>rfl);(exact zh fun j hj=>by simp only [zg,zm hj,Nat.not_lt_zero,if_false]<;>rfl);(refine zb ?_);(simp [Yf]);done));(simp [zj,Vg.look,SV.mapH,muL]);done) | (refine ⟨(),Ent.ren1 [0,4,2,3,1] (by decide) ?_ ?_⟩;(focus ((simp only [Yd]);(refine ⟨?_, ?_, ?_, ?_, ?_⟩);(exact zb rfl);(exact zh fun j hj=>by simp only [zg,zm hj,endF]<;>rfl);(exact zh fun j hj=>by simp only [zg,zm hj,Nat.not_lt_zero,if_false]<;>rfl);(exact zh fun j hj=>by simp only [zg,zm hj,Nat.not_lt_zero,if_false]<;>rfl);(refine zb ?_);(simp [Yf]);done));(simp [zj,Vg.look,SV.mapH,muL]);done) | (refine ⟨(),Ent.ren1 [0,4,3,1,2] (by decide) ?_ ?_⟩;(focus ((simp only [Yd]);(refine ⟨?_, ?_, ?_, ?_, ?_⟩);(exact zb rfl);(exact zh fun j hj=>by simp only [zg,zm hj,endF]<;>rfl);(exact zh fun j hj=>by simp only [zg,zm hj,Nat.not_lt_zero,if_false]<;>rfl);(exact zh fun j hj=>by simp only [zg,zm hj,Nat.not_lt_zero,if_false]<;>rfl);(refine zb ?_);(simp [Yf]);done));(simp [zj,Vg.look,SV.mapH,muL]);done) | (refine ⟨(),Ent.ren1 [0,4,3,2,1] (by decide) ?_ ?_⟩;(focus ((simp only [Yd]);(refine ⟨?_, ?_, ?_, ?_, ?_⟩);(exact zb rfl);(exact zh fun j hj=>by simp only [zg,zm hj,endF]<;>rfl);(exact zh fun j hj=>by simp only [zg,zm hj,Nat.not_lt_zero,if_false]<;>rfl);(exact zh fun j hj=>by simp only [zg,zm hj,Nat.not_lt_zero,if_false]<;>rfl);(refine zb ?_);(simp [Yf]);done));(simp [zj,Vg.look,SV.mapH,muL]);done))
 simp only [↓XC,XV,XT,Yg,seval,TES,XRE,XR,yf]
 refine yv.of (ι:={i:Nat // i≤l.length}) (fun x=>⟨[(2,.ptr 0 0 0),(3,.ptr 4 0 0),(4,.slc 5 0 (stk l x.1).length),(5,.i .i64 (docF l x.1:Nat)),(21,.fs 8 (l.map evc)),(22,.i .i64 (l.length:Nat)),(23,.i .i64 (x.1:Nat))],[some (.blk false [.nils,.nils,.nils,.nils]),some (.row false 1 l.length (zg w6 0 (mkR l.length (endF l x.1)))),some (.row false 1 l.length (zg w6 0 (mkR l.length fun j=>if j<x.1 then zh6 (stk l j) else 0))),some (.row false 1 l.length (zg w6 0 (mkR l.length fun j=>if j<x.1 then (docF l (j+1):Nat) else 0))),some (.blk false [.fs 8 (l.map evc),.slc 1 0 l.length,.slc 2 0 l.length,.slc 3 0 l.length]),some (.row false 1 (stk l x.1).length (zg w6 0 ((stk l x.1).map fun (n:Nat)=>(n:Int))))]⟩) (fun x=>l.length-x.1) ⟨0,Nat.zero_le _⟩ (Ent.ren1 [0,1,2,3,4,5] (by decide) (by simp only [Yd];refine ⟨?_, ?_, ?_, ?_, ?_, ?_⟩;(exact zb rfl);(exact za fun _=>rfl);(exact za fun _=>rfl);(exact za fun _=>rfl);(exact zb rfl);(exact zh fun j hj=>absurd hj (Nat.not_lt_zero _))) (by simp [zj,Vg.look,SV.mapH,muL,stk,docF])) ?_
 rintro ⟨i,hi⟩
 simp only [↓XC,XV,XT,Yg,seval,TES,xy,zbr,XRE,XR,yf]
 have hS:stk l (i+1)=if isColl (l.getD i evz).kind then stk l i++[i] else if (l.getD i evz).kind=7 then (stk l i).take ((stk l i).length-1) else stk l i:=by simp only [stk]
 have hD:docF l (i+1)=if (l.getD i evz).kind=2 then i else docF l i:=by simp only [docF]
 have hE:∀ j,endF l (i+1) j=if j=i then (if Pl.isNode (l.getD i evz).kind&&!isColl (l.getD i evz).kind then (i:Int) else -1) else if (l.getD i evz).kind=7∧zh6 (stk l i)=j then (i:Int) else endF l i j:=fun j=>by simp only [endF]
 refine ⟨fun hil=>?_,fun hil=>?_⟩
 ·have hend:(l.getD i evz).kind=7→0<(stk l i).length:=zte hp.2 (by omega)
  have htp:0<(stk l i).length→((stk l i).map fun (n:Nat)=>(n:Int)).getD ((stk l i).length-1) 0=zh6 (stk l i)∧0≤zh6 (stk l i)∧zh6 (stk l i)<i:=fun h=>by
   have h1:=zh9 (l:=l) i ((stk l i).length-1) (by omega)
   rw [zjy h]
   have h2:=znl (fun (n:Nat)=>(n:Int)) (stk l i) ((stk l i).length-1) 0
   exact ⟨h2,by omega,by omega⟩
  simp only [show (((stk l i).length:Int)-1).toNat=(stk l i).length-1 by omega]
  have hln:=zuv (l:=l) i
  generalize hK:(l.getD i evz).kind=K at *
  repeat' (first | with_reducible refine Chk.mk ?_ fun _=>?_ | with_reducible refine And.intro ?_ ?_ | intro _)
  all_goals first
   | (with_reducible refine (?_:zlt _ _ _=true);decide +kernel)
   | (simp only [inR];omega)
   | omega
   | exact qi rfl rfl
   | exact (qi rfl rfl _ (by assumption)).1
   | exact (qi rfl rfl _ (by assumption)).2
   | (exfalso;have h7:=hend (by assumption);omega)
   | (exfalso;simp_all [Pl.isNode,isColl];done)
   | (split<;>rfl)
   | (have h7:=hend (by assumption);have h8:=htp h7;rw [h8.1];omega)
   | (refine ⟨⟨i+1,by omega⟩,by simp only;omega, ?_⟩;(simp only [Int.natCast_add,Int.natCast_one]);(refine Ent.ren1 [0,1,2,3,4,8] (by decide) ?_ ?_);(focus ((simp only [Yd]);(refine ⟨?_, ?_, ?_, ?_, ?_, ?_⟩);(exact zb rfl);(focus (refine qq fun j hj=>?_;simp only [zm hj,hE];(exact zvk (A:=.i .i64) (by assumption))));(focus (refine qq fun j hj=>?_;simp only [zm hj];(first | exact zjx (s:=stk l) (A:=.i .i64) (htp (by omega)).1 | exact zok (s:=stk l) (A:=.i .i64) (by omega) | (simp_all;done) | grind)));(focus (refine qq fun j hj=>?_;simp only [zm hj,hD];(first | done | (simp_all;done) | grind)));(exact zb rfl);(focus (rw [hS,if_pos (by assumption)];exact kg (fun _=>rfl) rfl (fun _ _=>rfl) rfl rfl))));(first | (simp_all [zj,Vg.look,SV.mapH,muL];done) | (simp [zj,Vg.look,SV.mapH,muL,hS,hD, *];done)))
   | (refine ⟨⟨i+1,by omega⟩,by simp only;omega, ?_⟩;(simp only [Int.natCast_add,Int.natCast_one]);(refine Ent.ren1 [0,1,2,3,4,5] (by decide) ?_ ?_);(focus ((simp only [Yd]);(refine ⟨?_, ?_, ?_, ?_, ?_, ?_⟩);(exact zb rfl);(focus (refine qq fun j hj=>?_;simp only [zm hj,hE];(first | done | (simp_all;done) | grind)));(focus (refine qq fun j hj=>?_;simp only [zm hj];(first | exact zjx (s:=stk l) (A:=.i .i64) (htp (by omega)).1 | exact zok (s:=stk l) (A:=.i .i64) (by omega) | (simp_all;done) | grind)));(focus (refine qq fun j hj=>?_;simp only [zm hj,hD];(first | done | (simp_all;done) | grind)));(exact zb rfl);(focus (rw [hS];simp_all;exact za fun _=>rfl))));(first | (simp_all [zj,Vg.look,SV.mapH,muL];done) | (simp [zj,Vg.look,SV.mapH,muL,hS,hD, *];done)))
   | (refine ⟨⟨i+1,by omega⟩,by simp only;omega, ?_⟩;(simp only [Int.natCast_add,Int.natCast_one]);(refine Ent.ren1 [0,1,2,3,4,5] (by decide) ?_ ?_);(focus ((simp only [Yd]);(refine ⟨?_, ?_, ?_, ?_, ?_, ?_⟩);(exact zb rfl);(focus (refine qq fun j hj=>?_;simp only [zm hj,hE];(have h7:=htp (hend (by assumption));rw [h7.1];exact pop_ends (A:=.i .i64) (by assumption) h7.2.1 h7.2.2)));(focus (refine qq fun j hj=>?_;simp only [zm hj];(first | exact zjx (s:=stk l) (A:=.i .i64) (htp (by omega)).1 | exact zok (s:=stk l) (A:=.i .i64) (by omega) | (simp_all;done) | grind)));(focus (refine qq fun j hj=>?_;simp only [zm hj,hD];(first | done | (simp_all;done) | grind)));(exact zb rfl);(focus (have h7:=hend (by assumption);rw [hS,if_neg (by simp_all),if_pos (by assumption)];exact wx (by simp) fun j hj=>by simp only [zg,take_row _ hj]<;>rfl))));(first | (simp_all [zj,Vg.look,SV.mapH,muL];done) | (simp [zj,Vg.look,SV.mapH,muL,hS,hD, *];done)))
 ·obtain rfl:i=l.length:=by omega
  have hup:mkR l.length (fun j=>if j<l.length then zh6 (stk l j) else 0)=upL l:=by
   unfold upL mkR;exact List.map_congr_left fun j hj=>by rw [if_pos (by simpa using hj)]
  have hdo:mkR l.length (fun j=>if j<l.length then ((docF l (j+1):Nat):Int) else 0)=zpd l:=by
   unfold zpd mkR;exact List.map_congr_left fun j hj=>by rw [if_pos (by simpa using hj)]
  rw [hup,hdo]
  exact ⟨[1,2,3],by decide,by simp only [Yd];exact ⟨za fun _=>rfl,za fun _=>rfl,za fun _=>rfl⟩,by simp only [↓XC,XV,XT,Yg,seval,TES];try simp [Yf],by simp [ye,SO.ro],by simp⟩
theorem nestOf (l:List Ev) (hp:l.length≤1048576∧qh l=true):PF Tryz.prog 74 [.fs 8 (l.map evc)] (.agg [.fs 8 (l.map evc),.fs 1 ((zjf l).map w6),.fs 1 ((upL l).map w6),.fs 1 ((zpd l).map w6)]):=PF.ofOwn (ztg l hp) rfl rfl (by have e1:(zjf l).length=l.length:=v7;have e2:(upL l).length=l.length:=v7;have e3:(zpd l).length=l.length:=v7;simp only [vk,kv,zb9,ju,z7,z8,and_true,true_and];exact ⟨⟨⟨by omega,fun j hj=>⟨rfl,rfl⟩⟩,⟨by omega,fun j hj=>⟨rfl,rfl⟩⟩,⟨by omega,fun j hj=>⟨rfl,rfl⟩⟩⟩,by rw [wy e1.symm,wy e2.symm,wy e3.symm]⟩)
noncomputable def zcm:PE:=peR (fun (l:List Ev)=>[.fs 8 (l.map evc)]) (fun (l:List Ev)=>l.length≤1048576∧qh l=true) (fun (l:List Ev)=>.agg [.fs 8 (l.map evc),.fs 1 ((zjf l).map w6),.fs 1 ((upL l).map w6),.fs 1 ((zpd l).map w6)])
theorem zmf {l:List Ev}:zcm [.fs 8 (l.map evc)]=some (l.length≤1048576∧qh l=true,.agg [.fs 8 (l.map evc),.fs 1 ((zjf l).map w6),.fs 1 ((upL l).map w6),.fs 1 ((zpd l).map w6)]):=z6 (by rintro a b h;simp_all [zaa]) l
theorem zme:PE1 Tryz.prog 74 zcm:=yb (by rintro l hp;exact nestOf l hp)
end Go.T
end
section
set_option linter.unusedVariables false
set_option linter.unusedSimpArgs false
set_option linter.unusedSectionVars false
set_option linter.unnecessarySimpa false
namespace Go.T
variable [Go.Vg.Glob]
open Go.Proofs Go.Vg Go.RowKit Go.TT Go.Pl
set_option maxRecDepth 10000
set_option maxHeartbeats 4000000
end Go.T
end
section
set_option linter.unusedVariables false
set_option linter.unusedSimpArgs false
set_option linter.unusedSectionVars false
set_option linter.unnecessarySimpa false
namespace Go.T
variable [Go.Vg.Glob]
open Go.Proofs Go.Vg Go.RowKit Go.TT Go.Pl
set_option maxRecDepth 10000
set_option maxHeartbeats 4000000
end Go.T
end
section
set_option linter.unusedVariables false
set_option linter.unusedSimpArgs false
set_option linter.unusedSectionVars false
set_option linter.unnecessarySimpa false
namespace Go.T
variable [Go.Vg.Glob]
open Go.Proofs Go.Vg Go.RowKit Go.TT Go.Pl
set_option maxRecDepth 10000
set_option maxHeartbeats 4000000
theorem zkq (l:List Ev) (hp:l.length≤1048576∧qh l=true):FnK Tryz.prog 152 0 [.agg [.fs 8 (l.map evc),.fs 1 ((zjf l).map w6),.fs 1 ((upL l).map w6),.fs 1 ((zpd l).map w6)]] [] (fun z c=>z=.slc 0 0 l.length∧c=[some (.row false 1 l.length (zg w6 0 (mkR l.length (zhj l))))]):=by
 refine FnK.ofE (cf:=zk Tryz.prog te [] 73 0 false (fun _=>false) (kp [(0,[1]),(1,[1,3]),(2,[1,3,4]),(3,[1,3,4,15,16,17]),(4,[1,3,4,15,16,17,18]),(5,[1,3,4,5,6,15,16,17]),(6,[1,3,4,5,6,15,16,17]),(7,[1,3,4,5,6,15,16,17,25]),(8,[1,3,4,15,16,17]),(9,[1,3,4,5,6,15,16,17,30]),(10,[1,3,4,5,7,8,15,16,17]),(11,[1,3,4,5,7,15,16,17,58]),(12,[1,3,4,15,16,17]),(13,[1,3,4,5,6,15,16,17,63]),(14,[1,3,4,15,16,17]),(15,[1,3,4,15,16,17]),(16,[2])]) [] []) (zf te_ok (l:=[]) (trivial) zd) Tryz.func152 rfl rfl rfl (by simp [zk]) (by simp [zk]) (rs:=[.tmp 2]) rfl 100000 ?_
 simp only [↓XC,XV,XT,Yg,seval,TES,XRE,XR,wl,xj]
 refine Chk.mk (by omega) fun _=>?_
 refine yv.of (ι:={x:Nat×List (List UInt8×Int) // x.1≤l.length∧zo2 l x.1 x.2}) (fun x=>⟨[(1,.ptr 0 0 0),(3,.slc 1 0 l.length),(4,.mp 2),(15,.fs 8 (l.map evc)),(16,.i .i64 (l.length:Nat)),(17,.i .i64 (x.1.1:Nat))],[some (.blk false [.fs 8 (l.map evc),.fs 1 ((zjf l).map w6),.fs 1 ((upL l).map w6),.fs 1 ((zpd l).map w6)]),some (.row false 1 l.length (zg w6 0 (mkR l.length fun j=>if j<x.1.1 then zhj l j else 0))),some (.mapS x.1.2)]⟩) (fun x=>l.length-x.1.1) ⟨(0,[]),Nat.zero_le _,ztj⟩ (Ent.ren1 [0,1,2] (by decide) (by simp only [Yd];exact ⟨zb rfl,zh fun j hj=>by simp only [zg,zm hj,Nat.not_lt_zero,if_false]<;>rfl,zi⟩) (by simp [zj,Vg.look,SV.mapH,muL])) ?_
 rintro ⟨⟨i,m⟩,hi,hm⟩
 simp only [↓XC,XV,XT,Yg,seval,TES,XRE,XR,wl,xj]
 simp only at hi hm
 have hel:(zjf l).length=l.length:=v7
 have hlt:=zkt (l:=l) (t:=(l.getD i evz).text) i
 have hlk:=hm (l.getD i evz).text
 refine ⟨fun hil=>Chk.mk (by omega) fun _=>Chk.mk (by omega) fun _=>Chk.mk (by omega) fun _=>⟨fun h2=>?_,fun h2=>⟨fun h6=>?_,fun h6=>⟨fun ha=>?_,fun ha=>?_⟩⟩⟩,fun hil=>?_⟩
 ·have hd:=zpf (l:=l) (i:=i) (by omega)
  exact Chk.mk (by simp only [inR];omega) fun _=>⟨⟨(i+1,[]),by simp only;omega,zwq h2⟩,by simp only;omega,by simp only [Int.natCast_add,Int.natCast_one];exact (Ent.ren1 [0,1,4] (by decide) (by simp only [Yd];exact ⟨zb rfl,qq fun j hj=>rowD hd j hj,zi⟩) (by simp [zj,Vg.look,SV.mapH,muL]))⟩
 ·have hsame:=ziv hm h2 (.inl h6)
  rw [hlk]
  have hdd:zhj l i=if 0≤wg l (l.getD i evz).text i∧0≤(zjf l).getD (wg l (l.getD i evz).text i).toNat 0∧(zjf l).getD (wg l (l.getD i evz).text i).toNat 0<i then wg l (l.getD i evz).text i else -1:=by unfold zhj;rw [if_pos h6]
  generalize wg l (l.getD i evz).text i=a at *
  by_cases ha0:a<0
  ·rw [if_pos ha0]
   rw [if_neg (by omega)] at hdd
   refine Chk.mk (fun h=>by cases h) fun _=>Chk.mk (fun h=>by simp at h) fun _=>⟨fun h=>by simp at h,fun _=>?_⟩
   exact Chk.mk (by simp only [inR];omega) fun _=>⟨⟨(i+1,m),by simp only;omega,hsame⟩,by simp only;omega,by simp only [Int.natCast_add,Int.natCast_one];exact (Ent.ren1 [0,1,2] (by decide) (by simp only [Yd];exact ⟨zb rfl,qq fun j hj=>rowD hdd.symm j hj,zi⟩) (by simp [zj,Vg.look,SV.mapH,muL]))⟩
  ·rw [if_neg ha0]
   simp only [Option.isSome_some,Option.getD_some,Bool.true_and]
   refine Chk.mk (fun h=>by omega) fun _=>Chk.mk (fun h=>by omega) fun _=>⟨fun h=>?_,fun h=>?_⟩
   ·simp only [Yi] at h
    rw [if_pos (by omega)] at hdd
    refine Chk.mk (by omega) fun _=>Chk.mk (by omega) fun _=>?_
    exact Chk.mk (by simp only [inR];omega) fun _=>⟨⟨(i+1,m),by simp only;omega,hsame⟩,by simp only;omega,by simp only [Int.natCast_add,Int.natCast_one];exact (Ent.ren1 [0,1,2] (by decide) (by simp only [Yd];exact ⟨zb rfl,qq fun j hj=>rowD2 hdd.symm j hj,zi⟩) (by simp [zj,Vg.look,SV.mapH,muL]))⟩
   ·simp only [Yi] at h
    rw [if_neg (by omega)] at hdd
    exact Chk.mk (by simp only [inR];omega) fun _=>⟨⟨(i+1,m),by simp only;omega,hsame⟩,by simp only;omega,by simp only [Int.natCast_add,Int.natCast_one];exact (Ent.ren1 [0,1,2] (by decide) (by simp only [Yd];exact ⟨zb rfl,qq fun j hj=>rowD hdd.symm j hj,zi⟩) (by simp [zj,Vg.look,SV.mapH,muL]))⟩
 ·have hd:=zpf (l:=l) (i:=i) h6
  exact Chk.mk (by simp only [inR];omega) fun _=>⟨⟨(i+1,x9 m (l.getD i evz).anchor i),by simp only;omega,zwp hm h2 h6 (by simpa using ha)⟩,by simp only;omega,by simp only [Int.natCast_add,Int.natCast_one];exact (Ent.ren1 [0,1,2] (by decide) (by simp only [Yd];exact ⟨zb rfl,qq fun j hj=>rowD hd j hj,zi⟩) (by simp [zj,Vg.look,SV.mapH,muL]))⟩
 ·have hd:=zpf (l:=l) (i:=i) h6
  have ha2:(l.getD i evz).anchor=[]:=by simpa using ha
  exact Chk.mk (by simp only [inR];omega) fun _=>⟨⟨(i+1,m),by simp only;omega,ziv hm h2 (.inr ha2)⟩,by simp only;omega,by simp only [Int.natCast_add,Int.natCast_one];exact (Ent.ren1 [0,1,2] (by decide) (by simp only [Yd];exact ⟨zb rfl,qq fun j hj=>rowD hd j hj,zi⟩) (by simp [zj,Vg.look,SV.mapH,muL]))⟩
 ·obtain rfl:i=l.length:=by omega
  rw [mkR_done]
  exact ⟨[1],by decide,by simp only [Yd];exact za fun _=>rfl,by simp only [↓XC,XV,XT,Yg,seval];try simp [Yf],by simp [ye,SO.ro],by simp⟩
theorem zwj (l:List Ev) (hp:l.length≤1048576∧qh l=true):PF Tryz.prog 152 [.agg [.fs 8 (l.map evc),.fs 1 ((zjf l).map w6),.fs 1 ((upL l).map w6),.fs 1 ((zpd l).map w6)]] (.fs 1 ((mkR l.length (zhj l)).map w6)):=PF.ofOwn (zkq l hp) rfl rfl (by simp only [vk,kv,zb9,ju,z7,and_true];exact ⟨⟨by omega,fun j hj=>⟨rfl,rfl⟩⟩,by rw [wy v7.symm]⟩)
noncomputable def xu:PE:=peR (fun (l:List Ev)=>[.agg [.fs 8 (l.map evc),.fs 1 ((zjf l).map w6),.fs 1 ((upL l).map w6),.fs 1 ((zpd l).map w6)]]) (fun (l:List Ev)=>l.length≤1048576∧qh l=true) (fun (l:List Ev)=>.fs 1 ((mkR l.length (zhj l)).map w6))
theorem zfp {l:List Ev}:xu [.agg [.fs 8 (l.map evc),.fs 1 ((zjf l).map w6),.fs 1 ((upL l).map w6),.fs 1 ((zpd l).map w6)]]=some (l.length≤1048576∧qh l=true,.fs 1 ((mkR l.length (zhj l)).map w6)):=z6 (by rintro a b h;simp_all [zaa,zrm]) l
theorem zfo:PE1 Tryz.prog 152 xu:=yb (by rintro l hp;exact zwj l hp)
theorem zwi (l:List Ev) (hp:l.length≤1048576∧qh l=true):PF Tryz.prog 75 [.agg [.fs 8 (l.map evc),.fs 1 ((zjf l).map w6),.fs 1 ((upL l).map w6),.fs 1 ((zpd l).map w6)]] (.b (zac l l.length)):=by
 refine ⟨rfl,rfl,FnK.of (cf:=zk Tryz.prog te [(152,xu)] 27 0 false (fun _=>false) (kp [(0,[1]),(1,[1,3]),(2,[3,9,10,11]),(3,[3,9,10,11,12]),(4,[3,4,5,9,10,11]),(5,[3,9,10,11,25]),(6,[2]),(7,[3,9,10,11]),(8,[2])]) [] []) (zf te_ok (l:=[(152,xu)]) (⟨zfo,trivial⟩) zd) Tryz.func75 rfl rfl rfl (by simp [zk]) (by simp [zk]) (rs:=[.tmp 2]) rfl 100000 ?_⟩
 simp only [↓XC,XV,XT,Yg,seval,TES,zfp,XRE,XR,wl,xj]
 refine Chk.mk hp fun _=>?_
 refine yv.of (ι:={i:Nat // i≤l.length∧zac l i=true}) (fun x=>⟨[(3,.fs 1 ((mkR l.length (zhj l)).map w6)),(9,.fs 8 (l.map evc)),(10,.i .i64 (l.length:Nat)),(11,.i .i64 (x.1:Nat))],[]⟩) (fun x=>l.length-x.1) ⟨0,Nat.zero_le _,rfl⟩ (by (try simp only [Int.natCast_add,Int.natCast_one]);exact Ent.nil (by simp [zj,Vg.look,SV.mapH])) ?_
 rintro ⟨i,hi,hf⟩
 simp only [↓XC,XV,XT,Yg,seval,TES,XRE,XR,wl,xj]
 refine ⟨fun hl=>Chk.mk (by omega) fun _=>Chk.mk (fun _=>by rw [v7];omega) fun _=>?_,fun hl=>?_⟩
 ·rw [zm (by omega)]
  by_cases h6:(l.getD i evz).kind=6
  ·rw [defD_eq hp.2 (by omega) h6]
   refine ⟨fun hb=>?_,fun hb=>?_⟩
   ·simp only [decide_eq_true h6,Bool.true_and,decide_eq_true_eq] at hb
    rw [zh7 h6 hb l.length (by omega)]
   ·have hs:zac l (i+1)=true:=by simp only [zac,hf,hb];rfl
    exact Chk.mk (by simp only [inR];omega) fun _=>⟨⟨i+1,by omega,hs⟩,by simp only;omega,(by (try simp only [Int.natCast_add,Int.natCast_one]);exact Ent.nil (by simp [zj,Vg.look,SV.mapH]))⟩
  ·refine ⟨fun hb=>(by simp only [decide_eq_false h6,Bool.false_and] at hb;cases hb),fun hb=>?_⟩
   have hs:zac l (i+1)=true:=by simp only [zac,hf,decide_eq_false h6];rfl
   exact Chk.mk (by simp only [inR];omega) fun _=>⟨⟨i+1,by omega,hs⟩,by simp only;omega,(by (try simp only [Int.natCast_add,Int.natCast_one]);exact Ent.nil (by simp [zj,Vg.look,SV.mapH]))⟩
 ·obtain rfl:i=l.length:=by omega
  rw [hf]
noncomputable def xr:PE:=peR (fun (l:List Ev)=>[.agg [.fs 8 (l.map evc),.fs 1 ((zjf l).map w6),.fs 1 ((upL l).map w6),.fs 1 ((zpd l).map w6)]]) (fun (l:List Ev)=>l.length≤1048576∧qh l=true) (fun (l:List Ev)=>.b (zac l l.length))
theorem zfn {l:List Ev}:xr [.agg [.fs 8 (l.map evc),.fs 1 ((zjf l).map w6),.fs 1 ((upL l).map w6),.fs 1 ((zpd l).map w6)]]=some (l.length≤1048576∧qh l=true,.b (zac l l.length)):=z6 (by rintro a b h;simp_all [zaa,zrm]) l
theorem zfm:PE1 Tryz.prog 75 xr:=yb (by rintro l hp;exact zwi l hp)
theorem Tied_i (l:List Ev) (hp:l.length≤1048576):PF Tryz.prog 18 [.fs 8 (l.map evc)] (.b (zon l)):=by
 refine ⟨rfl,rfl,FnK.of (cf:=zk Tryz.prog te [(17,uz),(74,zcm),(75,xr)] 10 0 false (fun _=>false) (kp [(0,[0]),(1,[2])]) [] []) (zf te_ok (l:=[(17,uz),(74,zcm),(75,xr)]) (⟨zhd,zme,zfm,trivial⟩) zd) Tryz.func18 rfl rfl rfl (by simp [zk]) (by simp [zk]) (rs:=[.tmp 2]) rfl 100000 ?_⟩
 simp only [↓XC,XV,XT,Yg,seval,TES,zhe,zmf,zfn,XRE,XR,wl,xj]
 exact Chk.mk hp fun _=>Chk.mk (fun h=>⟨h,hp,h⟩) fun _=>Chk.mk (fun h=>⟨h,hp,h⟩) fun _=>rfl
noncomputable def zcs:PE:=peR (fun (l:List Ev)=>[.fs 8 (l.map evc)]) (fun (l:List Ev)=>l.length≤1048576) (fun (l:List Ev)=>.b (zon l))
theorem zmm {l:List Ev}:zcs [.fs 8 (l.map evc)]=some (l.length≤1048576,.b (zon l)):=z6 (by rintro a b h;simp_all [zaa]) l
theorem zml:PE1 Tryz.prog 18 zcs:=yb (by rintro l hp;exact Tied_i l hp)
theorem isFault (k st:Int) (fl:Bool) (x a g:Bs) (p c:Int):PF Tryz.prog 154 [.agg [.i .i64 k,.i .i64 st,.b fl,.s x,.s a,.s g,.i .i64 p,.i .i64 c]] (.b (decide (k=10))):=by
 refine ⟨rfl,rfl,FnK.of (cf:=zk Tryz.prog te [] 6 0 false (fun _=>false) (kp [(0,[1]),(1,[2])]) [] []) (zf te_ok (l:=[]) (trivial) zd) Tryz.func154 rfl rfl rfl (by simp [zk]) (by simp [zk]) (rs:=[.tmp 2]) rfl 100000 ?_⟩
 simp only [↓XC,XV,XT,Yg,seval,TES,XRE,XR,wl,xj]
noncomputable def v6:PE:=peR (fun (x:Int×Int×Bool×Bs×Bs×Bs×Int×Int)=>match x with | (k,st,fl,x,a,g,p,c)=>[.agg [.i .i64 k,.i .i64 st,.b fl,.s x,.s a,.s g,.i .i64 p,.i .i64 c]]) (fun (x:Int×Int×Bool×Bs×Bs×Bs×Int×Int)=>match x with | (k,st,fl,x,a,g,p,c)=>True) (fun (x:Int×Int×Bool×Bs×Bs×Bs×Int×Int)=>match x with | (k,st,fl,x,a,g,p,c)=>.b (decide (k=10)))
theorem uv {k st:Int} {fl:Bool} {x a g:Bs} {p c:Int}:v6 [.agg [.i .i64 k,.i .i64 st,.b fl,.s x,.s a,.s g,.i .i64 p,.i .i64 c]]=some (True,.b (decide (k=10))):=z6 (by rintro ⟨a0,a1,a2,a3,a4,a5,a6,a7⟩ ⟨b0,b1,b2,b3,b4,b5,b6,b7⟩ h;simp_all []) (k,st,fl,x,a,g,p,c)
theorem zcq:PE1 Tryz.prog 154 v6:=yb (by rintro ⟨k,st,fl,x,a,g,p,c⟩ hp;exact isFault k st fl x a g p c)
theorem idxF (l:List Ev) (hp:l.length≤1048576):PF Tryz.prog 217 [.fs 8 (l.map evc),.fn 154] (.i .i64 (zt9 l 0)):=by
 refine ⟨rfl,rfl,FnK.of (cf:=zk Tryz.prog te [(154,v6)] 19 0 false (fun _=>false) (kp [(0,[0,1]),(1,[0,1,7,8]),(2,[0,1,7,8,9]),(3,[0,1,5,7,8]),(4,[0,1,5,7,8,16]),(5,[4]),(6,[0,1,7,8]),(7,[4])]) [] []) (zf te_ok (l:=[(154,v6)]) (⟨zcq,trivial⟩) zd) Tryz.func217 rfl rfl rfl (by simp [zk]) (by simp [zk]) (rs:=[.tmp 4]) rfl 100000 ?_⟩
 simp only [↓XC,XV,XT,Yg,seval,TES,uv,XRE,XR,wl,xj]
 refine yv.of (ι:={i:Nat // i≤l.length∧zt9 l i=zt9 l 0}) (fun x=>⟨[(0,.fs 8 (l.map evc)),(1,.fn 154),(7,.i .i64 (l.length:Nat)),(8,.i .i64 (x.1:Nat))],[]⟩) (fun x=>l.length-x.1) ⟨0,Nat.zero_le _,rfl⟩ (Ent.refl _ _) ?_
 rintro ⟨i,hi,hf⟩
 simp only [↓XC,XV,XT,Yg,seval,TES,uv,XRE,XR,wl,xj]
 refine ⟨fun hl=>?_,fun hl=>by rw [←hf,zw8 (by omega)]⟩
 rw [zrt (by omega)] at hf
 refine Chk.mk (by omega) fun _=>⟨fun h=>?_,fun h=>?_⟩
 ·rw [if_pos h] at hf
  rw [←hf]
 ·rw [if_neg h] at hf
  exact Chk.mk (by simp only [inR];omega) fun _=>⟨⟨i+1,by omega,hf⟩,by simp only;omega,(by first | exact Ent.refl _ _ | (simp only [Int.natCast_add,Int.natCast_one];exact Ent.refl _ _))⟩
noncomputable def zkd:PE:=peR (fun (l:List Ev)=>[.fs 8 (l.map evc),.fn 154]) (fun (l:List Ev)=>l.length≤1048576) (fun (l:List Ev)=>.i .i64 (zt9 l 0))
theorem zs4 {l:List Ev}:zkd [.fs 8 (l.map evc),.fn 154]=some (l.length≤1048576,.i .i64 (zt9 l 0)):=z6 (by rintro a b h;simp_all [zaa]) l
theorem zs3:PE1 Tryz.prog 217 zkd:=yb (by rintro l hp;exact idxF l hp)
theorem hasE (l:List Ev) (hp:l.length≤1048576):PF Tryz.prog 153 [.fs 8 (l.map evc),.fn 154] (.b (zw5 l)):=by
 refine ⟨rfl,rfl,FnK.of (cf:=zk Tryz.prog te [(217,zkd)] 9 0 false (fun _=>false) (kp [(0,[0,1]),(1,[4])]) [] []) (zf te_ok (l:=[(217,zkd)]) (⟨zs3,trivial⟩) zd) Tryz.func153 rfl rfl rfl (by simp [zk]) (by simp [zk]) (rs:=[.tmp 4]) rfl 100000 ?_⟩
 simp only [↓XC,XV,XT,Yg,seval,TES,zs4,XRE,XR,wl,xj]
 refine Chk.mk hp fun _=>?_
 have:=zru (l:=l) _ 0 (Nat.le_refl _)
 rw [List.drop_zero] at this
 unfold zw5
 rw [←this]
noncomputable def zke:PE:=peR (fun (l:List Ev)=>[.fs 8 (l.map evc),.fn 154]) (fun (l:List Ev)=>l.length≤1048576) (fun (l:List Ev)=>.b (zw5 l))
theorem zs6 {l:List Ev}:zke [.fs 8 (l.map evc),.fn 154]=some (l.length≤1048576,.b (zw5 l)):=z6 (by rintro a b h;simp_all [zaa]) l
theorem zs5:PE1 Tryz.prog 153 zke:=yb (by rintro l hp;exact hasE l hp)
theorem hasFault (l:List Ev) (hp:l.length≤1048576):PF Tryz.prog 76 [.fs 8 (l.map evc)] (.b (zw5 l)):=by
 refine ⟨rfl,rfl,FnK.of (cf:=zk Tryz.prog te [(153,zke),(154,v6)] 5 0 false (fun _=>false) (kp [(0,[0]),(1,[2])]) [] []) (zf te_ok (l:=[(153,zke),(154,v6)]) (⟨zs5,zcq,trivial⟩) zd) Tryz.func76 rfl rfl rfl (by simp [zk]) (by simp [zk]) (rs:=[.tmp 2]) rfl 100000 ?_⟩
 simp only [↓XC,XV,XT,Yg,seval,TES,zs6,uv,XRE,XR,wl,xj]
 exact Chk.mk hp fun _=>trivial
noncomputable def ux:PE:=peR (fun (l:List Ev)=>[.fs 8 (l.map evc)]) (fun (l:List Ev)=>l.length≤1048576) (fun (l:List Ev)=>.b (zw5 l))
theorem zhb {l:List Ev}:ux [.fs 8 (l.map evc)]=some (l.length≤1048576,.b (zw5 l)):=z6 (by rintro a b h;simp_all [zaa]) l
theorem zha:PE1 Tryz.prog 76 ux:=yb (by rintro l hp;exact hasFault l hp)
theorem Whole_i (l:List Ev) (hp:l.length≤1048576):PF Tryz.prog 19 [.fs 8 (l.map evc)] (.b (zon l&&!zw5 l)):=by
 refine ⟨rfl,rfl,FnK.of (cf:=zk Tryz.prog te [(18,zcs),(76,ux)] 10 0 false (fun _=>false) (kp [(0,[0]),(1,[2])]) [] []) (zf te_ok (l:=[(18,zcs),(76,ux)]) (⟨zml,zha,trivial⟩) zd) Tryz.func19 rfl rfl rfl (by simp [zk]) (by simp [zk]) (rs:=[.tmp 2]) rfl 100000 ?_⟩
 simp only [↓XC,XV,XT,Yg,seval,TES,zmm,zhb,XRE,XR,wl,xj]
 exact Chk.mk hp fun _=>Chk.mk (fun h=>⟨h,hp⟩) fun _=>trivial
noncomputable def zbe:PE:=peR (fun (l:List Ev)=>[.fs 8 (l.map evc)]) (fun (l:List Ev)=>l.length≤1048576) (fun (l:List Ev)=>.b (zon l&&!zw5 l))
theorem zcr {l:List Ev}:zbe [.fs 8 (l.map evc)]=some (l.length≤1048576,.b (zon l&&!zw5 l)):=z6 (by rintro a b h;simp_all [zaa]) l
theorem zkh:PE1 Tryz.prog 19 zbe:=yb (by rintro l hp;exact Whole_i l hp)
end Go.T
end
