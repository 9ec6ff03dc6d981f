/- Own text: part SBC. -/
import Derived.Test.YtgippllfnmdnpaaGreatDoorSBB
section
set_option linter.unusedVariables false
set_option linter.unusedSimpArgs false
set_option linter.unusedSectionVars false
set_option linter.unnecessarySimpa false
namespace Go.T
variable [Go.Vg.Glob]
open Go.Proofs Go.Vg Go.RowKit Go.TT Go.Pl
set_option maxRecDepth 10000
set_option maxHeartbeats 4000000
theorem isColl_i (k st:Int) (fl:Bool) (x a g:Bs) (p c:Int):PF Tryz.prog 151 [.agg [.i .i64 k,.i .i64 st,.b fl,.s x,.s a,.s g,.i .i64 p,.i .i64 c]] (.b (Pl.isColl k)):=by
 refine ⟨rfl,rfl,FnK.of (cf:=zk Tryz.prog te [] 11 0 false (fun _=>false) (kp [(0,[1]),(1,[2])]) [] []) (zf te_ok (l:=[]) (trivial) zc) Tryz.func151 rfl rfl rfl (by simp [zk]) (by simp [zk]) (rs:=[.tmp 2]) rfl 100000 ?_⟩
 simp only [↓XC,XV,XT,Yg,seval,TES]
 repeat' (first | with_reducible refine Chk.mk ?_ fun _=>?_ | with_reducible refine And.intro ?_ ?_ | intro _)
 all_goals first | (exfalso;omega) | simp_all [isColl]
noncomputable def vm:PE:=peR (fun (x:Int×Int×Bool×Bs×Bs×Bs×Int×Int)=>match x with | (k,st,fl,x,a,g,p,c)=>[.agg [.i .i64 k,.i .i64 st,.b fl,.s x,.s a,.s g,.i .i64 p,.i .i64 c]]) (fun (x:Int×Int×Bool×Bs×Bs×Bs×Int×Int)=>match x with | (k,st,fl,x,a,g,p,c)=>True) (fun (x:Int×Int×Bool×Bs×Bs×Bs×Int×Int)=>match x with | (k,st,fl,x,a,g,p,c)=>.b (Pl.isColl k))
theorem uz {k st:Int} {fl:Bool} {x a g:Bs} {p c:Int}:vm [.agg [.i .i64 k,.i .i64 st,.b fl,.s x,.s a,.s g,.i .i64 p,.i .i64 c]]=some (True,.b (Pl.isColl k)):=yb (by rintro ⟨a0,a1,a2,a3,a4,a5,a6,a7⟩ ⟨b0,b1,b2,b3,b4,b5,b6,b7⟩ h;simp_all []) (k,st,fl,x,a,g,p,c)
theorem zcw:PE1 Tryz.prog 151 vm:=yf (by rintro ⟨k,st,fl,x,a,g,p,c⟩ hp;exact isColl_i k st fl x a g p c)
theorem isNode_i (k st:Int) (fl:Bool) (x a g:Bs) (p c:Int):PF Tryz.prog 129 [.agg [.i .i64 k,.i .i64 st,.b fl,.s x,.s a,.s g,.i .i64 p,.i .i64 c]] (.b (Pl.isNode k)):=by
 refine ⟨rfl,rfl,FnK.of (cf:=zk Tryz.prog te [(151,vm)] 15 0 false (fun _=>false) (kp [(0,[1]),(1,[2])]) [] []) (zf te_ok (l:=[(151,vm)]) (⟨zcw,trivial⟩) zc) Tryz.func129 rfl rfl rfl (by simp [zk]) (by simp [zk]) (rs:=[.tmp 2]) rfl 100000 ?_⟩
 simp only [↓XC,XV,XT,Yg,seval,TES,uz]
 repeat' (first | with_reducible refine Chk.mk ?_ fun _=>?_ | with_reducible refine And.intro ?_ ?_ | intro _)
 all_goals first | (exfalso;omega) | simp_all [isColl,Pl.isNode]
noncomputable def zaq:PE:=peR (fun (x:Int×Int×Bool×Bs×Bs×Bs×Int×Int)=>match x with | (k,st,fl,x,a,g,p,c)=>[.agg [.i .i64 k,.i .i64 st,.b fl,.s x,.s a,.s g,.i .i64 p,.i .i64 c]]) (fun (x:Int×Int×Bool×Bs×Bs×Bs×Int×Int)=>match x with | (k,st,fl,x,a,g,p,c)=>True) (fun (x:Int×Int×Bool×Bs×Bs×Bs×Int×Int)=>match x with | (k,st,fl,x,a,g,p,c)=>.b (Pl.isNode k))
theorem zcv {k st:Int} {fl:Bool} {x a g:Bs} {p c:Int}:zaq [.agg [.i .i64 k,.i .i64 st,.b fl,.s x,.s a,.s g,.i .i64 p,.i .i64 c]]=some (True,.b (Pl.isNode k)):=yb (by rintro ⟨a0,a1,a2,a3,a4,a5,a6,a7⟩ ⟨b0,b1,b2,b3,b4,b5,b6,b7⟩ h;simp_all []) (k,st,fl,x,a,g,p,c)
theorem zi5:PE1 Tryz.prog 129 zaq:=yf (by rintro ⟨k,st,fl,x,a,g,p,c⟩ hp;exact isNode_i k st fl x a g p c)
theorem zvy (l:List Ev) (hp:l.length≤1048576∧qa l=true):FnK Tryz.prog 74 0 [.fs 8 (l.map evc)] [] (fun z c=>z=.agg [.fs 8 (l.map evc),.slc 0 0 l.length,.slc 1 0 l.length,.slc 2 0 l.length]∧c=[some (.row false 1 l.length (zh ks 0 (zk5 l))),some (.row false 1 l.length (zh ks 0 (upL l))),some (.row false 1 l.length (zh ks 0 (zrr l)))]):=by
 refine FnK.ofE (cf:=zk Tryz.prog te [(151,vm),(129,zaq)] 94 0 false (fun _=>false) (kp [(0,[0,2]),(1,[0,2,3]),(2,[0,2,3,4]),(3,[0,2,3,4,5]),(4,[2,3,4,5,21,22,23]),(5,[2,3,4,5,21,22,23,24]),(6,[2,3,4,5,6,7,21,22,23]),(7,[2,3,4,5,6,7,21,22,23]),(8,[2,3,4,5,6,7,8,21,22,23]),(9,[2,3,4,5,6,7,8,21,22,23,35]),(10,[2,3,4,5,6,7,21,22,23]),(11,[2,3,4,5,6,7,21,22,23,47]),(12,[2,3,4,5,6,7,21,22,23]),(13,[2,3,4,5,6,7,21,22,23]),(14,[2,3,4,5,6,7,21,22,23]),(15,[2,3,4,5,6,7,21,22,23,58]),(16,[2,3,4,5,21,22,23]),(17,[2,3,4,5,6,7,21,22,23,65]),(18,[2,3,4,5,21,22,23]),(19,[2,3,4,5,21,22,23]),(20,[2,3,4,5,6,21,22,23,84]),(21,[2,3,4,5,21,22,23]),(22,[2,3,4,5,21,22,23]),(23,[2])]) [2] [(1,[],[],.q1 0 (.q1 1 (.q1 2 (.q1 4 (.q1 5 (.q1 7 (.q1 8 (.alt 3 (.alt 6 (.alt 9 (.q1 10 (.alt 11 (.alt 12 (.fin) (.fin)) (.fin))) (.alt 11 (.alt 9 (.q1 10 (.alt 12 (.fin) (.fin))) (.fin)) (.fin))) (.alt 9 (.alt 6 (.q1 10 (.alt 11 (.alt 12 (.fin) (.fin)) (.fin))) (.alt 11 (.alt 6 (.q1 10 (.alt 12 (.fin) (.fin))) (.fin)) (.fin))) (.alt 11 (.alt 6 (.alt 9 (.q1 10 (.alt 12 (.fin) (.fin))) (.fin)) (.alt 9 (.alt 6 (.q1 10 (.alt 12 (.fin) (.fin))) (.fin)) (.fin))) (.fin)))) (.alt 6 (.alt 3 (.alt 9 (.q1 10 (.alt 11 (.alt 12 (.fin) (.fin)) (.fin))) (.alt 11 (.alt 9 (.q1 10 (.alt 12 (.fin) (.fin))) (.fin)) (.fin))) (.alt 9 (.alt 3 (.q1 10 (.alt 11 (.alt 12 (.fin) (.fin)) (.fin))) (.alt 11 (.alt 3 (.q1 10 (.alt 12 (.fin) (.fin))) (.fin)) (.fin))) (.alt 11 (.alt 3 (.alt 9 (.q1 10 (.alt 12 (.fin) (.fin))) (.fin)) (.alt 9 (.alt 3 (.q1 10 (.alt 12 (.fin) (.fin))) (.fin)) (.fin))) (.fin)))) (.alt 9 (.alt 3 (.alt 6 (.q1 10 (.alt 11 (.alt 12 (.fin) (.fin)) (.fin))) (.alt 11 (.alt 6 (.q1 10 (.alt 12 (.fin) (.fin))) (.fin)) (.fin))) (.alt 6 (.alt 3 (.q1 10 (.alt 11 (.alt 12 (.fin) (.fin)) (.fin))) (.alt 11 (.alt 3 (.q1 10 (.alt 12 (.fin) (.fin))) (.fin)) (.fin))) (.alt 11 (.alt 3 (.alt 6 (.q1 10 (.alt 12 (.fin) (.fin))) (.fin)) (.alt 6 (.alt 3 (.q1 10 (.alt 12 (.fin) (.fin))) (.fin)) (.fin))) (.fin)))) (.alt 11 (.alt 3 (.alt 6 (.alt 9 (.q1 10 (.alt 12 (.fin) (.fin))) (.fin)) (.alt 9 (.alt 6 (.q1 10 (.alt 12 (.fin) (.fin))) (.fin)) (.fin))) (.alt 6 (.alt 3 (.alt 9 (.q1 10 (.alt 12 (.fin) (.fin))) (.fin)) (.alt 9 (.alt 3 (.q1 10 (.alt 12 (.fin) (.fin))) (.fin)) (.fin))) (.alt 9 (.alt 3 (.alt 6 (.q1 10 (.alt 12 (.fin) (.fin))) (.fin)) (.alt 6 (.alt 3 (.q1 10 (.alt 12 (.fin) (.fin))) (.fin)) (.fin))) (.fin)))) (.fin)))))))))))),(10,[9],[2],.q1 0 (.q1 2 (.q1 3 (.q1 4 (.q1 5 (.q0 6 [6,7,8,9] (.q0 1 [1,8,9] (.q0 7 [7,8,9] (.q0 8 [8,9] (.sw (.alt 9 (.fin) (.fin)))))))))))),(18,[10],[1],.q1 0 (.q1 2 (.q1 3 (.q1 4 (.q1 5 (.q0 6 [6,7,9,10] (.q1 8 (.q0 1 [1,9,10] (.q0 7 [7,9,10] (.q0 9 [9,10] (.sw (.alt 10 (.fin) (.fin)))))))))))))]) (zf te_ok (l:=[(151,vm),(129,zaq)]) (⟨zcw,zi5,trivial⟩) zc) Tryz.func74 rfl rfl rfl (by simp [zk]) (by simp [zk]) (rs:=[.cell 2 89]) rfl 100000 ?_
 simp only [↓XC,XV,XT,Yg,seval,TES,uz,zcv,XRE,yn]
 refine zgj.of (ι:=Unit) (fun _=>(⟨[(0,.fs 8 (l.map evc)),(2,.ptr 0 0 0),(3,.ptr 4 0 0)],[some (.blk false [.nils,.nils,.nils,.nils]),some (.row false 1 l.length (zh ks 0 (mkR l.length (endF l 0)))),some (.row false 1 l.length (zh ks 0 (mkR l.length fun j=>if j<0 then zi0 (stk l j) else 0))),some (.row false 1 l.length (zh ks 0 (mkR l.length fun j=>if j<0 then (docF l (j+1):Nat) else 0))),some (.blk false [.fs 8 (l.map evc),.slc 1 0 l.length,.slc 2 0 l.length,.slc 3 0 l.length])]⟩:St)) ?_ (fun _=>?_)
 ·simp only [↓XC,XV,XT,Yg,seval,TES]
  refine ⟨by decide +kernel, ?_⟩
  repeat' (first | with_reducible refine Chk.mk ?_ fun _=>?_ | with_reducible refine And.intro ?_ ?_)
  all_goals first | omega | (first | (refine ⟨(),Ent.ren1 [0,1,2,3,4] (by decide) ?_ ?_⟩;(focus ((simp only [Yd]);(refine ⟨?_, ?_, ?_, ?_, ?_⟩);(exact za rfl);(exact zg fun j hj=>by simp only [zh,zo hj,endF]<;>rfl);(exact zg fun j hj=>by simp only [zh,zo hj,Nat.not_lt_zero,if_false]<;>rfl);(exact zg fun j hj=>by simp only [zh,zo hj,Nat.not_lt_zero,if_false]<;>rfl);(refine za ?_);(simp [Yf]);done));(simp [zi,Vg.look,SV.mapH,muL]);done) | (refine ⟨(),Ent.ren1 [0,1,2,4,3] (by decide) ?_ ?_⟩;(focus ((simp only [Yd]);(refine ⟨?_, ?_, ?_, ?_, ?_⟩);(exact za rfl);(exact zg fun j hj=>by simp only [zh,zo hj,endF]<;>rfl);(exact zg fun j hj=>by simp only [zh,zo hj,Nat.not_lt_zero,if_false]<;>rfl);(exact zg fun j hj=>by simp only [zh,zo hj,Nat.not_lt_zero,if_false]<;>rfl);(refine za ?_);(simp [Yf]);done));(simp [zi,Vg.look,SV.mapH,muL]);done) | (refine ⟨(),Ent.ren1 [0,1,3,2,4] (by decide) ?_ ?_⟩;(focus ((simp only [Yd]);(refine ⟨?_, ?_, ?_, ?_, ?_⟩);(exact za rfl);(exact zg fun j hj=>by simp only [zh,zo hj,endF]<;>rfl);(exact zg fun j hj=>by simp only [zh,zo hj,Nat.not_lt_zero,if_false]<;>rfl);(exact zg fun j hj=>by simp only [zh,zo hj,Nat.not_lt_zero,if_false]<;>rfl);(refine za ?_);(simp [Yf]);done));(simp [zi,Vg.look,SV.mapH,muL]);done) | (refine ⟨(),Ent.ren1 [0,1,3,4,2] (by decide) ?_ ?_⟩;(focus ((simp only [Yd]);(refine ⟨?_, ?_, ?_, ?_, ?_⟩);(exact za rfl);(exact zg fun j hj=>by simp only [zh,zo hj,endF]<;>rfl);(exact zg fun j hj=>by simp only [zh,zo hj,Nat.not_lt_zero,if_false]<;>rfl);(exact zg fun j hj=>by simp only [zh,zo hj,Nat.not_lt_zero,if_false]<;>rfl);(refine za ?_);(simp [Yf]);done));(simp [zi,Vg.look,SV.mapH,muL]);done) | (refine ⟨(),Ent.ren1 [0,1,4,2,3] (by decide) ?_ ?_⟩;(focus ((simp only [Yd]);(refine ⟨?_, ?_, ?_, ?_, ?_⟩);(exact za rfl);(exact zg fun j hj=>by simp only [zh,zo hj,endF]<;>rfl);(exact zg fun j hj=>by simp only [zh,zo hj,Nat.not_lt_zero,if_false]<;>rfl);(exact zg fun j hj=>by simp only [zh,zo hj,Nat.not_lt_zero,if_false]<;>rfl);(refine za ?_);(simp [Yf]);done));(simp [zi,Vg.look,SV.mapH,muL]);done) | (refine ⟨(),Ent.ren1 [0,1,4,3,2] (by decide) ?_ ?_⟩;(focus ((simp only [Yd]);(refine ⟨?_, ?_, ?_, ?_, ?_⟩);(exact za rfl);(exact zg fun j hj=>by simp only [zh,zo hj,endF]<;>rfl);(exact zg fun j hj=>by simp only [zh,zo hj,Nat.not_lt_zero,if_false]<;>rfl);(exact zg fun j hj=>by simp only [zh,zo hj,Nat.not_lt_zero,if_false]<;>rfl);(refine za ?_);(simp [Yf]);done));(simp [zi,Vg.look,SV.mapH,muL]);done) | (refine ⟨(),Ent.ren1 [0,2,1,3,4] (by decide) ?_ ?_⟩;(focus ((simp only [Yd]);(refine ⟨?_, ?_, ?_, ?_, ?_⟩);(exact za rfl);(exact zg fun j hj=>by simp only [zh,zo hj,endF]<;>rfl);(exact zg fun j hj=>by simp only [zh,zo hj,Nat.not_lt_zero,if_false]<;>rfl);(exact zg fun j hj=>by simp only [zh,zo hj,Nat.not_lt_zero,if_false]<;>rfl);(refine za ?_);(simp [Yf]);done));(simp [zi,Vg.look,SV.mapH,muL]);done) | (refine ⟨(),Ent.ren1 [0,2,1,4,3] (by decide) ?_ ?_⟩;(focus ((simp only [Yd]);(refine ⟨?_, ?_, ?_, ?_, ?_⟩);(exact za rfl);(exact zg fun j hj=>by simp only [zh,zo hj,endF]<;>rfl);(exact zg fun j hj=>by simp only [zh,zo hj,Nat.not_lt_zero,if_false]<;>rfl);(exact zg fun j hj=>by simp only [zh,zo hj,Nat.not_lt_zero,if_false]<;>rfl);(refine za ?_);(simp [Yf]);done));(simp [zi,Vg.look,SV.mapH,muL]);done) | (refine ⟨(),Ent.ren1 [0,2,3,1,4] (by decide) ?_ ?_⟩;(focus ((simp only [Yd]);(refine ⟨?_, ?_, ?_, ?_, ?_⟩);(exact za rfl);(exact zg fun j hj=>by simp only [zh,zo hj,endF]<;>rfl);(exact zg fun j hj=>by simp only [zh,zo hj,Nat.not_lt_zero,if_false]<;>rfl);(exact zg fun j hj=>by simp only [zh,zo hj,Nat.not_lt_zero,if_false]<;>rfl);(refine za ?_);(simp [Yf]);done));(simp [zi,Vg.look,SV.mapH,muL]);done) | (refine ⟨(),Ent.ren1 [0,2,3,4,1] (by decide) ?_ ?_⟩;(focus ((simp only [Yd]);(refine ⟨?_, ?_, ?_, ?_, ?_⟩);(exact za rfl);(exact zg fun j hj=>by simp only [zh,zo hj,endF]<;>rfl);(exact zg fun j hj=>by simp only [zh,zo hj,Nat.not_lt_zero,if_false]<;>rfl);(exact zg fun j hj=>by simp only [zh,zo hj,Nat.not_lt_zero,if_false]<;>rfl);(refine za ?_);(simp [Yf]);done));(simp [zi,Vg.look,SV.mapH,muL]);done) | (refine ⟨(),Ent.ren1 [0,2,4,1,3] (by decide) ?_ ?_⟩;(focus ((simp only [Yd]);(refine ⟨?_, ?_, ?_, ?_, ?_⟩);(exact za rfl);(exact zg fun j hj=>by simp only [zh,zo hj,endF]<;>rfl);(exact zg fun j hj=>by simp only [zh,zo hj,Nat.not_lt_zero,if_false]<;>rfl);(exact zg fun j hj=>by simp only [zh,zo hj,Nat.not_lt_zero,if_false]<;>rfl);(refine za ?_);(simp [Yf]);done));(simp [zi,Vg.look,SV.mapH,muL]);done) | (refine ⟨(),Ent.ren1 [0,2,4,3,1] (by decide) ?_ ?_⟩;(focus ((simp only [Yd]);(refine ⟨?_, ?_, ?_, ?_, ?_⟩);(exact za rfl);(exact zg fun j hj=>by simp only [zh,zo hj,endF]<;>rfl);(exact zg fun j hj=>by simp only [zh,zo hj,Nat.not_lt_zero,if_false]<;>rfl);(exact zg fun j hj=>by simp only [zh,zo hj,Nat.not_lt_zero,if_false]<;>rfl);(refine za ?_);(simp [Yf]);done));(simp [zi,Vg.look,SV.mapH,muL]);done) | (refine ⟨(),Ent.ren1 [0,3,1,2,4] (by decide) ?_ ?_⟩;(focus ((simp only [Yd]);(refine ⟨?_, ?_, ?_, ?_, ?_⟩);(exact za rfl);(exact zg fun j hj=>by simp only [zh,zo hj,endF]<;>rfl);(exact zg fun j hj=>by simp only [zh,zo hj,Nat.not_lt_zero,if_false]<;>rfl);(exact zg fun j hj=>by simp only [zh,zo hj,Nat.not_lt_zero,if_false]<;>rfl);(refine za ?_);(simp [Yf]);done));(simp [zi,Vg.look,SV.mapH,muL]);done) | (refine ⟨(),Ent.ren1 [0,3,1,4,2] (by decide) ?_ ?_⟩;(focus ((simp only [Yd]);(refine ⟨?_, ?_, ?_, ?_, ?_⟩);(exact za rfl);(exact zg fun j hj=>by simp only [zh,zo hj,endF]<;>rfl);(exact zg fun j hj=>by simp only [zh,zo hj,Nat.not_lt_zero,if_false]<;>rfl);(exact zg fun j hj=>by simp only [zh,zo hj,Nat.not_lt_zero,if_false]<;>rfl);(refine za ?_);(simp [Yf]);done));(simp [zi,Vg.look,SV.mapH,muL]);done) | (refine ⟨(),Ent.ren1 [0,3,2,1,4] (by decide) ?_ ?_⟩;(focus ((simp only [Yd]);(refine ⟨?_, ?_, ?_, ?_, ?_⟩);(exact za rfl);(exact zg fun j hj=>by simp only [zh,zo hj,endF]<;>rfl);(exact zg fun j hj=>by simp only [zh,zo hj,Nat.not_lt_zero,if_false]<;>rfl);(exact zg fun j hj=>by simp only [zh,zo hj,Nat.not_lt_zero,if_false]<;>rfl);(refine za ?_);(simp [Yf]);done));(simp [zi,Vg.look,SV.mapH,muL]);done) | (refine ⟨(),Ent.ren1 [0,3,2,4,1] (by decide) ?_ ?_⟩;(focus ((simp only [Yd]);(refine ⟨?_, ?_, ?_, ?_, ?_⟩);(exact za rfl);(exact zg fun j hj=>by simp only [zh,zo hj,endF]<;>rfl);(exact zg fun j hj=>by simp only [zh,zo hj,Nat.not_lt_zero,if_false]<;>rfl);(exact zg fun j hj=>by simp only [zh,zo hj,Nat.not_lt_zero,if_false]<;>rfl);(refine za ?_);(simp [Yf]);done));(simp [zi,Vg.look,SV.mapH,muL]);done) | (refine ⟨(),Ent.ren1 [0,3,4,1,2] (by decide) ?_ ?_⟩;(focus ((simp only [Yd]);(refine ⟨?_, ?_, ?_, ?_, ?_⟩);(exact za rfl);(exact zg fun j hj=>by simp only [zh,zo hj,endF]<;>rfl);(exact zg fun j hj=>by simp only [zh,zo hj,Nat.not_lt_zero,if_false]<;>rfl);(exact zg fun j hj=>by simp only [zh,zo hj,Nat.not_lt_zero,if_false]<;>rfl);(refine za ?_);(simp [Yf]);done));(simp [zi,Vg.look,SV.mapH,muL]);done) | (refine ⟨(),Ent.ren1 [0,3,4,2,1] (by decide) ?_ ?_⟩;(focus ((simp only [Yd]);(refine ⟨?_, ?_, ?_, ?_, ?_⟩);(exact za rfl);(exact zg fun j hj=>by simp only [zh,zo hj,endF]<;>rfl);(exact zg fun j hj=>by simp only [zh,zo hj,Nat.not_lt_zero,if_false]<;>rfl);(exact zg fun j hj=>by simp only [zh,zo hj,Nat.not_lt_zero,if_false]<;>rfl);(refine za ?_);(simp [Yf]);done));(simp [zi,Vg.look,SV.mapH,muL]);done) | (refine ⟨(),Ent.ren1 [0,4,1,2,3] (by decide) ?_ ?_⟩;(focus ((simp only [Yd]);(refine ⟨?_, ?_, ?_, ?_, ?_⟩);(exact za rfl);(exact zg fun j hj=>by simp only [zh,zo hj,endF]<;>rfl);(exact zg fun j hj=>by simp only [zh,zo hj,Nat.not_lt_zero,if_false]<;>rfl);(exact zg fun j hj=>by simp only [zh,zo hj,Nat.not_lt_zero,if_false]<;>rfl);(refine za ?_);(simp [Yf]);done));(simp [zi,Vg.look,SV.mapH,muL]);done) | (refine ⟨(),Ent.ren1 [0,4,1,3,2] (by decide) ?_ ?_⟩;(focus ((simp only [Yd]);(refine ⟨?_, ?_, ?_, ?_, ?_⟩);(exact za rfl);(exact zg fun j hj=>by simp only [zh,zo hj,endF]<;>rfl);(exact zg fun j hj=>by simp only [zh,zo hj,Nat.not_lt_zero,if_false]<;>rfl);(exact zg fun j hj=>by simp only [zh,zo hj,Nat.not_lt_zero,if_false]<;>rfl);(refine za ?_);(simp [Yf]);done));(simp [zi,Vg.look,SV.mapH,muL]);done) | (refine ⟨(),Ent.ren1 [0,4,2,1,3] (by decide) ?_ ?_⟩;(focus ((simp only [Yd]);(refine ⟨?_, ?_, ?_, ?_, ?_⟩);(exact za rfl);(exact zg fun j hj=>by simp only [zh,zo hj,endF]<;>rfl);(exact zg fun j hj=>by simp only [zh,zo hj,Nat.not_lt_zero,if_false]<;>rfl);(exact zg fun j hj=>by simp only [zh,zo hj,Nat.not_lt_zero,if_false]<;>rfl);(refine za ?_);(simp [Yf]);done));(simp [zi,Vg.look,SV.mapH,muL]);done) | (refine ⟨(),Ent.ren1 [0,4,2,3,1] (by decide) ?_ ?_⟩;(focus ((simp only [Yd]);(refine ⟨?_, ?_, ?_, ?_, ?_⟩);(exact za rfl);(exact zg fun j hj=>by simp only [zh,zo hj,endF]<;>rfl);(exact zg fun j hj=>by simp only [zh,zo hj,Nat.not_lt_zero,if_false]<;>rfl);(exact zg fun j hj=>by simp only [zh,zo hj,Nat.not_lt_zero,if_false]<;>rfl);(refine za ?_);(simp [Yf]);done));(simp [zi,Vg.look,SV.mapH,muL]);done) | (refine ⟨(),Ent.ren1 [0,4,3,1,2] (by decide) ?_ ?_⟩;(focus ((simp only [Yd]);(refine ⟨?_, ?_, ?_, ?_, ?_⟩);(exact za rfl);(exact zg fun j hj=>by simp only [zh,zo hj,endF]<;>rfl);(exact zg fun j hj=>by simp only [zh,zo hj,Nat.not_lt_zero,if_false]<;>rfl);(exact zg fun j hj=>by simp only [zh,zo hj,Nat.not_lt_zero,if_false]<;>rfl);(refine za ?_);(simp [Yf]);done));(simp [zi,Vg.look,SV.mapH,muL]);done) | (refine ⟨(),Ent.ren1 [0,4,3,2,1] (by decide) ?_ ?_⟩;(focus ((simp only [Yd]);(refine ⟨?_, ?_, ?_, ?_, ?_⟩);(exact za rfl);(exact zg fun j hj=>by simp only [zh,zo hj,endF]<;>rfl);(exact zg fun j hj=>by simp only [zh,zo hj,Nat.not_lt_zero,if_false]<;>rfl);(exact zg fun j hj=>by simp only [zh,zo hj,Nat.not_lt_zero,if_false]<;>rfl);(refine za ?_);(simp [Yf]);done));(simp [zi,Vg.look,SV.mapH,muL]);done))
 simp only [↓XC,XV,XT,Yg,seval,TES,XRE,XR,yn]
 refine yq.of (ι:={i:Nat // i≤l.length}) (fun x=>⟨[(2,.ptr 0 0 0),(3,.ptr 4 0 0),(4,.slc 5 0 (stk l x.1).length),(5,.i .i64 (docF l x.1:Nat)),(21,.fs 8 (l.map evc)),(22,.i .i64 (l.length:Nat)),(23,.i .i64 (x.1:Nat))],[some (.blk false [.nils,.nils,.nils,.nils]),some (.row false 1 l.length (zh ks 0 (mkR l.length (endF l x.1)))),some (.row false 1 l.length (zh ks 0 (mkR l.length fun j=>if j<x.1 then zi0 (stk l j) else 0))),some (.row false 1 l.length (zh ks 0 (mkR l.length fun j=>if j<x.1 then (docF l (j+1):Nat) else 0))),some (.blk false [.fs 8 (l.map evc),.slc 1 0 l.length,.slc 2 0 l.length,.slc 3 0 l.length]),some (.row false 1 (stk l x.1).length (zh ks 0 ((stk l x.1).map fun (n:Nat)=>(n:Int))))]⟩) (fun x=>l.length-x.1) ⟨0,Nat.zero_le _⟩ (Ent.ren1 [0,1,2,3,4,5] (by decide) (by simp only [Yd];refine ⟨?_, ?_, ?_, ?_, ?_, ?_⟩;(exact za rfl);(exact zb fun _=>rfl);(exact zb fun _=>rfl);(exact zb fun _=>rfl);(exact za rfl);(exact zg fun j hj=>absurd hj (Nat.not_lt_zero _))) (by simp [zi,Vg.look,SV.mapH,muL,stk,docF])) ?_
 rintro ⟨i,hi⟩
 simp only [↓XC,XV,XT,Yg,seval,TES,uz,zcv,XRE,XR,yn]
 have hS:stk l (i+1)=if isColl (l.getD i evz).kind then stk l i++[i] else if (l.getD i evz).kind=7 then (stk l i).take ((stk l i).length-1) else stk l i:=by simp only [stk]
 have hD:docF l (i+1)=if (l.getD i evz).kind=2 then i else docF l i:=by simp only [docF]
 have hE:∀ j,endF l (i+1) j=if j=i then (if Pl.isNode (l.getD i evz).kind&&!isColl (l.getD i evz).kind then (i:Int) else -1) else if (l.getD i evz).kind=7∧zi0 (stk l i)=j then (i:Int) else endF l i j:=fun j=>by simp only [endF]
 refine ⟨fun hil=>?_,fun hil=>?_⟩
 ·have hend:(l.getD i evz).kind=7→0<(stk l i).length:=zvx hp.2 (by omega)
  have htp:0<(stk l i).length→((stk l i).map fun (n:Nat)=>(n:Int)).getD ((stk l i).length-1) 0=zi0 (stk l i)∧0≤zi0 (stk l i)∧zi0 (stk l i)<i:=fun h=>by
   have h1:=zj2 (l:=l) i ((stk l i).length-1) (by omega)
   rw [zgm h]
   have h2:=zpu (fun (n:Nat)=>(n:Int)) (stk l i) ((stk l i).length-1) 0
   exact ⟨h2,by omega,by omega⟩
  simp only [show (((stk l i).length:Int)-1).toNat=(stk l i).length-1 by omega]
  have hln:=zxj (l:=l) i
  generalize hK:(l.getD i evz).kind=K at *
  repeat' (first | with_reducible refine Chk.mk ?_ fun _=>?_ | with_reducible refine And.intro ?_ ?_ | intro _)
  all_goals first
   | (with_reducible refine (?_:znx _ _ _=true);decide +kernel)
   | (simp only [inR];omega)
   | omega
   | exact qn rfl rfl
   | exact (qn rfl rfl _ (by assumption)).1
   | exact (qn rfl rfl _ (by assumption)).2
   | (exfalso;have h7:=hend (by assumption);omega)
   | (exfalso;simp_all [Pl.isNode,isColl];done)
   | (split<;>rfl)
   | (have h7:=hend (by assumption);have h8:=htp h7;rw [h8.1];omega)
   | (refine ⟨⟨i+1,by omega⟩,by simp only;omega, ?_⟩;(simp only [Int.natCast_add,Int.natCast_one]);(refine Ent.ren1 [0,1,2,3,4,8] (by decide) ?_ ?_);(focus ((simp only [Yd]);(refine ⟨?_, ?_, ?_, ?_, ?_, ?_⟩);(exact za rfl);(focus (refine wi fun j hj=>?_;simp only [zo hj,hE];(exact zx8 (A:=.i .i64) (by assumption))));(focus (refine wi fun j hj=>?_;simp only [zo hj];(first | exact zln (s:=stk l) (A:=.i .i64) (htp (by omega)).1 | exact zqv (s:=stk l) (A:=.i .i64) (by omega) | (simp_all;done) | grind)));(focus (refine wi fun j hj=>?_;simp only [zo hj,hD];(first | done | (simp_all;done) | grind)));(exact za rfl);(focus (rw [hS,if_pos (by assumption)];exact jb (fun _=>rfl) rfl (fun _ _=>rfl) rfl rfl))));(first | (simp_all [zi,Vg.look,SV.mapH,muL];done) | (simp [zi,Vg.look,SV.mapH,muL,hS,hD, *];done)))
   | (refine ⟨⟨i+1,by omega⟩,by simp only;omega, ?_⟩;(simp only [Int.natCast_add,Int.natCast_one]);(refine Ent.ren1 [0,1,2,3,4,5] (by decide) ?_ ?_);(focus ((simp only [Yd]);(refine ⟨?_, ?_, ?_, ?_, ?_, ?_⟩);(exact za rfl);(focus (refine wi fun j hj=>?_;simp only [zo hj,hE];(first | done | (simp_all;done) | grind)));(focus (refine wi fun j hj=>?_;simp only [zo hj];(first | exact zln (s:=stk l) (A:=.i .i64) (htp (by omega)).1 | exact zqv (s:=stk l) (A:=.i .i64) (by omega) | (simp_all;done) | grind)));(focus (refine wi fun j hj=>?_;simp only [zo hj,hD];(first | done | (simp_all;done) | grind)));(exact za rfl);(focus (rw [hS];simp_all;exact zb fun _=>rfl))));(first | (simp_all [zi,Vg.look,SV.mapH,muL];done) | (simp [zi,Vg.look,SV.mapH,muL,hS,hD, *];done)))
   | (refine ⟨⟨i+1,by omega⟩,by simp only;omega, ?_⟩;(simp only [Int.natCast_add,Int.natCast_one]);(refine Ent.ren1 [0,1,2,3,4,5] (by decide) ?_ ?_);(focus ((simp only [Yd]);(refine ⟨?_, ?_, ?_, ?_, ?_, ?_⟩);(exact za rfl);(focus (refine wi fun j hj=>?_;simp only [zo hj,hE];(have h7:=htp (hend (by assumption));rw [h7.1];exact pop_ends (A:=.i .i64) (by assumption) h7.2.1 h7.2.2)));(focus (refine wi fun j hj=>?_;simp only [zo hj];(first | exact zln (s:=stk l) (A:=.i .i64) (htp (by omega)).1 | exact zqv (s:=stk l) (A:=.i .i64) (by omega) | (simp_all;done) | grind)));(focus (refine wi fun j hj=>?_;simp only [zo hj,hD];(first | done | (simp_all;done) | grind)));(exact za rfl);(focus (have h7:=hend (by assumption);rw [hS,if_neg (by simp_all),if_pos (by assumption)];exact kj (by simp) fun j hj=>by simp only [zh,take_row _ hj]<;>rfl))));(first | (simp_all [zi,Vg.look,SV.mapH,muL];done) | (simp [zi,Vg.look,SV.mapH,muL,hS,hD, *];done)))
 ·obtain rfl:i=l.length:=by omega
  have hup:mkR l.length (fun j=>if j<l.length then zi0 (stk l j) else 0)=upL l:=by
   unfold upL mkR;exact List.map_congr_left fun j hj=>by rw [if_pos (by simpa using hj)]
  have hdo:mkR l.length (fun j=>if j<l.length then ((docF l (j+1):Nat):Int) else 0)=zrr l:=by
   unfold zrr mkR;exact List.map_congr_left fun j hj=>by rw [if_pos (by simpa using hj)]
  rw [hup,hdo]
  exact ⟨[1,2,3],by decide,by simp only [Yd];exact ⟨zb fun _=>rfl,zb fun _=>rfl,zb fun _=>rfl⟩,by simp only [↓XC,XV,XT,Yg,seval,TES];try simp [Yf],by simp [zy,SO.ro],by simp⟩
theorem nestOf (l:List Ev) (hp:l.length≤1048576∧qa l=true):PF Tryz.prog 74 [.fs 8 (l.map evc)] (.agg [.fs 8 (l.map evc),.fs 1 ((zk5 l).map ks),.fs 1 ((upL l).map ks),.fs 1 ((zrr l).map ks)]):=PF.ofOwn (zvy l hp) rfl rfl (by have e1:(zk5 l).length=l.length:=xz;have e2:(upL l).length=l.length:=xz;have e3:(zrr l).length=l.length:=xz;simp only [xr,jm,zdj,ve,yh,yi,and_true,true_and];exact ⟨⟨⟨by omega,fun j hj=>⟨rfl,rfl⟩⟩,⟨by omega,fun j hj=>⟨rfl,rfl⟩⟩,⟨by omega,fun j hj=>⟨rfl,rfl⟩⟩⟩,by rw [kl e1.symm,kl e2.symm,kl e3.symm]⟩)
noncomputable def zdu:PE:=peR (fun (l:List Ev)=>[.fs 8 (l.map evc)]) (fun (l:List Ev)=>l.length≤1048576∧qa l=true) (fun (l:List Ev)=>.agg [.fs 8 (l.map evc),.fs 1 ((zk5 l).map ks),.fs 1 ((upL l).map ks),.fs 1 ((zrr l).map ks)])
theorem zof {l:List Ev}:zdu [.fs 8 (l.map evc)]=some (l.length≤1048576∧qa l=true,.agg [.fs 8 (l.map evc),.fs 1 ((zk5 l).map ks),.fs 1 ((upL l).map ks),.fs 1 ((zrr l).map ks)]):=yb (by rintro a b h;simp_all [u3]) l
theorem zoe:PE1 Tryz.prog 74 zdu:=yf (by rintro l hp;exact nestOf l hp)
end Go.T
end
section
set_option linter.unusedVariables false
set_option linter.unusedSimpArgs false
set_option linter.unusedSectionVars false
set_option linter.unnecessarySimpa false
namespace Go.T
variable [Go.Vg.Glob]
open Go.Proofs Go.Vg Go.RowKit Go.TT Go.Pl
set_option maxRecDepth 10000
set_option maxHeartbeats 4000000
end Go.T
end
section
set_option linter.unusedVariables false
set_option linter.unusedSimpArgs false
set_option linter.unusedSectionVars false
set_option linter.unnecessarySimpa false
namespace Go.T
variable [Go.Vg.Glob]
open Go.Proofs Go.Vg Go.RowKit Go.TT Go.Pl
set_option maxRecDepth 10000
set_option maxHeartbeats 4000000
end Go.T
end
section
set_option linter.unusedVariables false
set_option linter.unusedSimpArgs false
set_option linter.unusedSectionVars false
set_option linter.unnecessarySimpa false
namespace Go.T
variable [Go.Vg.Glob]
open Go.Proofs Go.Vg Go.RowKit Go.TT Go.Pl
set_option maxRecDepth 10000
set_option maxHeartbeats 4000000
theorem zmr (l:List Ev) (hp:l.length≤1048576∧qa l=true):FnK Tryz.prog 152 0 [.agg [.fs 8 (l.map evc),.fs 1 ((zk5 l).map ks),.fs 1 ((upL l).map ks),.fs 1 ((zrr l).map ks)]] [] (fun z c=>z=.slc 0 0 l.length∧c=[some (.row false 1 l.length (zh ks 0 (mkR l.length (zje l))))]):=by
 refine FnK.ofE (cf:=zk Tryz.prog te [] 73 0 false (fun _=>false) (kp [(0,[1]),(1,[1,3]),(2,[1,3,4]),(3,[1,3,4,15,16,17]),(4,[1,3,4,15,16,17,18]),(5,[1,3,4,5,6,15,16,17]),(6,[1,3,4,5,6,15,16,17]),(7,[1,3,4,5,6,15,16,17,25]),(8,[1,3,4,15,16,17]),(9,[1,3,4,5,6,15,16,17,30]),(10,[1,3,4,5,7,8,15,16,17]),(11,[1,3,4,5,7,15,16,17,58]),(12,[1,3,4,15,16,17]),(13,[1,3,4,5,6,15,16,17,63]),(14,[1,3,4,15,16,17]),(15,[1,3,4,15,16,17]),(16,[2])]) [] []) (zf te_ok (l:=[]) (trivial) zc) Tryz.func152 rfl rfl rfl (by simp [zk]) (by simp [zk]) (rs:=[.tmp 2]) rfl 100000 ?_
 simp only [↓XC,XV,XT,Yg,seval,TES,XRE,XR,w9,uf]
 refine Chk.mk (by omega) fun _=>?_
 refine yq.of (ι:={x:Nat×List (List UInt8×Int) // x.1≤l.length∧zre l x.1 x.2}) (fun x=>⟨[(1,.ptr 0 0 0),(3,.slc 1 0 l.length),(4,.mp 2),(15,.fs 8 (l.map evc)),(16,.i .i64 (l.length:Nat)),(17,.i .i64 (x.1.1:Nat))],[some (.blk false [.fs 8 (l.map evc),.fs 1 ((zk5 l).map ks),.fs 1 ((upL l).map ks),.fs 1 ((zrr l).map ks)]),some (.row false 1 l.length (zh ks 0 (mkR l.length fun j=>if j<x.1.1 then zje l j else 0))),some (.mapS x.1.2)]⟩) (fun x=>l.length-x.1.1) ⟨(0,[]),Nat.zero_le _,zv1⟩ (Ent.ren1 [0,1,2] (by decide) (by simp only [Yd];exact ⟨za rfl,zg fun j hj=>by simp only [zh,zo hj,Nat.not_lt_zero,if_false]<;>rfl,zj⟩) (by simp [zi,Vg.look,SV.mapH,muL])) ?_
 rintro ⟨⟨i,m⟩,hi,hm⟩
 simp only [↓XC,XV,XT,Yg,seval,TES,XRE,XR,w9,uf]
 simp only at hi hm
 have hel:(zk5 l).length=l.length:=xz
 have hlt:=zmw (l:=l) (t:=(l.getD i evz).text) i
 have hlk:=hm (l.getD i evz).text
 refine ⟨fun hil=>Chk.mk (by omega) fun _=>Chk.mk (by omega) fun _=>Chk.mk (by omega) fun _=>⟨fun h2=>?_,fun h2=>⟨fun h6=>?_,fun h6=>⟨fun ha=>?_,fun ha=>?_⟩⟩⟩,fun hil=>?_⟩
 ·have hd:=zrt (l:=l) (i:=i) (by omega)
  exact Chk.mk (by simp only [inR];omega) fun _=>⟨⟨(i+1,[]),by simp only;omega,zzp h2⟩,by simp only;omega,by simp only [Int.natCast_add,Int.natCast_one];exact (Ent.ren1 [0,1,4] (by decide) (by simp only [Yd];exact ⟨za rfl,wi fun j hj=>rowD hd j hj,zj⟩) (by simp [zi,Vg.look,SV.mapH,muL]))⟩
 ·have hsame:=zkm hm h2 (.inl h6)
  rw [hlk]
  have hdd:zje l i=if 0≤q6 l (l.getD i evz).text i∧0≤(zk5 l).getD (q6 l (l.getD i evz).text i).toNat 0∧(zk5 l).getD (q6 l (l.getD i evz).text i).toNat 0<i then q6 l (l.getD i evz).text i else -1:=by unfold zje;rw [if_pos h6]
  generalize q6 l (l.getD i evz).text i=a at *
  by_cases ha0:a<0
  ·rw [if_pos ha0]
   rw [if_neg (by omega)] at hdd
   refine Chk.mk (fun h=>by cases h) fun _=>Chk.mk (fun h=>by simp at h) fun _=>⟨fun h=>by simp at h,fun _=>?_⟩
   exact Chk.mk (by simp only [inR];omega) fun _=>⟨⟨(i+1,m),by simp only;omega,hsame⟩,by simp only;omega,by simp only [Int.natCast_add,Int.natCast_one];exact (Ent.ren1 [0,1,2] (by decide) (by simp only [Yd];exact ⟨za rfl,wi fun j hj=>rowD hdd.symm j hj,zj⟩) (by simp [zi,Vg.look,SV.mapH,muL]))⟩
  ·rw [if_neg ha0]
   simp only [Option.isSome_some,Option.getD_some,Bool.true_and]
   refine Chk.mk (fun h=>by omega) fun _=>Chk.mk (fun h=>by omega) fun _=>⟨fun h=>?_,fun h=>?_⟩
   ·simp only [Yi] at h
    rw [if_pos (by omega)] at hdd
    refine Chk.mk (by omega) fun _=>Chk.mk (by omega) fun _=>?_
    exact Chk.mk (by simp only [inR];omega) fun _=>⟨⟨(i+1,m),by simp only;omega,hsame⟩,by simp only;omega,by simp only [Int.natCast_add,Int.natCast_one];exact (Ent.ren1 [0,1,2] (by decide) (by simp only [Yd];exact ⟨za rfl,wi fun j hj=>rowD2 hdd.symm j hj,zj⟩) (by simp [zi,Vg.look,SV.mapH,muL]))⟩
   ·simp only [Yi] at h
    rw [if_neg (by omega)] at hdd
    exact Chk.mk (by simp only [inR];omega) fun _=>⟨⟨(i+1,m),by simp only;omega,hsame⟩,by simp only;omega,by simp only [Int.natCast_add,Int.natCast_one];exact (Ent.ren1 [0,1,2] (by decide) (by simp only [Yd];exact ⟨za rfl,wi fun j hj=>rowD hdd.symm j hj,zj⟩) (by simp [zi,Vg.look,SV.mapH,muL]))⟩
 ·have hd:=zrt (l:=l) (i:=i) h6
  exact Chk.mk (by simp only [inR];omega) fun _=>⟨⟨(i+1,u4 m (l.getD i evz).anchor i),by simp only;omega,zzo hm h2 h6 (by simpa using ha)⟩,by simp only;omega,by simp only [Int.natCast_add,Int.natCast_one];exact (Ent.ren1 [0,1,2] (by decide) (by simp only [Yd];exact ⟨za rfl,wi fun j hj=>rowD hd j hj,zj⟩) (by simp [zi,Vg.look,SV.mapH,muL]))⟩
 ·have hd:=zrt (l:=l) (i:=i) h6
  have ha2:(l.getD i evz).anchor=[]:=by simpa using ha
  exact Chk.mk (by simp only [inR];omega) fun _=>⟨⟨(i+1,m),by simp only;omega,zkm hm h2 (.inr ha2)⟩,by simp only;omega,by simp only [Int.natCast_add,Int.natCast_one];exact (Ent.ren1 [0,1,2] (by decide) (by simp only [Yd];exact ⟨za rfl,wi fun j hj=>rowD hd j hj,zj⟩) (by simp [zi,Vg.look,SV.mapH,muL]))⟩
 ·obtain rfl:i=l.length:=by omega
  rw [mkR_done]
  exact ⟨[1],by decide,by simp only [Yd];exact zb fun _=>rfl,by simp only [↓XC,XV,XT,Yg,seval];try simp [Yf],by simp [zy,SO.ro],by simp⟩
theorem zzg (l:List Ev) (hp:l.length≤1048576∧qa l=true):PF Tryz.prog 152 [.agg [.fs 8 (l.map evc),.fs 1 ((zk5 l).map ks),.fs 1 ((upL l).map ks),.fs 1 ((zrr l).map ks)]] (.fs 1 ((mkR l.length (zje l)).map ks)):=PF.ofOwn (zmr l hp) rfl rfl (by simp only [xr,jm,zdj,ve,yh,and_true];exact ⟨⟨by omega,fun j hj=>⟨rfl,rfl⟩⟩,by rw [kl xz.symm]⟩)
noncomputable def ut:PE:=peR (fun (l:List Ev)=>[.agg [.fs 8 (l.map evc),.fs 1 ((zk5 l).map ks),.fs 1 ((upL l).map ks),.fs 1 ((zrr l).map ks)]]) (fun (l:List Ev)=>l.length≤1048576∧qa l=true) (fun (l:List Ev)=>.fs 1 ((mkR l.length (zje l)).map ks))
theorem zhe {l:List Ev}:ut [.agg [.fs 8 (l.map evc),.fs 1 ((zk5 l).map ks),.fs 1 ((upL l).map ks),.fs 1 ((zrr l).map ks)]]=some (l.length≤1048576∧qa l=true,.fs 1 ((mkR l.length (zje l)).map ks)):=yb (by rintro a b h;simp_all [u3,zt6]) l
theorem zhd:PE1 Tryz.prog 152 ut:=yf (by rintro l hp;exact zzg l hp)
theorem zzf (l:List Ev) (hp:l.length≤1048576∧qa l=true):PF Tryz.prog 75 [.agg [.fs 8 (l.map evc),.fs 1 ((zk5 l).map ks),.fs 1 ((upL l).map ks),.fs 1 ((zrr l).map ks)]] (.b (uq l l.length)):=by
 refine ⟨rfl,rfl,FnK.of (cf:=zk Tryz.prog te [(152,ut)] 27 0 false (fun _=>false) (kp [(0,[1]),(1,[1,3]),(2,[3,9,10,11]),(3,[3,9,10,11,12]),(4,[3,4,5,9,10,11]),(5,[3,9,10,11,25]),(6,[2]),(7,[3,9,10,11]),(8,[2])]) [] []) (zf te_ok (l:=[(152,ut)]) (⟨zhd,trivial⟩) zc) Tryz.func75 rfl rfl rfl (by simp [zk]) (by simp [zk]) (rs:=[.tmp 2]) rfl 100000 ?_⟩
 simp only [↓XC,XV,XT,Yg,seval,TES,zhe,XRE,XR,w9,uf]
 refine Chk.mk hp fun _=>?_
 refine yq.of (ι:={i:Nat // i≤l.length∧uq l i=true}) (fun x=>⟨[(3,.fs 1 ((mkR l.length (zje l)).map ks)),(9,.fs 8 (l.map evc)),(10,.i .i64 (l.length:Nat)),(11,.i .i64 (x.1:Nat))],[]⟩) (fun x=>l.length-x.1) ⟨0,Nat.zero_le _,rfl⟩ (by (try simp only [Int.natCast_add,Int.natCast_one]);exact Ent.nil (by simp [zi,Vg.look,SV.mapH])) ?_
 rintro ⟨i,hi,hf⟩
 simp only [↓XC,XV,XT,Yg,seval,TES,XRE,XR,w9,uf]
 refine ⟨fun hl=>Chk.mk (by omega) fun _=>Chk.mk (fun _=>by rw [xz];omega) fun _=>?_,fun hl=>?_⟩
 ·rw [zo (by omega)]
  by_cases h6:(l.getD i evz).kind=6
  ·rw [defD_eq hp.2 (by omega) h6]
   refine ⟨fun hb=>?_,fun hb=>?_⟩
   ·simp only [decide_eq_true h6,Bool.true_and,decide_eq_true_eq] at hb
    rw [zj1 h6 hb l.length (by omega)]
   ·have hs:uq l (i+1)=true:=by simp only [uq,hf,hb];rfl
    exact Chk.mk (by simp only [inR];omega) fun _=>⟨⟨i+1,by omega,hs⟩,by simp only;omega,(by (try simp only [Int.natCast_add,Int.natCast_one]);exact Ent.nil (by simp [zi,Vg.look,SV.mapH]))⟩
  ·refine ⟨fun hb=>(by simp only [decide_eq_false h6,Bool.false_and] at hb;cases hb),fun hb=>?_⟩
   have hs:uq l (i+1)=true:=by simp only [uq,hf,decide_eq_false h6];rfl
   exact Chk.mk (by simp only [inR];omega) fun _=>⟨⟨i+1,by omega,hs⟩,by simp only;omega,(by (try simp only [Int.natCast_add,Int.natCast_one]);exact Ent.nil (by simp [zi,Vg.look,SV.mapH]))⟩
 ·obtain rfl:i=l.length:=by omega
  rw [hf]
noncomputable def ur:PE:=peR (fun (l:List Ev)=>[.agg [.fs 8 (l.map evc),.fs 1 ((zk5 l).map ks),.fs 1 ((upL l).map ks),.fs 1 ((zrr l).map ks)]]) (fun (l:List Ev)=>l.length≤1048576∧qa l=true) (fun (l:List Ev)=>.b (uq l l.length))
theorem zhc {l:List Ev}:ur [.agg [.fs 8 (l.map evc),.fs 1 ((zk5 l).map ks),.fs 1 ((upL l).map ks),.fs 1 ((zrr l).map ks)]]=some (l.length≤1048576∧qa l=true,.b (uq l l.length)):=yb (by rintro a b h;simp_all [u3,zt6]) l
theorem zhb:PE1 Tryz.prog 75 ur:=yf (by rintro l hp;exact zzf l hp)
theorem Tied_i (l:List Ev) (hp:l.length≤1048576):PF Tryz.prog 18 [.fs 8 (l.map evc)] (.b (zi2 l)):=by
 refine ⟨rfl,rfl,FnK.of (cf:=zk Tryz.prog te [(17,vn),(74,zdu),(75,ur)] 10 0 false (fun _=>false) (kp [(0,[0]),(1,[2])]) [] []) (zf te_ok (l:=[(17,vn),(74,zdu),(75,ur)]) (⟨zcy,zoe,zhb,trivial⟩) zc) Tryz.func18 rfl rfl rfl (by simp [zk]) (by simp [zk]) (rs:=[.tmp 2]) rfl 100000 ?_⟩
 simp only [↓XC,XV,XT,Yg,seval,TES,u0,zof,zhc,XRE,XR,w9,uf]
 exact Chk.mk hp fun _=>Chk.mk (fun h=>⟨h,hp,h⟩) fun _=>Chk.mk (fun h=>⟨h,hp,h⟩) fun _=>rfl
noncomputable def zaf:PE:=peR (fun (l:List Ev)=>[.fs 8 (l.map evc)]) (fun (l:List Ev)=>l.length≤1048576) (fun (l:List Ev)=>.b (zi2 l))
theorem zbr {l:List Ev}:zaf [.fs 8 (l.map evc)]=some (l.length≤1048576,.b (zi2 l)):=yb (by rintro a b h;simp_all [u3]) l
theorem zf0:PE1 Tryz.prog 18 zaf:=yf (by rintro l hp;exact Tied_i l hp)
theorem isFault (k st:Int) (fl:Bool) (x a g:Bs) (p c:Int):PF Tryz.prog 154 [.agg [.i .i64 k,.i .i64 st,.b fl,.s x,.s a,.s g,.i .i64 p,.i .i64 c]] (.b (decide (k=10))):=by
 refine ⟨rfl,rfl,FnK.of (cf:=zk Tryz.prog te [] 6 0 false (fun _=>false) (kp [(0,[1]),(1,[2])]) [] []) (zf te_ok (l:=[]) (trivial) zc) Tryz.func154 rfl rfl rfl (by simp [zk]) (by simp [zk]) (rs:=[.tmp 2]) rfl 100000 ?_⟩
 simp only [↓XC,XV,XT,Yg,seval,TES,XRE,XR,w9,uf]
noncomputable def xy:PE:=peR (fun (x:Int×Int×Bool×Bs×Bs×Bs×Int×Int)=>match x with | (k,st,fl,x,a,g,p,c)=>[.agg [.i .i64 k,.i .i64 st,.b fl,.s x,.s a,.s g,.i .i64 p,.i .i64 c]]) (fun (x:Int×Int×Bool×Bs×Bs×Bs×Int×Int)=>match x with | (k,st,fl,x,a,g,p,c)=>True) (fun (x:Int×Int×Bool×Bs×Bs×Bs×Int×Int)=>match x with | (k,st,fl,x,a,g,p,c)=>.b (decide (k=10)))
theorem zar {k st:Int} {fl:Bool} {x a g:Bs} {p c:Int}:xy [.agg [.i .i64 k,.i .i64 st,.b fl,.s x,.s a,.s g,.i .i64 p,.i .i64 c]]=some (True,.b (decide (k=10))):=yb (by rintro ⟨a0,a1,a2,a3,a4,a5,a6,a7⟩ ⟨b0,b1,b2,b3,b4,b5,b6,b7⟩ h;simp_all []) (k,st,fl,x,a,g,p,c)
theorem zdz:PE1 Tryz.prog 154 xy:=yf (by rintro ⟨k,st,fl,x,a,g,p,c⟩ hp;exact isFault k st fl x a g p c)
theorem idxF (l:List Ev) (hp:l.length≤1048576):PF Tryz.prog 217 [.fs 8 (l.map evc),.fn 154] (.i .i64 (zwu l 0)):=by
 refine ⟨rfl,rfl,FnK.of (cf:=zk Tryz.prog te [(154,xy)] 19 0 false (fun _=>false) (kp [(0,[0,1]),(1,[0,1,7,8]),(2,[0,1,7,8,9]),(3,[0,1,5,7,8]),(4,[0,1,5,7,8,16]),(5,[4]),(6,[0,1,7,8]),(7,[4])]) [] []) (zf te_ok (l:=[(154,xy)]) (⟨zdz,trivial⟩) zc) Tryz.func217 rfl rfl rfl (by simp [zk]) (by simp [zk]) (rs:=[.tmp 4]) rfl 100000 ?_⟩
 simp only [↓XC,XV,XT,Yg,seval,TES,zar,XRE,XR,w9,uf]
 refine yq.of (ι:={i:Nat // i≤l.length∧zwu l i=zwu l 0}) (fun x=>⟨[(0,.fs 8 (l.map evc)),(1,.fn 154),(7,.i .i64 (l.length:Nat)),(8,.i .i64 (x.1:Nat))],[]⟩) (fun x=>l.length-x.1) ⟨0,Nat.zero_le _,rfl⟩ (Ent.refl _ _) ?_
 rintro ⟨i,hi,hf⟩
 simp only [↓XC,XV,XT,Yg,seval,TES,zar,XRE,XR,w9,uf]
 refine ⟨fun hl=>?_,fun hl=>by rw [←hf,z0a (by omega)]⟩
 rw [zuc (by omega)] at hf
 refine Chk.mk (by omega) fun _=>⟨fun h=>?_,fun h=>?_⟩
 ·rw [if_pos h] at hf
  rw [←hf]
 ·rw [if_neg h] at hf
  exact Chk.mk (by simp only [inR];omega) fun _=>⟨⟨i+1,by omega,hf⟩,by simp only;omega,(by first | exact Ent.refl _ _ | (simp only [Int.natCast_add,Int.natCast_one];exact Ent.refl _ _))⟩
noncomputable def zl7:PE:=peR (fun (l:List Ev)=>[.fs 8 (l.map evc),.fn 154]) (fun (l:List Ev)=>l.length≤1048576) (fun (l:List Ev)=>.i .i64 (zwu l 0))
theorem zvo {l:List Ev}:zl7 [.fs 8 (l.map evc),.fn 154]=some (l.length≤1048576,.i .i64 (zwu l 0)):=yb (by rintro a b h;simp_all [u3]) l
theorem zvn:PE1 Tryz.prog 217 zl7:=yf (by rintro l hp;exact idxF l hp)
theorem hasE (l:List Ev) (hp:l.length≤1048576):PF Tryz.prog 153 [.fs 8 (l.map evc),.fn 154] (.b (zrk l)):=by
 refine ⟨rfl,rfl,FnK.of (cf:=zk Tryz.prog te [(217,zl7)] 9 0 false (fun _=>false) (kp [(0,[0,1]),(1,[4])]) [] []) (zf te_ok (l:=[(217,zl7)]) (⟨zvn,trivial⟩) zc) Tryz.func153 rfl rfl rfl (by simp [zk]) (by simp [zk]) (rs:=[.tmp 4]) rfl 100000 ?_⟩
 simp only [↓XC,XV,XT,Yg,seval,TES,zvo,XRE,XR,w9,uf]
 refine Chk.mk hp fun _=>?_
 have:=zud (l:=l) _ 0 (Nat.le_refl _)
 rw [List.drop_zero] at this
 unfold zrk
 rw [←this]
noncomputable def zl8:PE:=peR (fun (l:List Ev)=>[.fs 8 (l.map evc),.fn 154]) (fun (l:List Ev)=>l.length≤1048576) (fun (l:List Ev)=>.b (zrk l))
theorem zvq {l:List Ev}:zl8 [.fs 8 (l.map evc),.fn 154]=some (l.length≤1048576,.b (zrk l)):=yb (by rintro a b h;simp_all [u3]) l
theorem zvp:PE1 Tryz.prog 153 zl8:=yf (by rintro l hp;exact hasE l hp)
theorem hasFault (l:List Ev) (hp:l.length≤1048576):PF Tryz.prog 76 [.fs 8 (l.map evc)] (.b (zrk l)):=by
 refine ⟨rfl,rfl,FnK.of (cf:=zk Tryz.prog te [(153,zl8),(154,xy)] 5 0 false (fun _=>false) (kp [(0,[0]),(1,[2])]) [] []) (zf te_ok (l:=[(153,zl8),(154,xy)]) (⟨zvp,zdz,trivial⟩) zc) Tryz.func76 rfl rfl rfl (by simp [zk]) (by simp [zk]) (rs:=[.tmp 2]) rfl 100000 ?_⟩
 simp only [↓XC,XV,XT,Yg,seval,TES,zvq,zar,XRE,XR,w9,uf]
 exact Chk.mk hp fun _=>trivial
noncomputable def zat:PE:=peR (fun (l:List Ev)=>[.fs 8 (l.map evc)]) (fun (l:List Ev)=>l.length≤1048576) (fun (l:List Ev)=>.b (zrk l))
theorem zi9 {l:List Ev}:zat [.fs 8 (l.map evc)]=some (l.length≤1048576,.b (zrk l)):=yb (by rintro a b h;simp_all [u3]) l
theorem zi8:PE1 Tryz.prog 76 zat:=yf (by rintro l hp;exact hasFault l hp)
theorem Whole_i (l:List Ev) (hp:l.length≤1048576):PF Tryz.prog 19 [.fs 8 (l.map evc)] (.b (zi2 l&&!zrk l)):=by
 refine ⟨rfl,rfl,FnK.of (cf:=zk Tryz.prog te [(18,zaf),(76,zat)] 10 0 false (fun _=>false) (kp [(0,[0]),(1,[2])]) [] []) (zf te_ok (l:=[(18,zaf),(76,zat)]) (⟨zf0,zi8,trivial⟩) zc) Tryz.func19 rfl rfl rfl (by simp [zk]) (by simp [zk]) (rs:=[.tmp 2]) rfl 100000 ?_⟩
 simp only [↓XC,XV,XT,Yg,seval,TES,zbr,zi9,XRE,XR,w9,uf]
 exact Chk.mk hp fun _=>Chk.mk (fun h=>⟨h,hp⟩) fun _=>trivial
noncomputable def zci:PE:=peR (fun (l:List Ev)=>[.fs 8 (l.map evc)]) (fun (l:List Ev)=>l.length≤1048576) (fun (l:List Ev)=>.b (zi2 l&&!zrk l))
theorem zd0 {l:List Ev}:zci [.fs 8 (l.map evc)]=some (l.length≤1048576,.b (zi2 l&&!zrk l)):=yb (by rintro a b h;simp_all [u3]) l
theorem zmf:PE1 Tryz.prog 19 zci:=yf (by rintro l hp;exact Whole_i l hp)
end Go.T
end
