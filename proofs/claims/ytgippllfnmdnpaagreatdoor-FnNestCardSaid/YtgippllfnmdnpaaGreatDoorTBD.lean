/- Own text: part TBD. -/
import Derived.Test.YtgippllfnmdnpaaGreatDoorTBC
section
set_option linter.unusedVariables false
set_option linter.unusedSimpArgs false
set_option linter.unusedSectionVars false
set_option linter.unnecessarySimpa false
namespace Go.T
variable [Go.Vg.Glob]
open Go.Proofs Go.Vg Go.RowKit Go.TT Go.Pl
set_option maxRecDepth 10000
set_option maxHeartbeats 4000000
theorem isColl_i (k st:Int) (fl:Bool) (x a g:Bs) (p c:Int):PF Tryz.prog 151 [.agg [.i .i64 k,.i .i64 st,.b fl,.s x,.s a,.s g,.i .i64 p,.i .i64 c]] (.b (Pl.isColl k)):=by
 refine ⟨rfl,rfl,FnK.of (cf:=zk Tryz.prog te [] 11 0 false (fun _=>false) (kp [(0,[1]),(1,[2])]) [] []) (zf te_ok (l:=[]) (trivial) zc) Tryz.func151 rfl rfl rfl (by simp [zk]) (by simp [zk]) (rs:=[.tmp 2]) rfl 100000 ?_⟩
 simp only [↓XC,XV,XT,Yg,seval,TES]
 repeat' (first | with_reducible refine Chk.mk ?_ fun _=>?_ | with_reducible refine And.intro ?_ ?_ | intro _)
 all_goals first | (exfalso;omega) | simp_all [isColl]
noncomputable def k8:PE:=peR (fun (x:Int×Int×Bool×Bs×Bs×Bs×Int×Int)=>match x with | (k,st,fl,x,a,g,p,c)=>[.agg [.i .i64 k,.i .i64 st,.b fl,.s x,.s a,.s g,.i .i64 p,.i .i64 c]]) (fun (x:Int×Int×Bool×Bs×Bs×Bs×Int×Int)=>match x with | (k,st,fl,x,a,g,p,c)=>True) (fun (x:Int×Int×Bool×Bs×Bs×Bs×Int×Int)=>match x with | (k,st,fl,x,a,g,p,c)=>.b (Pl.isColl k))
theorem v8 {k st:Int} {fl:Bool} {x a g:Bs} {p c:Int}:k8 [.agg [.i .i64 k,.i .i64 st,.b fl,.s x,.s a,.s g,.i .i64 p,.i .i64 c]]=some (True,.b (Pl.isColl k)):=yh (by rintro ⟨a0,a1,a2,a3,a4,a5,a6,a7⟩ ⟨b0,b1,b2,b3,b4,b5,b6,b7⟩ h;simp_all []) (k,st,fl,x,a,g,p,c)
theorem zac:PE1 Tryz.prog 151 k8:=yl (by rintro ⟨k,st,fl,x,a,g,p,c⟩ hp;exact isColl_i k st fl x a g p c)
theorem isNode_i (k st:Int) (fl:Bool) (x a g:Bs) (p c:Int):PF Tryz.prog 129 [.agg [.i .i64 k,.i .i64 st,.b fl,.s x,.s a,.s g,.i .i64 p,.i .i64 c]] (.b (Pl.isNode k)):=by
 refine ⟨rfl,rfl,FnK.of (cf:=zk Tryz.prog te [(151,k8)] 15 0 false (fun _=>false) (kp [(0,[1]),(1,[2])]) [] []) (zf te_ok (l:=[(151,k8)]) (⟨zac,trivial⟩) zc) Tryz.func129 rfl rfl rfl (by simp [zk]) (by simp [zk]) (rs:=[.tmp 2]) rfl 100000 ?_⟩
 simp only [↓XC,XV,XT,Yg,seval,TES,v8]
 repeat' (first | with_reducible refine Chk.mk ?_ fun _=>?_ | with_reducible refine And.intro ?_ ?_ | intro _)
 all_goals first | (exfalso;omega) | simp_all [isColl,Pl.isNode]
noncomputable def kz:PE:=peR (fun (x:Int×Int×Bool×Bs×Bs×Bs×Int×Int)=>match x with | (k,st,fl,x,a,g,p,c)=>[.agg [.i .i64 k,.i .i64 st,.b fl,.s x,.s a,.s g,.i .i64 p,.i .i64 c]]) (fun (x:Int×Int×Bool×Bs×Bs×Bs×Int×Int)=>match x with | (k,st,fl,x,a,g,p,c)=>True) (fun (x:Int×Int×Bool×Bs×Bs×Bs×Int×Int)=>match x with | (k,st,fl,x,a,g,p,c)=>.b (Pl.isNode k))
theorem ks {k st:Int} {fl:Bool} {x a g:Bs} {p c:Int}:kz [.agg [.i .i64 k,.i .i64 st,.b fl,.s x,.s a,.s g,.i .i64 p,.i .i64 c]]=some (True,.b (Pl.isNode k)):=yh (by rintro ⟨a0,a1,a2,a3,a4,a5,a6,a7⟩ ⟨b0,b1,b2,b3,b4,b5,b6,b7⟩ h;simp_all []) (k,st,fl,x,a,g,p,c)
theorem zab:PE1 Tryz.prog 129 kz:=yl (by rintro ⟨k,st,fl,x,a,g,p,c⟩ hp;exact isNode_i k st fl x a g p c)
theorem zu7 (l:List Ev) (hp:l.length≤1048576∧yf l=true):FnK Tryz.prog 74 0 [.fs 8 (l.map evc)] [] (fun z c=>z=.agg [.fs 8 (l.map evc),.slc 0 0 l.length,.slc 1 0 l.length,.slc 2 0 l.length]∧c=[some (.row false 1 l.length (zg wd 0 (zvg l))),some (.row false 1 l.length (zg wd 0 (upL l))),some (.row false 1 l.length (zg wd 0 (zzs l)))]):=by
 refine FnK.ofE (cf:=zk Tryz.prog te [(151,k8),(129,kz)] 94 0 false (fun _=>false) (kp [(0,[0,2]),(1,[0,2,3]),(2,[0,2,3,4]),(3,[0,2,3,4,5]),(4,[2,3,4,5,21,22,23]),(5,[2,3,4,5,21,22,23,24]),(6,[2,3,4,5,6,7,21,22,23]),(7,[2,3,4,5,6,7,21,22,23]),(8,[2,3,4,5,6,7,8,21,22,23]),(9,[2,3,4,5,6,7,8,21,22,23,35]),(10,[2,3,4,5,6,7,21,22,23]),(11,[2,3,4,5,6,7,21,22,23,47]),(12,[2,3,4,5,6,7,21,22,23]),(13,[2,3,4,5,6,7,21,22,23]),(14,[2,3,4,5,6,7,21,22,23]),(15,[2,3,4,5,6,7,21,22,23,58]),(16,[2,3,4,5,21,22,23]),(17,[2,3,4,5,6,7,21,22,23,65]),(18,[2,3,4,5,21,22,23]),(19,[2,3,4,5,21,22,23]),(20,[2,3,4,5,6,21,22,23,84]),(21,[2,3,4,5,21,22,23]),(22,[2,3,4,5,21,22,23]),(23,[2])]) [2] [(1,[],[],.q1 0 (.q1 1 (.q1 2 (.q1 4 (.q1 5 (.q1 7 (.q1 8 (.alt 3 (.alt 6 (.alt 9 (.q1 10 (.alt 11 (.alt 12 (.fin) (.fin)) (.fin))) (.alt 11 (.alt 9 (.q1 10 (.alt 12 (.fin) (.fin))) (.fin)) (.fin))) (.alt 9 (.alt 6 (.q1 10 (.alt 11 (.alt 12 (.fin) (.fin)) (.fin))) (.alt 11 (.alt 6 (.q1 10 (.alt 12 (.fin) (.fin))) (.fin)) (.fin))) (.alt 11 (.alt 6 (.alt 9 (.q1 10 (.alt 12 (.fin) (.fin))) (.fin)) (.alt 9 (.alt 6 (.q1 10 (.alt 12 (.fin) (.fin))) (.fin)) (.fin))) (.fin)))) (.alt 6 (.alt 3 (.alt 9 (.q1 10 (.alt 11 (.alt 12 (.fin) (.fin)) (.fin))) (.alt 11 (.alt 9 (.q1 10 (.alt 12 (.fin) (.fin))) (.fin)) (.fin))) (.alt 9 (.alt 3 (.q1 10 (.alt 11 (.alt 12 (.fin) (.fin)) (.fin))) (.alt 11 (.alt 3 (.q1 10 (.alt 12 (.fin) (.fin))) (.fin)) (.fin))) (.alt 11 (.alt 3 (.alt 9 (.q1 10 (.alt 12 (.fin) (.fin))) (.fin)) (.alt 9 (.alt 3 (.q1 10 (.alt 12 (.fin) (.fin))) (.fin)) (.fin))) (.fin)))) (.alt 9 (.alt 3 (.alt 6 (.q1 10 (.alt 11 (.alt 12 (.fin) (.fin)) (.fin))) (.alt 11 (.alt 6 (.q1 10 (.alt 12 (.fin) (.fin))) (.fin)) (.fin))) (.alt 6 (.alt 3 (.q1 10 (.alt 11 (.alt 12 (.fin) (.fin)) (.fin))) (.alt 11 (.alt 3 (.q1 10 (.alt 12 (.fin) (.fin))) (.fin)) (.fin))) (.alt 11 (.alt 3 (.alt 6 (.q1 10 (.alt 12 (.fin) (.fin))) (.fin)) (.alt 6 (.alt 3 (.q1 10 (.alt 12 (.fin) (.fin))) (.fin)) (.fin))) (.fin)))) (.alt 11 (.alt 3 (.alt 6 (.alt 9 (.q1 10 (.alt 12 (.fin) (.fin))) (.fin)) (.alt 9 (.alt 6 (.q1 10 (.alt 12 (.fin) (.fin))) (.fin)) (.fin))) (.alt 6 (.alt 3 (.alt 9 (.q1 10 (.alt 12 (.fin) (.fin))) (.fin)) (.alt 9 (.alt 3 (.q1 10 (.alt 12 (.fin) (.fin))) (.fin)) (.fin))) (.alt 9 (.alt 3 (.alt 6 (.q1 10 (.alt 12 (.fin) (.fin))) (.fin)) (.alt 6 (.alt 3 (.q1 10 (.alt 12 (.fin) (.fin))) (.fin)) (.fin))) (.fin)))) (.fin)))))))))))),(10,[9],[2],.q1 0 (.q1 2 (.q1 3 (.q1 4 (.q1 5 (.q0 6 [6,7,8,9] (.q0 1 [1,8,9] (.q0 7 [7,8,9] (.q0 8 [8,9] (.sw (.alt 9 (.fin) (.fin)))))))))))),(18,[10],[1],.q1 0 (.q1 2 (.q1 3 (.q1 4 (.q1 5 (.q0 6 [6,7,9,10] (.q1 8 (.q0 1 [1,9,10] (.q0 7 [7,9,10] (.q0 9 [9,10] (.sw (.alt 10 (.fin) (.fin)))))))))))))]) (zf te_ok (l:=[(151,k8),(129,kz)]) (⟨zac,zab,trivial⟩) zc) Tryz.func74 rfl rfl rfl (by simp [zk]) (by simp [zk]) (rs:=[.cell 2 89]) rfl 100000 ?_
 simp only [↓XC,XV,XT,Yg,seval,TES,v8,ks,XRE,yo]
 refine zgl.of (ι:=Unit) (fun _=>(⟨[(0,.fs 8 (l.map evc)),(2,.ptr 0 0 0),(3,.ptr 4 0 0)],[some (.blk false [.nils,.nils,.nils,.nils]),some (.row false 1 l.length (zg wd 0 (mkR l.length (endF l 0)))),some (.row false 1 l.length (zg wd 0 (mkR l.length fun j=>if j<0 then zen (stk l j) else 0))),some (.row false 1 l.length (zg wd 0 (mkR l.length fun j=>if j<0 then (docF l (j+1):Nat) else 0))),some (.blk false [.fs 8 (l.map evc),.slc 1 0 l.length,.slc 2 0 l.length,.slc 3 0 l.length])]⟩:St)) ?_ (fun _=>?_)
 ·simp only [↓XC,XV,XT,Yg,seval,TES]
  refine ⟨by decide +kernel, ?_⟩
  repeat' (first | with_reducible refine Chk.mk ?_ fun _=>?_ | with_reducible refine And.intro ?_ ?_)
  all_goals first | omega | (first | (refine ⟨(),Ent.ren1 [0,1,2,3,4] (by decide) ?_ ?_⟩;(focus ((simp only [Yd]);(refine ⟨?_, ?_, ?_, ?_, ?_⟩);(exact za rfl);(exact zh fun j hj=>by simp only [zg,zo hj,endF]<;>rfl);(exact zh fun j hj=>by simp only [zg,zo hj,Nat.not_lt_zero,if_false]<;>rfl);(exact zh fun j hj=>by simp only [zg,zo hj,Nat.not_lt_zero,if_false]<;>rfl);(refine za ?_);(simp [Yf]);done));(simp [zi,Vg.look,SV.mapH,muL]);done) | (refine ⟨(),Ent.ren1 [0,1,2,4,3] (by decide) ?_ ?_⟩;(focus ((simp only [Yd]);(refine ⟨?_, ?_, ?_, ?_, ?_⟩);(exact za rfl);(exact zh fun j hj=>by simp only [zg,zo hj,endF]<;>rfl);(exact zh fun j hj=>by simp only [zg,zo hj,Nat.not_lt_zero,if_false]<;>rfl);(exact zh fun j hj=>by simp only [zg,zo hj,Nat.not_lt_zero,if_false]<;>rfl);(refine za ?_);(simp [Yf]);done));(simp [zi,Vg.look,SV.mapH,muL]);done) | (refine ⟨(),Ent.ren1 [0,1,3,2,4] (by decide) ?_ ?_⟩;(focus ((simp only [Yd]);(refine ⟨?_, ?_, ?_, ?_, ?_⟩);(exact za rfl);(exact zh fun j hj=>by simp only [zg,zo hj,endF]<;>rfl);(exact zh fun j hj=>by simp only [zg,zo hj,Nat.not_lt_zero,if_false]<;>rfl);(exact zh fun j hj=>by simp only [zg,zo hj,Nat.not_lt_zero,if_false]<;>rfl);(refine za ?_);(simp [Yf]);done));(simp [zi,Vg.look,SV.mapH,muL]);done) | (refine ⟨(),Ent.ren1 [0,1,3,4,2] (by decide) ?_ ?_⟩;(focus ((simp only [Yd]);(refine ⟨?_, ?_, ?_, ?_, ?_⟩);(exact za rfl);(exact zh fun j hj=>by simp only [zg,zo hj,endF]<;>rfl);(exact zh fun j hj=>by simp only [zg,zo hj,Nat.not_lt_zero,if_false]<;>rfl);(exact zh fun j hj=>by simp only [zg,zo hj,Nat.not_lt_zero,if_false]<;>rfl);(refine za ?_);(simp [Yf]);done));(simp [zi,Vg.look,SV.mapH,muL]);done) | (refine ⟨(),Ent.ren1 [0,1,4,2,3] (by decide) ?_ ?_⟩;(focus ((simp only [Yd]);(refine ⟨?_, ?_, ?_, ?_, ?_⟩);(exact za rfl);(exact zh fun j hj=>by simp only [zg,zo hj,endF]<;>rfl);(exact zh fun j hj=>by simp only [zg,zo hj,Nat.not_lt_zero,if_false]<;>rfl);(exact zh fun j hj=>by simp only [zg,zo hj,Nat.not_lt_zero,if_false]<;>rfl);(refine za ?_);(simp [Yf]);done));(simp [zi,Vg.look,SV.mapH,muL]);done) | (refine ⟨(),Ent.ren1 [0,1,4,3,2] (by decide) ?_ ?_⟩;(focus ((simp only [Yd]);(refine ⟨?_, ?_, ?_, ?_, ?_⟩);(exact za rfl);(exact zh fun j hj=>by simp only [zg,zo hj,endF]<;>rfl);(exact zh fun j hj=>by simp only [zg,zo hj,Nat.not_lt_zero,if_false]<;>rfl);(exact zh fun j hj=>by simp only [zg,zo hj,Nat.not_lt_zero,if_false]<;>rfl);(refine za ?_);(simp [Yf]);done));(simp [zi,Vg.look,SV.mapH,muL]);done) | (refine ⟨(),Ent.ren1 [0,2,1,3,4] (by decide) ?_ ?_⟩;(focus ((simp only [Yd]);(refine ⟨?_, ?_, ?_, ?_, ?_⟩);(exact za rfl);(exact zh fun j hj=>by simp only [zg,zo hj,endF]<;>rfl);(exact zh fun j hj=>by simp only [zg,zo hj,Nat.not_lt_zero,if_false]<;>rfl);(exact zh fun j hj=>by simp only [zg,zo hj,Nat.not_lt_zero,if_false]<;>rfl);(refine za ?_);(simp [Yf]);done));(simp [zi,Vg.look,SV.mapH,muL]);done) | (refine ⟨(),Ent.ren1 [0,2,1,4,3] (by decide) ?_ ?_⟩;(focus ((simp only [Yd]);(refine ⟨?_, ?_, ?_, ?_, ?_⟩);(exact za rfl);(exact zh fun j hj=>by simp only [zg,zo hj,endF]<;>rfl);(exact zh fun j hj=>by simp only [zg,zo hj,Nat.not_lt_zero,if_false]<;>rfl);(exact zh fun j hj=>by simp only [zg,zo hj,Nat.not_lt_zero,if_false]<;>rfl);(refine za ?_);(simp [Yf]);done));(simp [zi,Vg.look,SV.mapH,muL]);done) | (refine ⟨(),Ent.ren1 [0,2,3,1,4] (by decide) ?_ ?_⟩;(focus ((simp only [Yd]);(refine ⟨?_, ?_, ?_, ?_, ?_⟩);(exact za rfl);(exact zh fun j hj=>by simp only [zg,zo hj,endF]<;>rfl);(exact zh fun j hj=>by simp only [zg,zo hj,Nat.not_lt_zero,if_false]<;>rfl);(exact zh fun j hj=>by simp only [zg,zo hj,Nat.not_lt_zero,if_false]<;>rfl);(refine za ?_);(simp [Yf]);done));(simp [zi,Vg.look,SV.mapH,muL]);done) | (refine ⟨(),Ent.ren1 [0,2,3,4,1] (by decide) ?_ ?_⟩;(focus ((simp only [Yd]);(refine ⟨?_, ?_, ?_, ?_, ?_⟩);(exact za rfl);(exact zh fun j hj=>by simp only [zg,zo hj,endF]<;>rfl);(exact zh fun j hj=>by simp only [zg,zo hj,Nat.not_lt_zero,if_false]<;>rfl);(exact zh fun j hj=>by simp only [zg,zo hj,Nat.not_lt_zero,if_false]<;>rfl);(refine za ?_);(simp [Yf]);done));(simp [zi,Vg.look,SV.mapH,muL]);done) | (refine ⟨(),Ent.ren1 [0,2,4,1,3] (by decide) ?_ ?_⟩;(focus ((simp only [Yd]);(refine ⟨?_, ?_, ?_, ?_, ?_⟩);(exact za rfl);(exact zh fun j hj=>by simp only [zg,zo hj,endF]<;>rfl);(exact zh fun j hj=>by simp only [zg,zo hj,Nat.not_lt_zero,if_false]<;>rfl);(exact zh fun j hj=>by simp only [zg,zo hj,Nat.not_lt_zero,if_false]<;>rfl);(refine za ?_);(simp [Yf]);done));(simp [zi,Vg.look,SV.mapH,muL]);done) | (refine ⟨(),Ent.ren1 [0,2,4,3,1] (by decide) ?_ ?_⟩;(focus ((simp only [Yd]);(refine ⟨?_, ?_, ?_, ?_, ?_⟩);(exact za rfl);(exact zh fun j hj=>by simp only [zg,zo hj,endF]<;>rfl);(exact zh fun j hj=>by simp only [zg,zo hj,Nat.not_lt_zero,if_false]<;>rfl);(exact zh fun j hj=>by simp only [zg,zo hj,Nat.not_lt_zero,if_false]<;>rfl);(refine za ?_);(simp [Yf]);done));(simp [zi,Vg.look,SV.mapH,muL]);done) | (refine ⟨(),Ent.ren1 [0,3,1,2,4] (by decide) ?_ ?_⟩;(focus ((simp only [Yd]);(refine ⟨?_, ?_, ?_, ?_, ?_⟩);(exact za rfl);(exact zh fun j hj=>by simp only [zg,zo hj,endF]<;>rfl);(exact zh fun j hj=>by simp only [zg,zo hj,Nat.not_lt_zero,if_false]<;>rfl);(exact zh fun j hj=>by simp only [zg,zo hj,Nat.not_lt_zero,if_false]<;>rfl);(refine za ?_);(simp [Yf]);done));(simp [zi,Vg.look,SV.mapH,muL]);done) | (refine ⟨(),Ent.ren1 [0,3,1,4,2] (by decide) ?_ ?_⟩;(focus ((simp only [Yd]);(refine ⟨?_, ?_, ?_, ?_, ?_⟩);(exact za rfl);(exact zh fun j hj=>by simp only [zg,zo hj,endF]<;>rfl);(exact zh fun j hj=>by simp only [zg,zo hj,Nat.not_lt_zero,if_false]<;>rfl);(exact zh fun j hj=>by simp only [zg,zo hj,Nat.not_lt_zero,if_false]<;>rfl);(refine za ?_);(simp [Yf]);done));(simp [zi,Vg.look,SV.mapH,muL]);done) | (refine ⟨(),Ent.ren1 [0,3,2,1,4] (by decide) ?_ ?_⟩;(focus ((simp only [Yd]);(refine ⟨?_, ?_, ?_, ?_, ?_⟩);(exact za rfl);(exact zh fun j hj=>by simp only [zg,zo hj,endF]<;>rfl);(exact zh fun j hj=>by simp only [zg,zo hj,Nat.not_lt_zero,if_false]<;>rfl);(exact zh fun j hj=>by simp only [zg,zo hj,Nat.not_lt_zero,if_false]<;>rfl);(refine za ?_);(simp [Yf]);done));(simp [zi,Vg.look,SV.mapH,muL]);done) | (refine ⟨(),Ent.ren1 [0,3,2,4,1] (by decide) ?_ ?_⟩;(focus ((simp only [Yd]);(refine ⟨?_, ?_, ?_, ?_, ?_⟩);(exact za rfl);(exact zh fun j hj=>by simp only [zg,zo hj,endF]<;>rfl);(exact zh fun j hj=>by simp only [zg,zo hj,Nat.not_lt_zero,if_false]<;>rfl);(exact zh fun j hj=>by simp only [zg,zo hj,Nat.not_lt_zero,if_false]<;>rfl);(refine za ?_);(simp [Yf]);done));(simp [zi,Vg.look,SV.mapH,muL]);done) | (refine ⟨(),Ent.ren1 [0,3,4,1,2] (by decide) ?_ ?_⟩;(focus ((simp only [Yd]);(refine ⟨?_, ?_, ?_, ?_, ?_⟩);(exact za rfl);(exact zh fun j hj=>by simp only [zg,zo hj,endF]<;>rfl);(exact zh fun j hj=>by simp only [zg,zo hj,Nat.not_lt_zero,if_false]<;>rfl);(exact zh fun j hj=>by simp only [zg,zo hj,Nat.not_lt_zero,if_false]<;>rfl);(refine za ?_);(simp [Yf]);done));(simp [zi,Vg.look,SV.mapH,muL]);done) | (refine ⟨(),Ent.ren1 [0,3,4,2,1] (by decide) ?_ ?_⟩;(focus ((simp only [Yd]);(refine ⟨?_, ?_, ?_, ?_, ?_⟩);(exact za rfl);(exact zh fun j hj=>by simp only [zg,zo hj,endF]<;>rfl);(exact zh fun j hj=>by simp only [zg,zo hj,Nat.not_lt_zero,if_false]<;>rfl);(exact zh fun j hj=>by simp only [zg,zo hj,Nat.not_lt_zero,if_false]<;>rfl);(refine za ?_);(simp [Yf]);done));(simp [zi,Vg.look,SV.mapH,muL]);done) | (refine ⟨(),Ent.ren1 [0,4,1,2,3] (by decide) ?_ ?_⟩;(focus ((simp only [Yd]);(refine ⟨?_, ?_, ?_, ?_, ?_⟩);(exact za rfl);(exact zh fun j hj=>by simp only [zg,zo hj,endF]<;>rfl);(exact zh fun j hj=>by simp only [zg,zo hj,Nat.not_lt_zero,if_false]<;>rfl);(exact zh fun j hj=>by simp only [zg,zo hj,Nat.not_lt_zero,if_false]<;>rfl);(refine za ?_);(simp [Yf]);done));(simp [zi,Vg.look,SV.mapH,muL]);done) | (refine ⟨(),Ent.ren1 [0,4,1,3,2] (by decide) ?_ ?_⟩;(focus ((simp only [Yd]);(refine ⟨?_, ?_, ?_, ?_, ?_⟩);(exact za rfl);(exact zh fun j hj=>by simp only [zg,zo hj,endF]<;>rfl);(exact zh fun j hj=>by simp only [zg,zo hj,Nat.not_lt_zero,if_false]<;>rfl);(exact zh fun j hj=>by simp only [zg,zo hj,Nat.not_lt_zero,if_false]<;>rfl);(refine za ?_);(simp [Yf]);done));(simp [zi,Vg.look,SV.mapH,muL]);done) | (refine ⟨(),Ent.ren1 [0,4,2,1,3] (by decide) ?_ ?_⟩;(focus ((simp only [Yd]);(refine ⟨?_, ?_, ?_, ?_, ?_⟩);(exact za rfl);(exact zh fun j hj=>by simp only [zg,zo hj,endF]<;>rfl);(exact zh fun j hj=>by simp only [zg,zo hj,Nat.not_lt_zero,if_false]<;>rfl);(exact zh fun j hj=>by simp only [zg,zo hj,Nat.not_lt_zero,if_false]<;>rfl);(refine za ?_);(simp [Yf]);done));(simp [zi,Vg.look,SV.mapH,muL]);done) | (refine ⟨(),Ent.ren1 [0,4,2,3,1] (by decide) ?_ ?_⟩;(focus ((simp only [Yd]);(refine ⟨?_, ?_, ?_, ?_, ?_⟩);(exact za rfl);(exact zh fun j hj=>by simp only [zg,zo hj,endF]<;>rfl);(exact zh fun j hj=>by simp only [zg,zo hj,Nat.not_lt_zero,if_false]<;>rfl);(exact zh fun j hj=>by simp only [zg,zo hj,Nat.not_lt_zero,if_false]<;>rfl);(refine za ?_);(simp [Yf]);done));(simp [zi,Vg.look,SV.mapH,muL]);done) | (refine ⟨(),Ent.ren1 [0,4,3,1,2] (by decide) ?_ ?_⟩;(focus ((simp only [Yd]);(refine ⟨?_, ?_, ?_, ?_, ?_⟩);(exact za rfl);(exact zh fun j hj=>by simp only [zg,zo hj,endF]<;>rfl);(exact zh fun j hj=>by simp only [zg,zo hj,Nat.not_lt_zero,if_false]<;>rfl);(exact zh fun j hj=>by simp only [zg,zo hj,Nat.not_lt_zero,if_false]<;>rfl);(refine za ?_);(simp [Yf]);done));(simp [zi,Vg.look,SV.mapH,muL]);done) | (refine ⟨(),Ent.ren1 [0,4,3,2,1] (by decide) ?_ ?_⟩;(focus ((simp only [Yd]);(refine ⟨?_, ?_, ?_, ?_, ?_⟩);(exact za rfl);(exact zh fun j hj=>by simp only [zg,zo hj,endF]<;>rfl);(exact zh fun j hj=>by simp only [zg,zo hj,Nat.not_lt_zero,if_false]<;>rfl);(exact zh fun j hj=>by simp only [zg,zo hj,Nat.not_lt_zero,if_false]<;>rfl);(refine za ?_);(simp [Yf]);done));(simp [zi,Vg.look,SV.mapH,muL]);done))
 simp only [↓XC,XV,XT,Yg,seval,TES,XRE,XR,yo]
 refine yv.of (ι:={i:Nat // i≤l.length}) (fun x=>⟨[(2,.ptr 0 0 0),(3,.ptr 4 0 0),(4,.slc 5 0 (stk l x.1).length),(5,.i .i64 (docF l x.1:Nat)),(21,.fs 8 (l.map evc)),(22,.i .i64 (l.length:Nat)),(23,.i .i64 (x.1:Nat))],[some (.blk false [.nils,.nils,.nils,.nils]),some (.row false 1 l.length (zg wd 0 (mkR l.length (endF l x.1)))),some (.row false 1 l.length (zg wd 0 (mkR l.length fun j=>if j<x.1 then zen (stk l j) else 0))),some (.row false 1 l.length (zg wd 0 (mkR l.length fun j=>if j<x.1 then (docF l (j+1):Nat) else 0))),some (.blk false [.fs 8 (l.map evc),.slc 1 0 l.length,.slc 2 0 l.length,.slc 3 0 l.length]),some (.row false 1 (stk l x.1).length (zg wd 0 ((stk l x.1).map fun (n:Nat)=>(n:Int))))]⟩) (fun x=>l.length-x.1) ⟨0,Nat.zero_le _⟩ (Ent.ren1 [0,1,2,3,4,5] (by decide) (by simp only [Yd];refine ⟨?_, ?_, ?_, ?_, ?_, ?_⟩;(exact za rfl);(exact zb fun _=>rfl);(exact zb fun _=>rfl);(exact zb fun _=>rfl);(exact za rfl);(exact zh fun j hj=>absurd hj (Nat.not_lt_zero _))) (by simp [zi,Vg.look,SV.mapH,muL,stk,docF])) ?_
 rintro ⟨i,hi⟩
 simp only [↓XC,XV,XT,Yg,seval,TES,v8,ks,XRE,XR,yo]
 have hS:stk l (i+1)=if isColl (l.getD i evz).kind then stk l i++[i] else if (l.getD i evz).kind=7 then (stk l i).take ((stk l i).length-1) else stk l i:=by simp only [stk]
 have hD:docF l (i+1)=if (l.getD i evz).kind=2 then i else docF l i:=by simp only [docF]
 have hE:∀ j,endF l (i+1) j=if j=i then (if Pl.isNode (l.getD i evz).kind&&!isColl (l.getD i evz).kind then (i:Int) else -1) else if (l.getD i evz).kind=7∧zen (stk l i)=j then (i:Int) else endF l i j:=fun j=>by simp only [endF]
 refine ⟨fun hil=>?_,fun hil=>?_⟩
 ·have hend:(l.getD i evz).kind=7→0<(stk l i).length:=zka hp.2 (by omega)
  have htp:0<(stk l i).length→((stk l i).map fun (n:Nat)=>(n:Int)).getD ((stk l i).length-1) 0=zen (stk l i)∧0≤zen (stk l i)∧zen (stk l i)<i:=fun h=>by
   have h1:=zjw (l:=l) i ((stk l i).length-1) (by omega)
   rw [zcl h]
   have h2:=zpe (fun (n:Nat)=>(n:Int)) (stk l i) ((stk l i).length-1) 0
   exact ⟨h2,by omega,by omega⟩
  simp only [show (((stk l i).length:Int)-1).toNat=(stk l i).length-1 by omega]
  have hln:=zwp (l:=l) i
  generalize hK:(l.getD i evz).kind=K at *
  repeat' (first | with_reducible refine Chk.mk ?_ fun _=>?_ | with_reducible refine And.intro ?_ ?_ | intro _)
  all_goals first
   | (with_reducible refine (?_:znk _ _ _=true);decide +kernel)
   | (simp only [inR];omega)
   | omega
   | exact qo rfl rfl
   | exact (qo rfl rfl _ (by assumption)).1
   | exact (qo rfl rfl _ (by assumption)).2
   | (exfalso;have h7:=hend (by assumption);omega)
   | (exfalso;simp_all [Pl.isNode,isColl];done)
   | (split<;>rfl)
   | (have h7:=hend (by assumption);have h8:=htp h7;rw [h8.1];omega)
   | (refine ⟨⟨i+1,by omega⟩,by simp only;omega, ?_⟩;(simp only [Int.natCast_add,Int.natCast_one]);(refine Ent.ren1 [0,1,2,3,4,8] (by decide) ?_ ?_);(focus ((simp only [Yd]);(refine ⟨?_, ?_, ?_, ?_, ?_, ?_⟩);(exact za rfl);(focus (refine vb fun j hj=>?_;simp only [zo hj,hE];(exact zxc (A:=.i .i64) (by assumption))));(focus (refine vb fun j hj=>?_;simp only [zo hj];(first | exact zlg (s:=stk l) (A:=.i .i64) (htp (by omega)).1 | exact zqe (s:=stk l) (A:=.i .i64) (by omega) | (simp_all;done) | grind)));(focus (refine vb fun j hj=>?_;simp only [zo hj,hD];(first | done | (simp_all;done) | grind)));(exact za rfl);(focus (rw [hS,if_pos (by assumption)];exact jd (fun _=>rfl) rfl (fun _ _=>rfl) rfl rfl))));(first | (simp_all [zi,Vg.look,SV.mapH,muL];done) | (simp [zi,Vg.look,SV.mapH,muL,hS,hD, *];done)))
   | (refine ⟨⟨i+1,by omega⟩,by simp only;omega, ?_⟩;(simp only [Int.natCast_add,Int.natCast_one]);(refine Ent.ren1 [0,1,2,3,4,5] (by decide) ?_ ?_);(focus ((simp only [Yd]);(refine ⟨?_, ?_, ?_, ?_, ?_, ?_⟩);(exact za rfl);(focus (refine vb fun j hj=>?_;simp only [zo hj,hE];(first | done | (simp_all;done) | grind)));(focus (refine vb fun j hj=>?_;simp only [zo hj];(first | exact zlg (s:=stk l) (A:=.i .i64) (htp (by omega)).1 | exact zqe (s:=stk l) (A:=.i .i64) (by omega) | (simp_all;done) | grind)));(focus (refine vb fun j hj=>?_;simp only [zo hj,hD];(first | done | (simp_all;done) | grind)));(exact za rfl);(focus (rw [hS];simp_all;exact zb fun _=>rfl))));(first | (simp_all [zi,Vg.look,SV.mapH,muL];done) | (simp [zi,Vg.look,SV.mapH,muL,hS,hD, *];done)))
   | (refine ⟨⟨i+1,by omega⟩,by simp only;omega, ?_⟩;(simp only [Int.natCast_add,Int.natCast_one]);(refine Ent.ren1 [0,1,2,3,4,5] (by decide) ?_ ?_);(focus ((simp only [Yd]);(refine ⟨?_, ?_, ?_, ?_, ?_, ?_⟩);(exact za rfl);(focus (refine vb fun j hj=>?_;simp only [zo hj,hE];(have h7:=htp (hend (by assumption));rw [h7.1];exact pop_ends (A:=.i .i64) (by assumption) h7.2.1 h7.2.2)));(focus (refine vb fun j hj=>?_;simp only [zo hj];(first | exact zlg (s:=stk l) (A:=.i .i64) (htp (by omega)).1 | exact zqe (s:=stk l) (A:=.i .i64) (by omega) | (simp_all;done) | grind)));(focus (refine vb fun j hj=>?_;simp only [zo hj,hD];(first | done | (simp_all;done) | grind)));(exact za rfl);(focus (have h7:=hend (by assumption);rw [hS,if_neg (by simp_all),if_pos (by assumption)];exact kn (by simp) fun j hj=>by simp only [zg,take_row _ hj]<;>rfl))));(first | (simp_all [zi,Vg.look,SV.mapH,muL];done) | (simp [zi,Vg.look,SV.mapH,muL,hS,hD, *];done)))
 ·obtain rfl:i=l.length:=by omega
  have hup:mkR l.length (fun j=>if j<l.length then zen (stk l j) else 0)=upL l:=by
   unfold upL mkR;exact List.map_congr_left fun j hj=>by rw [if_pos (by simpa using hj)]
  have hdo:mkR l.length (fun j=>if j<l.length then ((docF l (j+1):Nat):Int) else 0)=zzs l:=by
   unfold zzs mkR;exact List.map_congr_left fun j hj=>by rw [if_pos (by simpa using hj)]
  rw [hup,hdo]
  exact ⟨[1,2,3],by decide,by simp only [Yd];exact ⟨zb fun _=>rfl,zb fun _=>rfl,zb fun _=>rfl⟩,by simp only [↓XC,XV,XT,Yg,seval,TES];try simp [Yf],by simp [zw,SO.ro],by simp⟩
theorem nestOf (l:List Ev) (hp:l.length≤1048576∧yf l=true):PF Tryz.prog 74 [.fs 8 (l.map evc)] (.agg [.fs 8 (l.map evc),.fs 1 ((zvg l).map wd),.fs 1 ((upL l).map wd),.fs 1 ((zzs l).map wd)]):=PF.ofOwn (zu7 l hp) rfl rfl (by have e1:(zvg l).length=l.length:=ug;have e2:(upL l).length=l.length:=ug;have e3:(zzs l).length=l.length:=ug;simp only [xw,jr,zdi,vm,ye,yi,and_true,true_and];exact ⟨⟨⟨by omega,fun j hj=>⟨rfl,rfl⟩⟩,⟨by omega,fun j hj=>⟨rfl,rfl⟩⟩,⟨by omega,fun j hj=>⟨rfl,rfl⟩⟩⟩,by rw [w8 e1.symm,w8 e2.symm,w8 e3.symm]⟩)
noncomputable def jq:PE:=peR (fun (l:List Ev)=>[.fs 8 (l.map evc)]) (fun (l:List Ev)=>l.length≤1048576∧yf l=true) (fun (l:List Ev)=>.agg [.fs 8 (l.map evc),.fs 1 ((zvg l).map wd),.fs 1 ((upL l).map wd),.fs 1 ((zzs l).map wd)])
theorem u0 {l:List Ev}:jq [.fs 8 (l.map evc)]=some (l.length≤1048576∧yf l=true,.agg [.fs 8 (l.map evc),.fs 1 ((zvg l).map wd),.fs 1 ((upL l).map wd),.fs 1 ((zzs l).map wd)]):=yh (by rintro a b h;simp_all [zbf]) l
theorem uz:PE1 Tryz.prog 74 jq:=yl (by rintro l hp;exact nestOf l hp)
end Go.T
end
section
set_option linter.unusedVariables false
set_option linter.unusedSimpArgs false
set_option linter.unusedSectionVars false
set_option linter.unnecessarySimpa false
namespace Go.T
variable [Go.Vg.Glob]
open Go.Proofs Go.Vg Go.RowKit Go.TT Go.Pl
set_option maxRecDepth 10000
set_option maxHeartbeats 4000000
theorem nest_has (l:List Ev) (ev up dc:List Int) (i:Int) (hp:l.length≤1048576):PF Tryz.prog 195 [.agg [.fs 8 (l.map evc),.fs 1 (ev.map wd),.fs 1 (up.map wd),.fs 1 (dc.map wd)],.i .i64 i] (.b (decide (0≤i)&&decide (i≤(l.length:Int)-1))):=by
 refine ⟨rfl,rfl,FnK.of (cf:=zk Tryz.prog te [(147,qr)] 11 0 false (fun _=>false) (kp [(0,[1,2]),(1,[4])]) [] []) (zf te_ok (l:=[(147,qr)]) (⟨kb,trivial⟩) zc) Tryz.func195 rfl rfl rfl (by simp [zk]) (by simp [zk]) (rs:=[.tmp 4]) rfl 100000 ?_⟩
 simp only [↓XC,XV,XT,Yg,seval,TES,wa,XRE,XR]
 exact Chk.mk (by simp only [inR];omega) fun _=>trivial
noncomputable def ky:PE:=peR (fun (x:List Ev×List Int×List Int×List Int×Int)=>match x with | (l,ev,up,dc,i)=>[.agg [.fs 8 (l.map evc),.fs 1 (ev.map wd),.fs 1 (up.map wd),.fs 1 (dc.map wd)],.i .i64 i]) (fun (x:List Ev×List Int×List Int×List Int×Int)=>match x with | (l,ev,up,dc,i)=>l.length≤1048576) (fun (x:List Ev×List Int×List Int×List Int×Int)=>match x with | (l,ev,up,dc,i)=>.b (decide (0≤i)&&decide (i≤(l.length:Int)-1)))
theorem zaa {l:List Ev} {ev up dc:List Int} {i:Int}:ky [.agg [.fs 8 (l.map evc),.fs 1 (ev.map wd),.fs 1 (up.map wd),.fs 1 (dc.map wd)],.i .i64 i]=some (l.length≤1048576,.b (decide (0≤i)&&decide (i≤(l.length:Int)-1))):=yh (by rintro ⟨a0,a1,a2,a3,a4⟩ ⟨b0,b1,b2,b3,b4⟩ h;simp_all [zbf,zml]) (l,ev,up,dc,i)
theorem u9:PE1 Tryz.prog 195 ky:=yl (by rintro ⟨l,ev,up,dc,i⟩ hp;exact nest_has l ev up dc i hp)
theorem zyj (l:List Ev) (ev up dc:List Int) (i:Int) (hp:l.length≤1048576∧up.length=l.length):PF Tryz.prog 111 [.agg [.fs 8 (l.map evc),.fs 1 (ev.map wd),.fs 1 (up.map wd),.fs 1 (dc.map wd)],.i .i64 i] (.i .i64 (if 0≤i∧i<l.length then up.getD i.toNat 0 else -1)):=by
 refine ⟨rfl,rfl,FnK.of (cf:=zk Tryz.prog te [(195,ky)] 14 0 false (fun _=>false) (kp [(0,[1,2]),(1,[1,2,8]),(2,[4]),(3,[4])]) [] []) (zf te_ok (l:=[(195,ky)]) (⟨u9,trivial⟩) zc) Tryz.func111 rfl rfl rfl (by simp [zk]) (by simp [zk]) (rs:=[.tmp 4]) rfl 100000 ?_⟩
 simp only [↓XC,XV,XT,Yg,seval,TES,zaa,XRE,XR]
 refine Chk.mk (by omega) fun _=>⟨fun h=>?_,fun h=>?_⟩
 ·rw [if_neg (by simp at h;omega)]
 ·simp at h
  exact Chk.mk (by omega) fun _=>by rw [if_pos (by omega)]
noncomputable def uy:PE:=peR (fun (x:List Ev×List Int×List Int×List Int×Int)=>match x with | (l,ev,up,dc,i)=>[.agg [.fs 8 (l.map evc),.fs 1 (ev.map wd),.fs 1 (up.map wd),.fs 1 (dc.map wd)],.i .i64 i]) (fun (x:List Ev×List Int×List Int×List Int×Int)=>match x with | (l,ev,up,dc,i)=>l.length≤1048576∧up.length=l.length) (fun (x:List Ev×List Int×List Int×List Int×Int)=>match x with | (l,ev,up,dc,i)=>.i .i64 (if 0≤i∧i<l.length then up.getD i.toNat 0 else -1))
theorem zhc {l:List Ev} {ev up dc:List Int} {i:Int}:uy [.agg [.fs 8 (l.map evc),.fs 1 (ev.map wd),.fs 1 (up.map wd),.fs 1 (dc.map wd)],.i .i64 i]=some (l.length≤1048576∧up.length=l.length,.i .i64 (if 0≤i∧i<l.length then up.getD i.toNat 0 else -1)):=yh (by rintro ⟨a0,a1,a2,a3,a4⟩ ⟨b0,b1,b2,b3,b4⟩ h;simp_all [zbf,zml]) (l,ev,up,dc,i)
theorem zhb:PE1 Tryz.prog 111 uy:=yl (by rintro ⟨l,ev,up,dc,i⟩ hp;exact zyj l ev up dc i hp)
theorem zu6 (l:List Ev) (ev up dc:List Int) (i:Int) (hp:l.length≤1048576∧ev.length=l.length):PF Tryz.prog 109 [.agg [.fs 8 (l.map evc),.fs 1 (ev.map wd),.fs 1 (up.map wd),.fs 1 (dc.map wd)],.i .i64 i] (.i .i64 (if 0≤i∧i<l.length then ev.getD i.toNat 0 else -1)):=by
 refine ⟨rfl,rfl,FnK.of (cf:=zk Tryz.prog te [(195,ky)] 14 0 false (fun _=>false) (kp [(0,[1,2]),(1,[1,2,8]),(2,[4]),(3,[4])]) [] []) (zf te_ok (l:=[(195,ky)]) (⟨u9,trivial⟩) zc) Tryz.func109 rfl rfl rfl (by simp [zk]) (by simp [zk]) (rs:=[.tmp 4]) rfl 100000 ?_⟩
 simp only [↓XC,XV,XT,Yg,seval,TES,zaa,XRE,XR]
 refine Chk.mk (by omega) fun _=>⟨fun h=>?_,fun h=>?_⟩
 ·rw [if_neg (by simp at h;omega)]
 ·simp at h
  exact Chk.mk (by omega) fun _=>by rw [if_pos (by omega)]
noncomputable def xz:PE:=peR (fun (x:List Ev×List Int×List Int×List Int×Int)=>match x with | (l,ev,up,dc,i)=>[.agg [.fs 8 (l.map evc),.fs 1 (ev.map wd),.fs 1 (up.map wd),.fs 1 (dc.map wd)],.i .i64 i]) (fun (x:List Ev×List Int×List Int×List Int×Int)=>match x with | (l,ev,up,dc,i)=>l.length≤1048576∧ev.length=l.length) (fun (x:List Ev×List Int×List Int×List Int×Int)=>match x with | (l,ev,up,dc,i)=>.i .i64 (if 0≤i∧i<l.length then ev.getD i.toNat 0 else -1))
theorem zgb {l:List Ev} {ev up dc:List Int} {i:Int}:xz [.agg [.fs 8 (l.map evc),.fs 1 (ev.map wd),.fs 1 (up.map wd),.fs 1 (dc.map wd)],.i .i64 i]=some (l.length≤1048576∧ev.length=l.length,.i .i64 (if 0≤i∧i<l.length then ev.getD i.toNat 0 else -1)):=yh (by rintro ⟨a0,a1,a2,a3,a4⟩ ⟨b0,b1,b2,b3,b4⟩ h;simp_all [zbf,zml]) (l,ev,up,dc,i)
theorem zga:PE1 Tryz.prog 109 xz:=yl (by rintro ⟨l,ev,up,dc,i⟩ hp;exact zu6 l ev up dc i hp)
theorem UpOf_i (l:List Ev) (i:Int) (hp:l.length≤1048576):PF Tryz.prog 35 [.fs 8 (l.map evc),.i .i64 i] (.i .i64 (if yf l=true∧0≤i∧i<l.length then upB l i.toNat 0 else -1)):=by
 refine ⟨rfl,rfl,FnK.of (cf:=zk Tryz.prog te [(17,w6),(74,jq),(111,uy)] 12 0 false (fun _=>false) (kp [(0,[0,1]),(1,[0,1,7]),(2,[4]),(3,[4])]) [] []) (zf te_ok (l:=[(17,w6),(74,jq),(111,uy)]) (⟨xb,uz,zhb,trivial⟩) zc) Tryz.func35 rfl rfl rfl (by simp [zk]) (by simp [zk]) (rs:=[.tmp 4]) rfl 100000 ?_⟩
 simp only [↓XC,XV,XT,Yg,seval,TES,xc,u0,zhc,XRE,XR]
 refine Chk.mk hp fun _=>⟨fun h=>?_,fun h=>Chk.mk ⟨hp,by simpa using h⟩ fun _=>Chk.mk ⟨hp,ug⟩ fun _=>?_⟩
 ·rw [if_neg (by simp at h;simp [h])]
 ·have hn:yf l=true:=by simpa using h
  by_cases hi:0≤i∧i<l.length
  ·rw [if_pos hi,if_pos ⟨hn,hi⟩]
   unfold upL
   rw [zo (by omega),zqi hn (by omega)]
  ·rw [if_neg hi,if_neg (fun h=>hi h.2)]
noncomputable def zd0:PE:=peR (fun (x:List Ev×Int)=>match x with | (l,i)=>[.fs 8 (l.map evc),.i .i64 i]) (fun (x:List Ev×Int)=>match x with | (l,i)=>l.length≤1048576) (fun (x:List Ev×Int)=>match x with | (l,i)=>.i .i64 (if yf l=true∧0≤i∧i<l.length then upB l i.toNat 0 else -1))
theorem u1 {l:List Ev} {i:Int}:zd0 [.fs 8 (l.map evc),.i .i64 i]=some (l.length≤1048576,.i .i64 (if yf l=true∧0≤i∧i<l.length then upB l i.toNat 0 else -1)):=yh (by rintro ⟨a0,a1⟩ ⟨b0,b1⟩ h;simp_all [zbf]) (l,i)
theorem zn7:PE1 Tryz.prog 35 zd0:=yl (by rintro ⟨l,i⟩ hp;exact UpOf_i l i hp)
end Go.T
end
section
set_option linter.unusedVariables false
set_option linter.unusedSimpArgs false
set_option linter.unusedSectionVars false
set_option linter.unnecessarySimpa false
namespace Go.T
variable [Go.Vg.Glob]
open Go.Proofs Go.Vg Go.RowKit Go.TT Go.Pl
set_option maxRecDepth 10000
set_option maxHeartbeats 4000000
theorem EndOf_i (l:List Ev) (i:Int) (hp:l.length≤1048576):PF Tryz.prog 33 [.fs 8 (l.map evc),.i .i64 i] (.i .i64 (if yf l=true∧0≤i∧i<l.length then (if Pl.isNode (l.getD i.toNat evz).kind then scB l i.toNat 0 else -1) else -1)):=by
 refine ⟨rfl,rfl,FnK.of (cf:=zk Tryz.prog te [(17,w6),(74,jq),(109,xz)] 12 0 false (fun _=>false) (kp [(0,[0,1]),(1,[0,1,7]),(2,[4]),(3,[4])]) [] []) (zf te_ok (l:=[(17,w6),(74,jq),(109,xz)]) (⟨xb,uz,zga,trivial⟩) zc) Tryz.func33 rfl rfl rfl (by simp [zk]) (by simp [zk]) (rs:=[.tmp 4]) rfl 100000 ?_⟩
 simp only [↓XC,XV,XT,Yg,seval,TES,xc,u0,zgb,XRE,XR]
 refine Chk.mk hp fun _=>⟨fun h=>?_,fun h=>Chk.mk ⟨hp,by simpa using h⟩ fun _=>Chk.mk ⟨hp,ug⟩ fun _=>?_⟩
 ·rw [if_neg (by simp at h;simp [h])]
 ·have hn:yf l=true:=by simpa using h
  by_cases hi:0≤i∧i<l.length
  ·rw [if_pos hi,if_pos ⟨hn,hi⟩]
   unfold zvg
   rw [zo (by omega),zec hn (by omega)]
  ·rw [if_neg hi,if_neg (fun h=>hi h.2)]
noncomputable def zcq:PE:=peR (fun (x:List Ev×Int)=>match x with | (l,i)=>[.fs 8 (l.map evc),.i .i64 i]) (fun (x:List Ev×Int)=>match x with | (l,i)=>l.length≤1048576) (fun (x:List Ev×Int)=>match x with | (l,i)=>.i .i64 (if yf l=true∧0≤i∧i<l.length then (if Pl.isNode (l.getD i.toNat evz).kind then scB l i.toNat 0 else -1) else -1))
theorem ub {l:List Ev} {i:Int}:zcq [.fs 8 (l.map evc),.i .i64 i]=some (l.length≤1048576,.i .i64 (if yf l=true∧0≤i∧i<l.length then (if Pl.isNode (l.getD i.toNat evz).kind then scB l i.toNat 0 else -1) else -1)):=yh (by rintro ⟨a0,a1⟩ ⟨b0,b1⟩ h;simp_all [zbf]) (l,i)
theorem zl5:PE1 Tryz.prog 33 zcq:=yl (by rintro ⟨l,i⟩ hp;exact EndOf_i l i hp)
end Go.T
end
section
set_option linter.unusedVariables false
set_option linter.unusedSimpArgs false
set_option linter.unusedSectionVars false
set_option linter.unnecessarySimpa false
namespace Go.T
variable [Go.Vg.Glob]
open Go.Proofs Go.Vg Go.RowKit Go.TT Go.Pl
set_option maxRecDepth 10000
set_option maxHeartbeats 4000000
theorem zi8 (l:List Ev) (hp:l.length≤1048576∧yf l=true):FnK Tryz.prog 112 0 [.agg [.fs 8 (l.map evc),.fs 1 ((zvg l).map wd),.fs 1 ((upL l).map wd),.fs 1 ((zzs l).map wd)]] [] (fun z c=>z=.slc 0 0 (jn l l.length).length∧c=[some (.row false 1 (jn l l.length).length (zg wd 0 (jn l l.length)))]):=by
 refine FnK.ofE (cf:=zk Tryz.prog te [(129,kz)] 33 0 false (fun _=>false) (kp [(0,[1]),(1,[1,3]),(2,[1,3,8,9,10]),(3,[1,3,8,9,10,11]),(4,[1,3,4,5,8,9,10]),(5,[1,3,4,8,9,10,26]),(6,[1,3,8,9,10]),(7,[1,3,8,9,10]),(8,[2])]) [] []) (zf te_ok (l:=[(129,kz)]) (⟨zab,trivial⟩) zc) Tryz.func112 rfl rfl rfl (by simp [zk]) (by simp [zk]) (rs:=[.tmp 2]) rfl 100000 ?_
 simp only [↓XC,XV,XT,Yg,seval,TES,ks,XRE,XR]
 refine yv.of (ι:={i:Nat // i≤l.length}) (fun x=>⟨[(1,.ptr 0 0 0),(3,.slc 1 0 (jn l x.1).length),(8,.fs 8 (l.map evc)),(9,.i .i64 (l.length:Nat)),(10,.i .i64 (x.1:Nat))],[some (.blk false [.fs 8 (l.map evc),.fs 1 ((zvg l).map wd),.fs 1 ((upL l).map wd),.fs 1 ((zzs l).map wd)]),some (.row false 1 (jn l x.1).length (zg wd 0 (jn l x.1)))]⟩) (fun x=>l.length-x.1) ⟨0,Nat.zero_le _⟩ (by simp only [jn,List.length_nil];exact (Ent.ren1 [0,1] (by decide) (by simp only [Yd];exact ⟨za rfl,zlk⟩) (by simp [zi,Vg.look,SV.mapH,muL]))) ?_
 rintro ⟨i,hi⟩
 simp only [↓XC,XV,XT,Yg,seval,TES,ks,XRE,XR]
 have h0:=zb5 hp.2
 have hr:jn l (i+1)=if zkk l i then jn l i++[(i:Int)] else jn l i:=rfl
 have hrl:=za0 (l:=l) i
 have hpos:isNode (l.getD i evz).kind=true→0<i:=fun h=>by
  rcases Nat.eq_zero_or_pos i with e | e
  ·subst e;rw [h0] at h;cases h
  ·exact e
 refine ⟨fun hl=>Chk.mk (by omega) fun _=>Chk.mk (fun h=>by have:=hpos h;simp only [inR];omega) fun _=>Chk.mk (fun h=>by have:=hpos h;omega) fun _=>⟨fun hb=>?_,fun hb=>?_⟩,fun hl=>?_⟩
 ·simp only [Yi] at hb
  have hq:=hpos hb.1
  rw [show ((i:Int)-1).toNat=i-1 by omega] at hb
  have ht:zkk l i=true:=by unfold zkk;rw [hb.1,hb.2];simp [hq]
  rw [if_pos ht] at hr
  refine ⟨qo rfl rfl,Chk.mk (by omega) fun _=>Chk.mk (by simp only [inR];omega) fun _=>⟨⟨i+1,by omega⟩,by simp only;omega, ?_⟩⟩
  simp only [hr,Int.natCast_add,Int.natCast_one]
  exact (Ent.ren1 [0,4] (by decide) (by simp only [Yd];exact ⟨za rfl,jo (y:=(i:Int)) (fun _=>rfl) rfl (fun _ _=>rfl) rfl⟩) (by simp [zi,Vg.look,SV.mapH,muL]))
 ·have ht:¬zkk l i=true:=by
   unfold zkk
   intro h9
   simp only [Bool.and_eq_true,decide_eq_true_eq] at h9
   rw [show ((i:Int)-1).toNat=i-1 by omega,h9.2,h9.1.2] at hb
   cases hb
  rw [if_neg ht] at hr
  refine Chk.mk (by simp only [inR];omega) fun _=>⟨⟨i+1,by omega⟩,by simp only;omega, ?_⟩
  simp only [hr,Int.natCast_add,Int.natCast_one]
  exact (Ent.ren1 [0,1] (by decide) (by simp only [Yd];exact ⟨za rfl,zb fun _=>rfl⟩) (by simp [zi,Vg.look,SV.mapH,muL]))
 ·obtain rfl:i=l.length:=by omega
  exact ⟨[1],by decide,by simp only [Yd];exact zb fun _=>rfl,by simp only [↓XC,XV,XT,Yg,seval];try simp [Yf],by simp [zw,SO.ro],by simp⟩
theorem zmw (l:List Ev) (hp:l.length≤1048576):FnK Tryz.prog 36 0 [.fs 8 (l.map evc)] [] (fun z c=>z=.slc 0 0 (zbk l l.length).length∧c=[some (.row false 1 (zbk l l.length).length (zg wd 0 (zbk l l.length)))]):=by
 refine FnK.ofX (cf:=zk Tryz.prog te [(17,w6),(74,jq)] 9 0 false (fun _=>false) (kp [(0,[0]),(1,[0,5]),(2,[2]),(3,[2])]) [] []) (zf te_ok (l:=[(17,w6),(74,jq)]) (⟨xb,uz,trivial⟩) zc) Tryz.func36 rfl rfl rfl (by simp [zk]) (by simp [zk]) (rs:=[.tmp 2]) rfl 100000 ?_
 simp only [↓XC,XV,XT,Yg,seval,TES,xc,u0,XRE,XR]
 refine Chk.mk hp fun _=>⟨fun h=>?_,fun h=>?_⟩
 ·rw [zw3 (by simp at h;simp [h])]
  exact ⟨_,Ent.nl (d:=[]) (env':=[(2,.slc 0 0 0)]) [(1,zg wd 0 [])] (by simp [nlE,nlV,Vg.look]) (by simp [nlC]),⟨[0],by decide,by simp only [Yd];exact zb fun _=>rfl,by simp only [↓XC,XV,XT,Yg,seval];try simp [Yf],by simp [zw,SO.ro],by simp⟩⟩
 ·have hn:yf l=true:=by simpa using h
  rw [zur hn]
  refine Chk.mk ⟨hp,hn⟩ fun _=>?_
  refine zj.own (zi8 l ⟨hp,hn⟩) rfl ?_
  simp only [↓XC,XV,XT,Yg,seval,TES,XRE,XR]
  exact FinX.of ⟨[0],by decide,by simp only [Yd];exact zb fun _=>rfl,by simp only [↓XC,XV,XT,Yg,seval];try simp [Yf],by simp [zw,SO.ro],by simp⟩
theorem z0m (l:List Ev) (hp:l.length≤1048576):PF Tryz.prog 36 [.fs 8 (l.map evc)] (.fs 1 ((zbk l l.length).map wd)):=PF.ofOwn (zmw l hp) rfl rfl (by simp only [xw,jr,zdi,vm,ye,and_true];exact ⟨⟨by omega,fun j hj=>⟨rfl,rfl⟩⟩,by rw [w8 rfl]⟩)
noncomputable def u3:PE:=peR (fun (l:List Ev)=>[.fs 8 (l.map evc)]) (fun (l:List Ev)=>l.length≤1048576) (fun (l:List Ev)=>.fs 1 ((zbk l l.length).map wd))
theorem vg {l:List Ev}:u3 [.fs 8 (l.map evc)]=some (l.length≤1048576,.fs 1 ((zbk l l.length).map wd)):=yh (by rintro a b h;simp_all [zbf]) l
theorem zhh:PE1 Tryz.prog 36 u3:=yl (by rintro l hp;exact z0m l hp)
theorem zhw (l:List Ev) (i:Int) (hp:l.length≤1048576∧yf l=true):FnK Tryz.prog 110 0 [.agg [.fs 8 (l.map evc),.fs 1 ((zvg l).map wd),.fs 1 ((upL l).map wd),.fs 1 ((zzs l).map wd)],.i .i64 i] [] (fun z c=>z=.slc 0 0 (if 0≤i∧i<l.length then zat l i.toNat else []).length∧c=[some (.row false 1 (if 0≤i∧i<l.length then zat l i.toNat else []).length (zg wd 0 (if 0≤i∧i<l.length then zat l i.toNat else [])))]):=by
 refine FnK.ofE (cf:=zk Tryz.prog te [(195,ky),(151,k8),(129,kz)] 55 0 false (fun _=>false) (kp [(0,[1,2]),(1,[1,2,5]),(2,[1,2,5,20]),(3,[4]),(4,[2,5,6]),(5,[2,5,6,36]),(6,[2,5,6]),(7,[2,5,6]),(8,[2,5,6,48]),(9,[2,5,6]),(10,[4])]) [] []) (zf te_ok (l:=[(195,ky),(151,k8),(129,kz)]) (⟨u9,zac,zab,trivial⟩) zc) Tryz.func110 rfl rfl rfl (by simp [zk]) (by simp [zk]) (rs:=[.tmp 4]) rfl 100000 ?_
 simp only [↓XC,XV,XT,Yg,seval,TES,zaa,v8,ks,XRE,XR]
 refine Chk.mk hp.1 fun _=>Chk.mk (fun h=>by simp only [Yi] at h;omega) fun _=>⟨fun h=>?_,fun h=>?_⟩
 ·have e:(if 0≤i∧i<l.length then zat l i.toNat else [])=[]:=by
   simp only [Yi] at h
   split
   ·unfold zat
    rw [if_neg]
    intro h2
    rcases h with h | h
    ·omega
    ·rw [h2] at h;cases h
   ·rfl
  rw [e]
  exact ⟨[1],by decide,by simp only [Yd];exact zlk,by simp only [↓XC,XV,XT,Yg,seval];try simp [Yf],by simp [zw,SO.ro],by simp⟩
 simp only [Yi] at h
 obtain ⟨n,rfl⟩:=Int.eq_ofNat_of_zero_le (show 0≤i by omega)
 have e:(if 0≤((n:Nat):Int)∧((n:Nat):Int)<l.length then zat l (n:Int).toNat else [])=zd7 l (n+1):=by
  rw [if_pos (by omega)];unfold zat;rw [if_pos h.2];rfl
 rw [e]
 refine Chk.mk (by simp only [inR];omega) fun _=>?_
 refine yv.of (ι:={x:Nat×List Int // x.2.length≤x.1∧n+1≤x.1∧x.1≤l.length∧x.2++zd7 l x.1=zd7 l (n+1)}) (fun x=>⟨[(2,.ptr 0 0 0),(5,.slc 1 0 x.1.2.length),(6,.i .i64 (x.1.1:Nat))],[some (.blk false [.fs 8 (l.map evc),.fs 1 ((zvg l).map wd),.fs 1 ((upL l).map wd),.fs 1 ((zzs l).map wd)]),some (.row false 1 x.1.2.length (zg wd 0 x.1.2))]⟩) (fun x=>l.length-x.1.1) ⟨(n+1,[]),by simp,Nat.le_refl _,by simp only;omega,rfl⟩ (Ent.ren1 [0,1] (by decide) (by simp only [Yd];exact ⟨za rfl,zlk⟩) (by simp [zi,Vg.look,SV.mapH,muL])) ?_
 rintro ⟨⟨k,q⟩,hq,hk1,hk,hd⟩
 simp only [↓XC,XV,XT,Yg,seval,TES,ks,XRE,XR]
 simp only at hq hk1 hk hd
 refine Chk.mk (fun _=>by omega) fun _=>⟨fun hb=>?_,fun hb=>?_⟩
 ·simp only [Yi] at hb
  have hel:(zvg l).length=l.length:=ug
  have he:=endL_get hp.2 (k:=k) (by omega)
  rw [if_pos hb.2] at he
  rw [he]
  refine ⟨qo rfl rfl,Chk.mk (by omega) fun _=>Chk.mk (by omega) fun _=>⟨fun h=>?_,fun h=>Chk.mk (by omega) fun _=>Chk.mk (by have hr:=zai (l:=l) (l.length-k) k 0 (Nat.le_refl _) (by omega);simp only [inR];omega) fun _=>?_⟩⟩
  ·rw [zcv ⟨by omega,hb.2⟩ h] at hd
   rw [←hd]
   exact ⟨[3],by decide,by simp only [Yd];exact jo (y:=(k:Int)) (fun _=>rfl) rfl (fun _ _=>rfl) rfl,by simp only [↓XC,XV,XT,Yg,seval];try simp [Yf],by simp [zw,SO.ro],by simp⟩
  ·have hr:=zai (l:=l) (l.length-k) k 0 (Nat.le_refl _) (by omega)
   rw [zcu ⟨by omega,hb.2⟩ h] at hd
   refine ⟨⟨((scB l k 0).toNat+1,q++[(k:Int)]),by simp;omega,by simp only;omega,by simp only;omega,by simp only [List.append_assoc,List.singleton_append];exact hd⟩,by simp only;omega, ?_⟩
   simp only [show (((scB l k 0).toNat+1:Nat):Int)=scB l k 0+1 by omega]
   exact (Ent.ren1 [0,3] (by decide) (by simp only [Yd];exact ⟨za rfl,jo (y:=(k:Int)) (fun _=>rfl) rfl (fun _ _=>rfl) rfl⟩) (by simp [zi,Vg.look,SV.mapH,muL]))
 ·rw [zmh (by rintro ⟨h1,h2⟩;rw [h2] at hb;simp at hb;omega),List.append_nil] at hd
  rw [←hd]
  exact ⟨[1],by decide,by simp only [Yd];exact zb fun _=>rfl,by simp only [↓XC,XV,XT,Yg,seval];try simp [Yf],by simp [zw,SO.ro],by simp⟩
theorem zp4 (l:List Ev) (i:Int) (hp:l.length≤1048576):FnK Tryz.prog 34 0 [.fs 8 (l.map evc),.i .i64 i] [] (fun z c=>z=.slc 0 0 (if yf l=true then (if 0≤i∧i<l.length then zat l i.toNat else []) else []).length∧c=[some (.row false 1 (if yf l=true then (if 0≤i∧i<l.length then zat l i.toNat else []) else []).length (zg wd 0 (if yf l=true then (if 0≤i∧i<l.length then zat l i.toNat else []) else [])))]):=by
 refine FnK.ofX (cf:=zk Tryz.prog te [(17,w6),(74,jq)] 12 0 false (fun _=>false) (kp [(0,[0,1]),(1,[0,1,7]),(2,[4]),(3,[4])]) [] []) (zf te_ok (l:=[(17,w6),(74,jq)]) (⟨xb,uz,trivial⟩) zc) Tryz.func34 rfl rfl rfl (by simp [zk]) (by simp [zk]) (rs:=[.tmp 4]) rfl 100000 ?_
 simp only [↓XC,XV,XT,Yg,seval,TES,xc,u0,XRE,XR]
 refine Chk.mk hp fun _=>⟨fun h=>?_,fun h=>?_⟩
 ·rw [if_neg (by simp at h;simp [h])]
  exact ⟨_,Ent.nl (d:=[]) (env':=[(4,.slc 0 0 0)]) [(1,zg wd 0 [])] (by simp [nlE,nlV,Vg.look]) (by simp [nlC]),⟨[0],by decide,by simp only [Yd];exact zb fun _=>rfl,by simp only [↓XC,XV,XT,Yg,seval];try simp [Yf],by simp [zw,SO.ro],by simp⟩⟩
 ·have hn:yf l=true:=by simpa using h
  rw [if_pos (c:=yf l=true) hn]
  refine Chk.mk ⟨hp,hn⟩ fun _=>?_
  refine zj.own (zhw l i ⟨hp,hn⟩) rfl ?_
  simp only [↓XC,XV,XT,Yg,seval,TES,XRE,XR]
  exact FinX.of ⟨[0],by decide,by simp only [Yd];exact zb fun _=>rfl,by simp only [↓XC,XV,XT,Yg,seval];try simp [Yf],by simp [zw,SO.ro],by simp⟩
theorem KidsOf_i (l:List Ev) (i:Int) (hp:l.length≤1048576):PF Tryz.prog 34 [.fs 8 (l.map evc),.i .i64 i] (.fs 1 ((if yf l=true then (if 0≤i∧i<l.length then zat l i.toNat else []) else []).map wd)):=PF.ofOwn (zp4 l i hp) rfl rfl (by simp only [xw,jr,zdi,vm,ye,and_true];exact ⟨⟨by omega,fun j hj=>⟨rfl,rfl⟩⟩,by rw [w8 rfl]⟩)
noncomputable def za4:PE:=peR (fun (x:List Ev×Int)=>match x with | (l,i)=>[.fs 8 (l.map evc),.i .i64 i]) (fun (x:List Ev×Int)=>match x with | (l,i)=>l.length≤1048576) (fun (x:List Ev×Int)=>match x with | (l,i)=>.fs 1 ((if yf l=true then (if 0≤i∧i<l.length then zat l i.toNat else []) else []).map wd))
theorem xe {l:List Ev} {i:Int}:za4 [.fs 8 (l.map evc),.i .i64 i]=some (l.length≤1048576,.fs 1 ((if yf l=true then (if 0≤i∧i<l.length then zat l i.toNat else []) else []).map wd)):=yh (by rintro ⟨a0,a1⟩ ⟨b0,b1⟩ h;simp_all [zbf]) (l,i)
theorem zi5:PE1 Tryz.prog 34 za4:=yl (by rintro ⟨l,i⟩ hp;exact KidsOf_i l i hp)
end Go.T
end
section
set_option linter.unusedVariables false
set_option linter.unusedSimpArgs false
set_option linter.unusedSectionVars false
set_option linter.unnecessarySimpa false
namespace Go.T
variable [Go.Vg.Glob]
open Go.Proofs Go.Vg Go.RowKit Go.TT Go.Pl
set_option maxRecDepth 10000
set_option maxHeartbeats 4000000
end Go.T
end
