/- Own text: part QAW. -/
import Derived.Test.YtgippllfnmdnpaaGreatDoorQAO
import Derived.Test.YtgippllfnmdnpaaGreatDoorQBI
section
set_option linter.unusedVariables false
set_option linter.unusedSimpArgs false
set_option linter.unusedSectionVars false
set_option linter.unnecessarySimpa false
namespace Go.T
variable [Go.Vg.Glob]
open Go.Proofs Go.Vg Go.RowKit Go.TT Go.Pl
set_option maxRecDepth 10000
set_option maxHeartbeats 4000000
theorem isFlow (b:Int):PF Tryz.prog 183 [.i .i64 b] (.b (flw b)):=by
 refine ⟨rfl,rfl,FnK.of (cf:=zk Tryz.prog te [] 21 0 false (fun _=>false) (kp [(0,[0]),(1,[2])]) [] []) (zf te_ok (l:=[]) (trivial) zd) Tryz.func183 rfl rfl rfl (by simp [zk]) (by simp [zk]) (rs:=[.tmp 2]) rfl 100000 ?_⟩
 simp only [↓XC,XV,XT,Yg,seval,TES]
 rfl
noncomputable def q8:PE:=peR (fun (b:Int)=>[.i .i64 b]) (fun (b:Int)=>True) (fun (b:Int)=>.b (flw b))
theorem zy {b:Int}:q8 [.i .i64 b]=some (True,.b (flw b)):=z6 (by rintro a b h;simp_all []) b
theorem jk:PE1 Tryz.prog 183 q8:=yb (by rintro b hp;exact isFlow b)
theorem isName (s:Bs):PF Tryz.prog 148 [.s s] (.b (zw3 s)):=by
 refine ⟨rfl,rfl,FnK.of (cf:=zk Tryz.prog te [(185,y4),(184,qy),(183,q8)] 28 0 false (fun _=>false) (kp [(0,[0]),(1,[0,7]),(2,[2]),(3,[0,9,10]),(4,[0,9,10,11]),(5,[0,3,9,10]),(6,[0,4,9,10]),(7,[0,9,10,26]),(8,[2]),(9,[0,9,10]),(10,[2])]) [] []) (zf te_ok (l:=[(185,y4),(184,qy),(183,q8)]) (⟨q7,ju,jk,trivial⟩) zd) Tryz.func148 rfl rfl rfl (by simp [zk]) (by simp [zk]) (rs:=[.tmp 2]) rfl 100000 ?_⟩
 simp only [↓XC,XV,XT,Yg,seval,TES,zw,wv,zy]
 refine ⟨fun h=>?_,fun h=>?_⟩
 ·simp [zw3];omega
 refine yp.of (ι:={i:Nat // i≤s.length∧∀ j,j<i→nmc (s.getD j 0).toNat=false}) (fun x=>⟨[(0,.s s),(9,.i .i64 (s.length:Nat)),(10,.i .i64 (x.1:Nat))],[]⟩) (fun x=>s.length-x.1) ⟨0,Nat.zero_le _,fun j hj=>absurd hj (Nat.not_lt_zero _)⟩ (Ent.refl _ _) ?_
 rintro ⟨i,hi,hj⟩
 simp only [↓XC,XV,XT,Yg,seval,TES,zw,wv,zy]
 refine ⟨fun hl=>Chk.mk (by omega) fun _=>Chk.mk (by have:=(s.getD i 0).toNat_lt;simp only [inR];omega) fun _=>⟨fun hb=>?_,fun hn=>Chk.mk (by simp only [inR];omega) fun _=>?_⟩,fun hl=>?_⟩
 ·rw [isNm_bad (j:=i) (by omega) hb]
 ·refine ⟨⟨i+1,by omega,zw2 hj hn⟩,by simp only;omega,(by first | exact Ent.refl _ _ | (simp only [Int.natCast_add,Int.natCast_one];exact Ent.refl _ _))⟩
 ·rw [isNm_all (by omega) (by rw [show s.length=i by omega];exact hj)]
noncomputable def zcr:PE:=peR (fun (s:Bs)=>[.s s]) (fun (s:Bs)=>True) (fun (s:Bs)=>.b (zw3 s))
theorem zml {s:Bs}:zcr [.s s]=some (True,.b (zw3 s)):=z6 (by rintro a b h;simp_all []) s
theorem zmk:PE1 Tryz.prog 148 zcr:=yb (by rintro s hp;exact isName s)
theorem eqEv {k st:Int} {fl:Bool} {x a g:Bs} {p c k' st':Int} {fl':Bool} {x' a' g':Bs} {p' c':Int}:eqAt te 4 28 (.agg [.i .i64 k,.i .i64 st,.b fl,.s x,.s a,.s g,.i .i64 p,.i .i64 c]) (.agg [.i .i64 k',.i .i64 st',.b fl',.s x',.s a',.s g',.i .i64 p',.i .i64 c'])=some (decide (k=k')&&(decide (st=st')&&((fl==fl')&&(decide (x=x')&&(decide (a=a')&&(decide (g=g')&&(decide (p=p')&&(decide (c=c')&&true)))))))):=by
 simp [eqAt,eqFs,ztc,te_28,te_3,te_4,te_9,tdOf,TD.isStruct]
theorem zyf (k st:Int) (fl:Bool) (x a g:Bs) (p c:Int):PF Tryz.prog 72 [.agg [.i .i64 k,.i .i64 st,.b fl,.s x,.s a,.s g,.i .i64 p,.i .i64 c]] (.b (zld ⟨k,st,fl,x,a,g,p,c⟩)):=by
 refine ⟨rfl,rfl,FnK.of (cf:=zk Tryz.prog te [(147,qj),(148,zcr)] 98 0 false (fun _=>false) (kp [(0,[1]),(1,[1,3]),(2,[1,3,8]),(3,[2]),(4,[1,3,8,9]),(5,[1,3,8,9]),(6,[1,3,8,9]),(7,[1,3,8,13]),(8,[1,3,8,13]),(9,[1,3]),(10,[1,3,8,19]),(11,[1,3,8,19]),(12,[1,3]),(13,[1,3,34]),(14,[2]),(15,[1,3,8,35]),(16,[1,3]),(17,[1,3,52]),(18,[2]),(19,[1,3,8,53]),(20,[1,3]),(21,[1,3,66]),(22,[2]),(23,[1,3,67]),(24,[1,3]),(25,[1,3,83]),(26,[2]),(27,[2])]) [] [(12,[7,9,11],[1],.q1 0 (.q1 2 (.q1 4 (.q0 1 [1,6,7,8,9,10,11] (.q1 6 (.q1 3 (.q1 5 (.sw (.alt 7 (.q1 8 (.alt 9 (.q1 10 (.alt 11 (.fin) (.fin))) (.fin))) (.fin)))))))))),(16,[9,11,13,15],[1],.q1 0 (.q1 2 (.q1 4 (.q1 6 (.q0 1 [1,8,9,10,11,12,13,14,15] (.q1 8 (.q1 3 (.q1 5 (.q1 7 (.sw (.alt 9 (.q1 10 (.alt 11 (.q1 12 (.alt 13 (.q1 14 (.alt 15 (.fin) (.fin))) (.fin))) (.fin))) (.fin)))))))))))),(24,[5,7],[1],.q1 0 (.q1 2 (.q0 1 [1,4,5,6,7] (.q1 4 (.q1 3 (.sw (.alt 5 (.q1 6 (.alt 7 (.fin) (.fin))) (.fin))))))))]) (zf te_ok (l:=[(147,qj),(148,zcr)]) (⟨w8,zmk,trivial⟩) zd) Tryz.func72 rfl rfl rfl (by simp [zk]) (by simp [zk]) (rs:=[.tmp 2]) rfl 100000 ?_⟩
 simp only [↓XC,XV,XT,Yg,seval,TES,q6,zml,eqEv,List.contains_cons,beq_iff_eq]
 repeat' (first | with_reducible refine Chk.mk ?_ fun _=>?_ | with_reducible refine And.intro ?_ ?_ | intro _)
 all_goals first
  | (with_reducible refine (?_:zlu _ _ _=true);decide +kernel)
  | (exfalso;omega)
  | (simp_all [zld,zku];done)
  | (simp_all [zld,zku];grind)
  | (by_cases ha:a=[]<;>by_cases hg:g=[]<;>simp_all [zld,zku]<;>grind)
noncomputable def xz:PE:=peR (fun (x:Int×Int×Bool×Bs×Bs×Bs×Int×Int)=>match x with | (k,st,fl,x,a,g,p,c)=>[.agg [.i .i64 k,.i .i64 st,.b fl,.s x,.s a,.s g,.i .i64 p,.i .i64 c]]) (fun (x:Int×Int×Bool×Bs×Bs×Bs×Int×Int)=>match x with | (k,st,fl,x,a,g,p,c)=>True) (fun (x:Int×Int×Bool×Bs×Bs×Bs×Int×Int)=>match x with | (k,st,fl,x,a,g,p,c)=>.b (zld ⟨k,st,fl,x,a,g,p,c⟩))
theorem xk {k st:Int} {fl:Bool} {x a g:Bs} {p c:Int}:xz [.agg [.i .i64 k,.i .i64 st,.b fl,.s x,.s a,.s g,.i .i64 p,.i .i64 c]]=some (True,.b (zld ⟨k,st,fl,x,a,g,p,c⟩)):=z6 (by rintro ⟨a0,a1,a2,a3,a4,a5,a6,a7⟩ ⟨b0,b1,b2,b3,b4,b5,b6,b7⟩ h;simp_all []) (k,st,fl,x,a,g,p,c)
theorem zft:PE1 Tryz.prog 72 xz:=yb (by rintro ⟨k,st,fl,x,a,g,p,c⟩ hp;exact zyf k st fl x a g p c)
end Go.T
end
section
set_option linter.unusedVariables false
set_option linter.unusedSimpArgs false
set_option linter.unusedSectionVars false
set_option linter.unnecessarySimpa false
namespace Go.T
variable [Go.Vg.Glob]
open Go.Proofs Go.Vg Go.RowKit Go.TT Go.Pl
set_option maxRecDepth 10000
set_option maxHeartbeats 4000000
end Go.T
end
section
set_option linter.unusedVariables false
set_option linter.unusedSimpArgs false
set_option linter.unusedSectionVars false
set_option linter.unnecessarySimpa false
namespace Go.T
variable [Go.Vg.Glob]
open Go.Proofs Go.Vg Go.RowKit Go.TT Go.Pl
set_option maxRecDepth 10000
set_option maxHeartbeats 4000000
theorem ze4 (d:Int) (o:Stk) (hp:o.length≤1048576∧(tp o).2≤1048576):FnK Tryz.prog 149 3 [.ptr 0 0 0] [some (.blk false [.i .i64 d,.slc 1 0 o.length,.slc 2 0 o.length]),some (.row false 1 o.length (zg wz 0 (o.map kdO))),some (.row false 1 o.length (zg wz 0 (o.map mnO)))] (fun z c=>z=.b (jn d o).1∧c=[some (.blk false [.i .i64 (jn d o).2.1,.slc 1 0 (jn d o).2.2.length,.slc 2 0 (jn d o).2.2.length]),some (.row false 1 (jn d o).2.2.length (zg wz 0 ((jn d o).2.2.map kdO))),some (.row false 1 (jn d o).2.2.length (zg wz 0 ((jn d o).2.2.map mnO)))]):=by
 refine FnK.ofE (cf:=zk Tryz.prog te [] 31 3 false (fun _=>false) (kp [(0,[0]),(1,[0,3]),(2,[0,3,11]),(3,[]),(4,[2]),(5,[0,4]),(6,[4]),(7,[2])]) [] []) (zf te_ok (l:=[]) (trivial) zd) Tryz.func149 rfl rfl rfl (by simp [zk]) (by simp [zk]) (rs:=[.tmp 2]) rfl 100000 ?_
 simp only [↓XC,XV,XT,Yg,reduceIte,Nat.reduceAdd,Nat.reduceLT,Nat.reduceEqDiff,Nat.reduceBEq,Nat.reduceLeDiff,reduceCtorEq,Nat.reduceSub,Nat.reduceMul,Int.reduceToNat,Int.reduceLT,Int.reduceLE,TES,XR]
 refine ⟨fun h=>?_,fun h=>?_⟩
 ·have hl:0<o.length:=by omega
  have hne:o≠[]:=List.length_pos_iff.1 hl
  simp only [show ((o.length:Int)-1).toNat=o.length-1 by omega,mn_top,jn,if_neg hne,incr_kd hne,incr_mn hne,zga]
  refine Chk.mk (by simp only [inR];omega) fun _=>Chk.mk (by omega) fun _=>Chk.mk (by omega) fun _=>Chk.mk (by simp only [inR];omega) fun _=>Chk.mk (by omega) fun _=>Chk.mk (by omega) fun _=>?_
  exact ⟨[0,1,2],by decide,by simp only [Yd];refine ⟨?_, ?_, ?_⟩;(exact zb rfl);(exact za fun _=>rfl);(exact zh fun j hj=>by simp only [zg,zgd _ _ _ _ _ (show o.length-1<(o.map mnO).length by simp;omega)];split<;>rfl),by simp only [↓XC,XV,XT,Yg,reduceIte,Nat.reduceAdd,Nat.reduceLT,Nat.reduceEqDiff,Nat.reduceBEq,Nat.reduceLeDiff,reduceCtorEq,Nat.reduceSub,Nat.reduceMul,Int.reduceToNat,Int.reduceLT,Int.reduceLE];try simp [Yf],by simp [ye,SO.ro],by simp⟩
 ·obtain rfl:o=[]:=List.length_eq_zero_iff.1 (by omega)
  simp only [jn,if_true]
  exact ⟨[0,1,2],by decide,by simp only [Yd];refine ⟨?_, ?_, ?_⟩;(exact zb rfl);(exact za fun _=>rfl);(exact za fun _=>rfl),by simp only [↓XC,XV,XT,Yg,reduceIte,Nat.reduceAdd,Nat.reduceLT,Nat.reduceEqDiff,Nat.reduceBEq,Nat.reduceLeDiff,reduceCtorEq,Nat.reduceSub,Nat.reduceMul,Int.reduceToNat,Int.reduceLT,Int.reduceLE];try simp [Yf],by simp [ye,SO.ro],by simp⟩
theorem nst_ends (d:Int) (o:Stk) (hp:o.length≤1048576):FnK Tryz.prog 150 3 [.ptr 0 0 0] [some (.blk false [.i .i64 d,.slc 1 0 o.length,.slc 2 0 o.length]),some (.row false 1 o.length (zg wz 0 (o.map kdO))),some (.row false 1 o.length (zg wz 0 (o.map mnO)))] (fun z c=>z=.b (ndEnds o)∧c=[some (.blk false [.i .i64 d,.slc 1 0 (if ndEnds o then pop o else o).length,.slc 2 0 (if ndEnds o then pop o else o).length]),some (.row false 1 (if ndEnds o then pop o else o).length (zg wz 0 ((if ndEnds o then pop o else o).map kdO))),some (.row false 1 (if ndEnds o then pop o else o).length (zg wz 0 ((if ndEnds o then pop o else o).map mnO)))]):=by
 refine FnK.ofE (cf:=zk Tryz.prog te [] 51 3 false (fun _=>false) (kp [(0,[0]),(1,[0,3]),(2,[0,3,32]),(3,[2]),(4,[]),(5,[2])]) [] [(4,[16,19],[0],.q1 0 (.q1 1 (.q1 2 (.q1 3 (.q1 4 (.q1 6 (.q1 8 (.q1 9 (.q1 10 (.q1 12 (.q0 5 [5,7,14,15,16,17,18,19] (.q0 7 [7,14,15,16,17,18,19] (.q0 11 [11,13,14,15,16,17,18,19] (.q1 13 (.q1 14 (.q1 15 (.sw (.alt 16 (.q1 17 (.q1 18 (.alt 19 (.fin) (.fin)))) (.fin)))))))))))))))))))]) (zf te_ok (l:=[]) (trivial) zd) Tryz.func150 rfl rfl rfl (by simp [zk]) (by simp [zk]) (rs:=[.tmp 2]) rfl 100000 ?_
 simp only [↓XC,XV,XT,Yg,reduceIte,Nat.reduceAdd,Nat.reduceLT,Nat.reduceEqDiff,Nat.reduceBEq,Nat.reduceLeDiff,reduceCtorEq,Nat.reduceSub,Nat.reduceMul,Int.reduceToNat,Int.reduceLT,Int.reduceLE,TES,XR]
 have e2:((tp o).2:Int).tmod 2=((tp o).2 % 2:Nat):=tmod_nat _ 2
 by_cases h0:o.length=0
 ·have hb:=zio (o:=o) (.inl h0)
  have h1:((o.length:Int)-1<0):=by omega
  simp only [hb,h1,decide_true,Bool.not_true,Bool.false_and,Bool.true_or,Bool.false_eq_true,if_false,forall_const,false_implies,zk9,and_true,if_neg]
  exact Chk.mk (by simp only [inR];omega) fun _=>⟨⟨[0,1,2],by decide,by simp only [Yd];refine ⟨?_, ?_, ?_⟩;(exact zb rfl);(exact za fun _=>rfl);(exact za fun _=>rfl),by simp only [↓XC,XV,XT,Yg,reduceIte,Nat.reduceAdd,Nat.reduceLT,Nat.reduceEqDiff,Nat.reduceBEq,Nat.reduceLeDiff,reduceCtorEq,Nat.reduceSub,Nat.reduceMul,Int.reduceToNat,Int.reduceLT,Int.reduceLE];try simp [Yf],by simp [ye,SO.ro],by simp⟩,fun h=>by cases h⟩
 have h1:¬((o.length:Int)-1<0):=by omega
 simp only [show ((o.length:Int)-1).toNat=o.length-1 by omega,mn_top,kd_top (show 0<o.length by omega),e2,h1,decide_false,Bool.not_false,Bool.true_and,Bool.false_or]
 refine Chk.mk (by simp only [inR];omega) fun _=>Chk.mk (fun _=>by omega) fun _=>Chk.mk (fun _=>by omega) fun _=>Chk.mk (fun _=>by omega) fun _=>Chk.mk (fun _=>by omega) fun _=>Chk.mk (fun _=>by omega) fun _=>⟨fun h=>?_,fun h=>⟨by decide +kernel,Chk.mk (by omega) fun _=>Chk.mk (by omega) fun _=>?_⟩⟩
 ·have hb:ndEnds o=false:=zio (.inr (by simp at h;omega))
  simp only [hb,Bool.false_eq_true,if_false]
  exact ⟨[0,1,2],by decide,by simp only [Yd];refine ⟨?_, ?_, ?_⟩;(exact zb rfl);(exact za fun _=>rfl);(exact za fun _=>rfl),by simp only [↓XC,XV,XT,Yg,reduceIte,Nat.reduceAdd,Nat.reduceLT,Nat.reduceEqDiff,Nat.reduceBEq,Nat.reduceLeDiff,reduceCtorEq,Nat.reduceSub,Nat.reduceMul,Int.reduceToNat,Int.reduceLT,Int.reduceLE];try simp [Yf],by simp [ye,SO.ro],by simp⟩
 ·have hb:ndEnds o=true:=zo1 (by simp at h;omega)
  simp only [hb,if_true,v8,Nat.sub_zero]
  exact ⟨[0,1,2],by decide,by simp only [Yd];refine ⟨?_, ?_, ?_⟩;(exact zb rfl);(exact ww (by omega) fun j hj=>by simp only [zg,zvo _ (show j<(pop o).length by rw [v8];exact hj)]<;>rfl);(exact ww (by omega) fun j hj=>by simp only [zg,zvo _ (show j<(pop o).length by rw [v8];exact hj)]<;>rfl),by simp only [↓XC,XV,XT,Yg,reduceIte,Nat.reduceAdd,Nat.reduceLT,Nat.reduceEqDiff,Nat.reduceBEq,Nat.reduceLeDiff,reduceCtorEq,Nat.reduceSub,Nat.reduceMul,Int.reduceToNat,Int.reduceLT,Int.reduceLE];try simp [Yf],by simp [ye,SO.ro],by simp⟩
theorem zwe (d:Int) (o:Stk) (k st:Int) (fl:Bool) (x a g:Bs) (p c:Int) (hp:o.length≤1048576∧(tp o).2≤1048576):FnK Tryz.prog 73 1 [.ptr 0 0 0,.agg [.i .i64 k,.i .i64 st,.b fl,.s x,.s a,.s g,.i .i64 p,.i .i64 c]] [some (.blk false [.i .i64 d,.slc 1 0 o.length,.slc 2 0 o.length]),some (.row false 1 o.length (zg wz 0 (o.map kdO))),some (.row false 1 o.length (zg wz 0 (o.map mnO)))] (fun z c=>z=.b (zcx d o k).1∧c=[some (.blk false [.i .i64 (zcx d o k).2.1,.slc 1 0 (zcx d o k).2.2.length,.slc 2 0 (zcx d o k).2.2.length]),some (.row false 1 (zcx d o k).2.2.length (zg wz 0 ((zcx d o k).2.2.map kdO))),some (.row false 1 (zcx d o k).2.2.length (zg wz 0 ((zcx d o k).2.2.map mnO)))]):=by
 refine FnK.ofE (cf:=zk Tryz.prog te [] 78 1 false (fun _=>false) (kp [(0,[0,3]),(1,[0,3,5]),(2,[0,3,5,16]),(3,[0,3,5,16,17]),(4,[0,6]),(5,[6]),(6,[4]),(7,[0,3,5,16,28]),(8,[0,3,5,16,28]),(9,[4]),(10,[0,3,5,16,33]),(11,[0,3,5,16,33]),(12,[0,3,7]),(13,[7]),(14,[4]),(15,[0,5,16,59]),(16,[4]),(17,[0,5,63]),(18,[0,8]),(19,[8]),(20,[4]),(21,[4])]) [] [(13,[5,8,9,13,14,15,18,21],[0,1,2],.q1 0 (.q1 1 (.q1 2 (.q1 3 (.q1 4 (.q1 6 (.q1 10 (.q1 11 (.q1 12 (.q1 7 (.sw (.alt 5 (.alt 8 (.alt 9 (.alt 13 (.alt 14 (.alt 15 (.q1 16 (.q1 17 (.alt 18 (.q1 19 (.q1 20 (.alt 21 (.fin) (.fin)))) (.fin)))) (.fin)) (.fin)) (.alt 14 (.alt 13 (.alt 15 (.q1 16 (.q1 17 (.alt 18 (.q1 19 (.q1 20 (.alt 21 (.fin) (.fin)))) (.fin)))) (.fin)) (.fin)) (.fin))) (.alt 13 (.alt 9 (.alt 14 (.alt 15 (.q1 16 (.q1 17 (.alt 18 (.q1 19 (.q1 20 (.alt 21 (.fin) (.fin)))) (.fin)))) (.fin)) (.fin)) (.alt 14 (.alt 9 (.alt 15 (.q1 16 (.q1 17 (.alt 18 (.q1 19 (.q1 20 (.alt 21 (.fin) (.fin)))) (.fin)))) (.fin)) (.fin)) (.fin))) (.alt 14 (.alt 9 (.alt 13 (.alt 15 (.q1 16 (.q1 17 (.alt 18 (.q1 19 (.q1 20 (.alt 21 (.fin) (.fin)))) (.fin)))) (.fin)) (.fin)) (.alt 13 (.alt 9 (.alt 15 (.q1 16 (.q1 17 (.alt 18 (.q1 19 (.q1 20 (.alt 21 (.fin) (.fin)))) (.fin)))) (.fin)) (.fin)) (.fin))) (.fin)))) (.alt 13 (.alt 8 (.alt 9 (.alt 14 (.alt 15 (.q1 16 (.q1 17 (.alt 18 (.q1 19 (.q1 20 (.alt 21 (.fin) (.fin)))) (.fin)))) (.fin)) (.fin)) (.alt 14 (.alt 9 (.alt 15 (.q1 16 (.q1 17 (.alt 18 (.q1 19 (.q1 20 (.alt 21 (.fin) (.fin)))) (.fin)))) (.fin)) (.fin)) (.fin))) (.alt 14 (.alt 8 (.alt 9 (.alt 15 (.q1 16 (.q1 17 (.alt 18 (.q1 19 (.q1 20 (.alt 21 (.fin) (.fin)))) (.fin)))) (.fin)) (.fin)) (.fin)) (.fin))) (.alt 14 (.alt 8 (.alt 9 (.alt 13 (.alt 15 (.q1 16 (.q1 17 (.alt 18 (.q1 19 (.q1 20 (.alt 21 (.fin) (.fin)))) (.fin)))) (.fin)) (.fin)) (.alt 13 (.alt 9 (.alt 15 (.q1 16 (.q1 17 (.alt 18 (.q1 19 (.q1 20 (.alt 21 (.fin) (.fin)))) (.fin)))) (.fin)) (.fin)) (.fin))) (.alt 13 (.alt 8 (.alt 9 (.alt 15 (.q1 16 (.q1 17 (.alt 18 (.q1 19 (.q1 20 (.alt 21 (.fin) (.fin)))) (.fin)))) (.fin)) (.fin)) (.fin)) (.fin))) (.fin)))) (.alt 8 (.alt 5 (.alt 9 (.alt 13 (.alt 14 (.alt 15 (.q1 16 (.q1 17 (.alt 18 (.q1 19 (.q1 20 (.alt 21 (.fin) (.fin)))) (.fin)))) (.fin)) (.fin)) (.alt 14 (.alt 13 (.alt 15 (.q1 16 (.q1 17 (.alt 18 (.q1 19 (.q1 20 (.alt 21 (.fin) (.fin)))) (.fin)))) (.fin)) (.fin)) (.fin))) (.alt 13 (.alt 9 (.alt 14 (.alt 15 (.q1 16 (.q1 17 (.alt 18 (.q1 19 (.q1 20 (.alt 21 (.fin) (.fin)))) (.fin)))) (.fin)) (.fin)) (.alt 14 (.alt 9 (.alt 15 (.q1 16 (.q1 17 (.alt 18 (.q1 19 (.q1 20 (.alt 21 (.fin) (.fin)))) (.fin)))) (.fin)) (.fin)) (.fin))) (.alt 14 (.alt 9 (.alt 13 (.alt 15 (.q1 16 (.q1 17 (.alt 18 (.q1 19 (.q1 20 (.alt 21 (.fin) (.fin)))) (.fin)))) (.fin)) (.fin)) (.alt 13 (.alt 9 (.alt 15 (.q1 16 (.q1 17 (.alt 18 (.q1 19 (.q1 20 (.alt 21 (.fin) (.fin)))) (.fin)))) (.fin)) (.fin)) (.fin))) (.fin)))) (.alt 13 (.alt 5 (.alt 9 (.alt 14 (.alt 15 (.q1 16 (.q1 17 (.alt 18 (.q1 19 (.q1 20 (.alt 21 (.fin) (.fin)))) (.fin)))) (.fin)) (.fin)) (.alt 14 (.alt 9 (.alt 15 (.q1 16 (.q1 17 (.alt 18 (.q1 19 (.q1 20 (.alt 21 (.fin) (.fin)))) (.fin)))) (.fin)) (.fin)) (.fin))) (.alt 14 (.alt 5 (.alt 9 (.alt 15 (.q1 16 (.q1 17 (.alt 18 (.q1 19 (.q1 20 (.alt 21 (.fin) (.fin)))) (.fin)))) (.fin)) (.fin)) (.fin)) (.fin))) (.alt 14 (.alt 5 (.alt 9 (.alt 13 (.alt 15 (.q1 16 (.q1 17 (.alt 18 (.q1 19 (.q1 20 (.alt 21 (.fin) (.fin)))) (.fin)))) (.fin)) (.fin)) (.alt 13 (.alt 9 (.alt 15 (.q1 16 (.q1 17 (.alt 18 (.q1 19 (.q1 20 (.alt 21 (.fin) (.fin)))) (.fin)))) (.fin)) (.fin)) (.fin))) (.alt 13 (.alt 5 (.alt 9 (.alt 15 (.q1 16 (.q1 17 (.alt 18 (.q1 19 (.q1 20 (.alt 21 (.fin) (.fin)))) (.fin)))) (.fin)) (.fin)) (.fin)) (.fin))) (.fin)))) (.alt 13 (.alt 5 (.alt 8 (.alt 9 (.alt 14 (.alt 15 (.q1 16 (.q1 17 (.alt 18 (.q1 19 (.q1 20 (.alt 21 (.fin) (.fin)))) (.fin)))) (.fin)) (.fin)) (.alt 14 (.alt 9 (.alt 15 (.q1 16 (.q1 17 (.alt 18 (.q1 19 (.q1 20 (.alt 21 (.fin) (.fin)))) (.fin)))) (.fin)) (.fin)) (.fin))) (.alt 14 (.alt 8 (.alt 9 (.alt 15 (.q1 16 (.q1 17 (.alt 18 (.q1 19 (.q1 20 (.alt 21 (.fin) (.fin)))) (.fin)))) (.fin)) (.fin)) (.fin)) (.fin))) (.alt 8 (.alt 5 (.alt 9 (.alt 14 (.alt 15 (.q1 16 (.q1 17 (.alt 18 (.q1 19 (.q1 20 (.alt 21 (.fin) (.fin)))) (.fin)))) (.fin)) (.fin)) (.alt 14 (.alt 9 (.alt 15 (.q1 16 (.q1 17 (.alt 18 (.q1 19 (.q1 20 (.alt 21 (.fin) (.fin)))) (.fin)))) (.fin)) (.fin)) (.fin))) (.alt 14 (.alt 5 (.alt 9 (.alt 15 (.q1 16 (.q1 17 (.alt 18 (.q1 19 (.q1 20 (.alt 21 (.fin) (.fin)))) (.fin)))) (.fin)) (.fin)) (.fin)) (.fin))) (.alt 14 (.alt 5 (.alt 8 (.alt 9 (.alt 15 (.q1 16 (.q1 17 (.alt 18 (.q1 19 (.q1 20 (.alt 21 (.fin) (.fin)))) (.fin)))) (.fin)) (.fin)) (.fin)) (.alt 8 (.alt 5 (.alt 9 (.alt 15 (.q1 16 (.q1 17 (.alt 18 (.q1 19 (.q1 20 (.alt 21 (.fin) (.fin)))) (.fin)))) (.fin)) (.fin)) (.fin)) (.fin))) (.fin)))) (.alt 14 (.alt 5 (.alt 8 (.alt 9 (.alt 13 (.alt 15 (.q1 16 (.q1 17 (.alt 18 (.q1 19 (.q1 20 (.alt 21 (.fin) (.fin)))) (.fin)))) (.fin)) (.fin)) (.alt 13 (.alt 9 (.alt 15 (.q1 16 (.q1 17 (.alt 18 (.q1 19 (.q1 20 (.alt 21 (.fin) (.fin)))) (.fin)))) (.fin)) (.fin)) (.fin))) (.alt 13 (.alt 8 (.alt 9 (.alt 15 (.q1 16 (.q1 17 (.alt 18 (.q1 19 (.q1 20 (.alt 21 (.fin) (.fin)))) (.fin)))) (.fin)) (.fin)) (.fin)) (.fin))) (.alt 8 (.alt 5 (.alt 9 (.alt 13 (.alt 15 (.q1 16 (.q1 17 (.alt 18 (.q1 19 (.q1 20 (.alt 21 (.fin) (.fin)))) (.fin)))) (.fin)) (.fin)) (.alt 13 (.alt 9 (.alt 15 (.q1 16 (.q1 17 (.alt 18 (.q1 19 (.q1 20 (.alt 21 (.fin) (.fin)))) (.fin)))) (.fin)) (.fin)) (.fin))) (.alt 13 (.alt 5 (.alt 9 (.alt 15 (.q1 16 (.q1 17 (.alt 18 (.q1 19 (.q1 20 (.alt 21 (.fin) (.fin)))) (.fin)))) (.fin)) (.fin)) (.fin)) (.fin))) (.alt 13 (.alt 5 (.alt 8 (.alt 9 (.alt 15 (.q1 16 (.q1 17 (.alt 18 (.q1 19 (.q1 20 (.alt 21 (.fin) (.fin)))) (.fin)))) (.fin)) (.fin)) (.fin)) (.alt 8 (.alt 5 (.alt 9 (.alt 15 (.q1 16 (.q1 17 (.alt 18 (.q1 19 (.q1 20 (.alt 21 (.fin) (.fin)))) (.fin)))) (.fin)) (.fin)) (.fin)) (.fin))) (.fin)))) (.fin))))))))))))))))]) (zf te_ok (l:=[]) (trivial) zd) Tryz.func73 rfl rfl rfl (by simp [zk]) (by simp [zk]) (rs:=[.tmp 4]) rfl 100000 ?_
 simp only [↓XC,XV,XT,Yg,reduceIte,Nat.reduceAdd,Nat.reduceLT,Nat.reduceEqDiff,Nat.reduceBEq,Nat.reduceLeDiff,reduceCtorEq,Nat.reduceSub,Nat.reduceMul,Int.reduceToNat,Int.reduceLT,Int.reduceLE,TES,XR]
 by_cases e2:k=2
 ·subst e2
  simp only [Int.reduceEq,eq_self,forall_const,true_implies,not_true_eq_false,not_false_eq_true,false_implies,implies_true,and_true,true_and,or_true,true_or,or_false,false_or,decide_true,decide_false,if_true,if_false,reduceIte,zcx,reduceCtorEq]
  exact ⟨[0,1,2],by decide,by simp only [Yd];refine ⟨?_, ?_, ?_⟩;(exact zb rfl);(exact za fun _=>rfl);(exact za fun _=>rfl),by simp only [↓XC,XV,XT,Yg,reduceIte,Nat.reduceAdd,Nat.reduceLT,Nat.reduceEqDiff,Nat.reduceBEq,Nat.reduceLeDiff,reduceCtorEq,Nat.reduceSub,Nat.reduceMul,Int.reduceToNat,Int.reduceLT,Int.reduceLE];try simp [Yf],by simp [ye,SO.ro],by simp⟩
 by_cases e5:k=5
 ·subst e5
  simp only [Int.reduceEq,eq_self,forall_const,true_implies,not_true_eq_false,not_false_eq_true,false_implies,implies_true,and_true,true_and,or_true,true_or,or_false,false_or,decide_true,decide_false,if_true,if_false,reduceIte,zcx,reduceCtorEq]
  refine yv.mut (ze4 d o hp) rfl [0,1,2] (by simp [Yf]) (by simp only [Ye];exact ⟨by omega,zb rfl,by omega,za fun _=>rfl,by omega,za fun _=>rfl⟩) (by decide) ?_
  simp only [↓XC,XV,XT,Yg,reduceIte,Nat.reduceAdd,Nat.reduceLT,Nat.reduceEqDiff,Nat.reduceBEq,Nat.reduceLeDiff,reduceCtorEq,Nat.reduceSub,Nat.reduceMul,Int.reduceToNat,Int.reduceLT,Int.reduceLE,TES,XR,SO.mapH,List.getElem?_cons_zero,List.getElem?_cons_succ,k8,upd,muL,List.getElem?_nil,List.drop_nil,Option.map_none]
  exact ⟨[0,1,2],by decide,by simp only [Yd];refine ⟨?_, ?_, ?_⟩;(exact zb rfl);(exact za fun _=>rfl);(exact za fun _=>rfl),by simp only [↓XC,XV,XT,Yg,reduceIte,Nat.reduceAdd,Nat.reduceLT,Nat.reduceEqDiff,Nat.reduceBEq,Nat.reduceLeDiff,reduceCtorEq,Nat.reduceSub,Nat.reduceMul,Int.reduceToNat,Int.reduceLT,Int.reduceLE];try simp [Yf],by simp [ye,SO.ro],by simp⟩
 by_cases e6:k=6
 ·subst e6
  simp only [Int.reduceEq,eq_self,forall_const,true_implies,not_true_eq_false,not_false_eq_true,false_implies,implies_true,and_true,true_and,or_true,true_or,or_false,false_or,decide_true,decide_false,if_true,if_false,reduceIte,zcx,reduceCtorEq]
  refine yv.mut (ze4 d o hp) rfl [0,1,2] (by simp [Yf]) (by simp only [Ye];exact ⟨by omega,zb rfl,by omega,za fun _=>rfl,by omega,za fun _=>rfl⟩) (by decide) ?_
  simp only [↓XC,XV,XT,Yg,reduceIte,Nat.reduceAdd,Nat.reduceLT,Nat.reduceEqDiff,Nat.reduceBEq,Nat.reduceLeDiff,reduceCtorEq,Nat.reduceSub,Nat.reduceMul,Int.reduceToNat,Int.reduceLT,Int.reduceLE,TES,XR,SO.mapH,List.getElem?_cons_zero,List.getElem?_cons_succ,k8,upd,muL,List.getElem?_nil,List.drop_nil,Option.map_none]
  exact ⟨[0,1,2],by decide,by simp only [Yd];refine ⟨?_, ?_, ?_⟩;(exact zb rfl);(exact za fun _=>rfl);(exact za fun _=>rfl),by simp only [↓XC,XV,XT,Yg,reduceIte,Nat.reduceAdd,Nat.reduceLT,Nat.reduceEqDiff,Nat.reduceBEq,Nat.reduceLeDiff,reduceCtorEq,Nat.reduceSub,Nat.reduceMul,Int.reduceToNat,Int.reduceLT,Int.reduceLE];try simp [Yf],by simp [ye,SO.ro],by simp⟩
 by_cases e7:k=7
 ·subst e7
  simp only [Int.reduceEq,eq_self,forall_const,true_implies,not_true_eq_false,not_false_eq_true,false_implies,implies_true,and_true,true_and,or_true,true_or,or_false,false_or,decide_true,decide_false,if_true,if_false,reduceIte,zcx,reduceCtorEq]
  refine yv.mut (nst_ends d o hp.1) rfl [0,1,2] (by simp [Yf]) (by simp only [Ye];exact ⟨by omega,zb rfl,by omega,za fun _=>rfl,by omega,za fun _=>rfl⟩) (by decide) ?_
  simp only [↓XC,XV,XT,Yg,reduceIte,Nat.reduceAdd,Nat.reduceLT,Nat.reduceEqDiff,Nat.reduceBEq,Nat.reduceLeDiff,reduceCtorEq,Nat.reduceSub,Nat.reduceMul,Int.reduceToNat,Int.reduceLT,Int.reduceLE,TES,XR,SO.mapH,List.getElem?_cons_zero,List.getElem?_cons_succ,k8,upd,muL,List.getElem?_nil,List.drop_nil,Option.map_none]
  have hb:ndEnds o=true∨ndEnds o=false:=by cases ndEnds o<;>simp
  rcases hb with hb | hb<;>(simp only [hb,if_true,Bool.false_eq_true,if_false];exact ⟨[0,1,2],by decide,by simp only [Yd];refine ⟨?_, ?_, ?_⟩;(exact zb rfl);(exact za fun _=>rfl);(exact za fun _=>rfl),by simp only [↓XC,XV,XT,Yg,reduceIte,Nat.reduceAdd,Nat.reduceLT,Nat.reduceEqDiff,Nat.reduceBEq,Nat.reduceLeDiff,reduceCtorEq,Nat.reduceSub,Nat.reduceMul,Int.reduceToNat,Int.reduceLT,Int.reduceLE];try simp [Yf],by simp [ye,SO.ro],by simp⟩)
 by_cases e8:k=8
 ·subst e8
  simp only [Int.reduceEq,eq_self,forall_const,true_implies,not_true_eq_false,not_false_eq_true,false_implies,implies_true,and_true,true_and,or_true,true_or,or_false,false_or,decide_true,decide_false,if_true,if_false,reduceIte,zcx,reduceCtorEq]
  rw [show decide (o=[])=!decide ((o.length:Int)>0) by cases o<;>simp]
  exact ⟨[0,1,2],by decide,by simp only [Yd];refine ⟨?_, ?_, ?_⟩;(exact zb rfl);(exact za fun _=>rfl);(exact za fun _=>rfl),by simp only [↓XC,XV,XT,Yg,reduceIte,Nat.reduceAdd,Nat.reduceLT,Nat.reduceEqDiff,Nat.reduceBEq,Nat.reduceLeDiff,reduceCtorEq,Nat.reduceSub,Nat.reduceMul,Int.reduceToNat,Int.reduceLT,Int.reduceLE];try simp [Yf],by simp [ye,SO.ro],by simp⟩
 by_cases e3:k=3
 ·subst e3
  simp only [Int.reduceEq,eq_self,forall_const,true_implies,not_true_eq_false,not_false_eq_true,false_implies,implies_true,and_true,true_and,or_true,true_or,or_false,false_or,decide_true,decide_false,if_true,if_false,reduceIte,zcx,reduceCtorEq]
  refine yv.mut (ze4 d o hp) rfl [0,1,2] (by simp [Yf]) (by simp only [Ye];exact ⟨by omega,zb rfl,by omega,za fun _=>rfl,by omega,za fun _=>rfl⟩) (by decide) ?_
  simp only [↓XC,XV,XT,Yg,reduceIte,Nat.reduceAdd,Nat.reduceLT,Nat.reduceEqDiff,Nat.reduceBEq,Nat.reduceLeDiff,reduceCtorEq,Nat.reduceSub,Nat.reduceMul,Int.reduceToNat,Int.reduceLT,Int.reduceLE,TES,XR,SO.mapH,List.getElem?_cons_zero,List.getElem?_cons_succ,k8,upd,muL,List.getElem?_nil,List.drop_nil,Option.map_none]
  refine ⟨by decide +kernel, ?_⟩
  simp only [Int.reduceEq,reduceIte,or_false,or_true,decide_true,decide_false]
  have hl:=un (d:=d) (o:=o)
  generalize jn d o=r at *
  obtain ⟨b',d',o'⟩:=r
  simp only at hl ⊢
  repeat' (first | with_reducible refine Chk.mk ?_ fun _=>?_ | with_reducible refine And.intro ?_ ?_)
  all_goals first | exact qi rfl rfl | omega | (first | (refine ⟨[0,5,7],by decide,by simp only [Yd];refine ⟨?_, ?_, ?_⟩;(exact zb (by simp [Yf]));(exact kg (fun _=>rfl) rfl (fun _ _=>rfl) rfl rfl);(exact kg (fun _=>rfl) rfl (fun _ _=>rfl) rfl rfl),by simp only [↓XC,XV,XT,Yg,reduceIte,Nat.reduceAdd,Nat.reduceLT,Nat.reduceEqDiff,Nat.reduceBEq,Nat.reduceLeDiff,reduceCtorEq,Nat.reduceSub,Nat.reduceMul,Int.reduceToNat,Int.reduceLT,Int.reduceLE];try simp [Yf],by simp [ye,SO.ro],by simp⟩) | (refine ⟨[0,6,7],by decide,by simp only [Yd];refine ⟨?_, ?_, ?_⟩;(exact zb (by simp [Yf]));(exact kg (fun _=>rfl) rfl (fun _ _=>rfl) rfl rfl);(exact kg (fun _=>rfl) rfl (fun _ _=>rfl) rfl rfl),by simp only [↓XC,XV,XT,Yg,reduceIte,Nat.reduceAdd,Nat.reduceLT,Nat.reduceEqDiff,Nat.reduceBEq,Nat.reduceLeDiff,reduceCtorEq,Nat.reduceSub,Nat.reduceMul,Int.reduceToNat,Int.reduceLT,Int.reduceLE];try simp [Yf],by simp [ye,SO.ro],by simp⟩))
 by_cases e4:k=4
 ·subst e4
  simp only [Int.reduceEq,eq_self,forall_const,true_implies,not_true_eq_false,not_false_eq_true,false_implies,implies_true,and_true,true_and,or_true,true_or,or_false,false_or,decide_true,decide_false,if_true,if_false,reduceIte,zcx,reduceCtorEq]
  refine yv.mut (ze4 d o hp) rfl [0,1,2] (by simp [Yf]) (by simp only [Ye];exact ⟨by omega,zb rfl,by omega,za fun _=>rfl,by omega,za fun _=>rfl⟩) (by decide) ?_
  simp only [↓XC,XV,XT,Yg,reduceIte,Nat.reduceAdd,Nat.reduceLT,Nat.reduceEqDiff,Nat.reduceBEq,Nat.reduceLeDiff,reduceCtorEq,Nat.reduceSub,Nat.reduceMul,Int.reduceToNat,Int.reduceLT,Int.reduceLE,TES,XR,SO.mapH,List.getElem?_cons_zero,List.getElem?_cons_succ,k8,upd,muL,List.getElem?_nil,List.drop_nil,Option.map_none]
  refine ⟨by decide +kernel, ?_⟩
  simp only [Int.reduceEq,reduceIte,or_false,or_true,decide_true,decide_false]
  have hl:=un (d:=d) (o:=o)
  generalize jn d o=r at *
  obtain ⟨b',d',o'⟩:=r
  simp only at hl ⊢
  repeat' (first | with_reducible refine Chk.mk ?_ fun _=>?_ | with_reducible refine And.intro ?_ ?_)
  all_goals first | exact qi rfl rfl | omega | (first | (refine ⟨[0,5,7],by decide,by simp only [Yd];refine ⟨?_, ?_, ?_⟩;(exact zb (by simp [Yf]));(exact kg (fun _=>rfl) rfl (fun _ _=>rfl) rfl rfl);(exact kg (fun _=>rfl) rfl (fun _ _=>rfl) rfl rfl),by simp only [↓XC,XV,XT,Yg,reduceIte,Nat.reduceAdd,Nat.reduceLT,Nat.reduceEqDiff,Nat.reduceBEq,Nat.reduceLeDiff,reduceCtorEq,Nat.reduceSub,Nat.reduceMul,Int.reduceToNat,Int.reduceLT,Int.reduceLE];try simp [Yf],by simp [ye,SO.ro],by simp⟩) | (refine ⟨[0,6,7],by decide,by simp only [Yd];refine ⟨?_, ?_, ?_⟩;(exact zb (by simp [Yf]));(exact kg (fun _=>rfl) rfl (fun _ _=>rfl) rfl rfl);(exact kg (fun _=>rfl) rfl (fun _ _=>rfl) rfl rfl),by simp only [↓XC,XV,XT,Yg,reduceIte,Nat.reduceAdd,Nat.reduceLT,Nat.reduceEqDiff,Nat.reduceBEq,Nat.reduceLeDiff,reduceCtorEq,Nat.reduceSub,Nat.reduceMul,Int.reduceToNat,Int.reduceLT,Int.reduceLE];try simp [Yf],by simp [ye,SO.ro],by simp⟩))
 simp only [e2,e5,e6,e7,e8,e3,e4,Int.reduceEq,eq_self,forall_const,true_implies,not_true_eq_false,not_false_eq_true,false_implies,implies_true,and_true,true_and,or_true,true_or,or_false,false_or,decide_true,decide_false,if_true,if_false,reduceIte,zcx,reduceCtorEq]
 exact ⟨[0,1,2],by decide,by simp only [Yd];refine ⟨?_, ?_, ?_⟩;(exact zb rfl);(exact za fun _=>rfl);(exact za fun _=>rfl),by simp only [↓XC,XV,XT,Yg,reduceIte,Nat.reduceAdd,Nat.reduceLT,Nat.reduceEqDiff,Nat.reduceBEq,Nat.reduceLeDiff,reduceCtorEq,Nat.reduceSub,Nat.reduceMul,Int.reduceToNat,Int.reduceLT,Int.reduceLE];try simp [Yf],by simp [ye,SO.ro],by simp⟩
end Go.T
end
section
set_option linter.unusedVariables false
set_option linter.unusedSimpArgs false
set_option linter.unusedSectionVars false
set_option linter.unnecessarySimpa false
namespace Go.T
variable [Go.Vg.Glob]
open Go.Proofs Go.Vg Go.RowKit Go.TT Go.Pl
set_option maxRecDepth 10000
set_option maxHeartbeats 4000000
theorem Nested_i (l:List Ev) (hp:l.length≤1048576):PF Tryz.prog 17 [.fs 8 (l.map evc)] (.b (qh l)):=by
 refine ⟨rfl,rfl,FnK.of (cf:=zk Tryz.prog te [(72,xz)] 66 0 false (fun _=>false) (kp [(0,[0]),(1,[0,23]),(2,[2]),(3,[0,3]),(4,[0,3,27,28,29]),(5,[0,3,27,28,29,30]),(6,[0,3,4,5,27,28,29]),(7,[0,3,5,6,27,28,29]),(8,[0,3,5,6,27,28,29,39]),(9,[2]),(10,[0,3,5,6,27,28,29,43]),(11,[2]),(12,[0,3,5,6,27,28,29,48]),(13,[2]),(14,[0,3,27,28,29,60]),(15,[2]),(16,[0,3,27,28,29]),(17,[2])]) [] []) (zf te_ok (l:=[(72,xz)]) (⟨zft,trivial⟩) zd) Tryz.func17 rfl rfl rfl (by simp [zk]) (by simp [zk]) (rs:=[.tmp 2]) rfl 100000 ?_⟩
 simp only [↓XC,XV,XT,Yg,seval,TES,xk,XRE]
 have hbx:∀ {p:Prop},(decide ((l.length:Int)<2)||!decide ((l.getD 0 evz).kind=1)||!zld (l.getD 0 evz))=true→(l.length<2∨(l.getD 0 evz).kind≠1∨zld (l.getD 0 evz)=false):=fun h=>by
  simp only [Yi] at h
  rcases h with (h | h) | h
  ·exact .inl (by omega)
  ·exact .inr (.inl h)
  ·exact .inr (.inr h)
 have hgx:(decide ((l.length:Int)<2)||!decide ((l.getD 0 evz).kind=1)||!zld (l.getD 0 evz))=false→(2≤l.length∧(l.getD 0 evz).kind=1∧zld (l.getD 0 evz)=true):=fun h=>by
  simp only [Yi] at h
  exact ⟨by omega,h.1.2,h.2⟩
 refine Chk.mk (fun h=>by simp at h;omega) fun _=>Chk.mk (fun h=>by simp at h;omega) fun _=>⟨fun h=>?_,fun h=>Chk.mk (by have:=hgx h;omega) fun _=>?_⟩
 ·rw [zth (hbx (p:=True) h)]
 have hg:=hgx h
 have e1:List.drop 1 (List.take l.length (List.map evc l))=(l.drop 1).map evc:=by rw [←List.map_take,List.take_length,←List.map_drop]
 have hn:qh l=zf3 (l.drop 1) 0 []:=zo0 hg
 rw [e1,List.length_map]
 refine yp.of (ι:={x:Nat×Int×Stk // x.1+1≤l.length∧x.2.2.length≤x.1∧bnd x.2.2 x.1∧zf3 (l.drop (x.1+1)) x.2.1 x.2.2=qh l}) (fun x=>⟨[(0,.fs 8 (l.map evc)),(3,.ptr 0 0 0),(27,.fs 8 ((l.drop 1).map evc)),(28,.i .i64 ((l.drop 1).length:Nat)),(29,.i .i64 (x.1.1:Nat))],[some (.blk false [.i .i64 x.1.2.1,.slc 1 0 x.1.2.2.length,.slc 2 0 x.1.2.2.length]),some (.row false 1 x.1.2.2.length (zg wz 0 (x.1.2.2.map kdO))),some (.row false 1 x.1.2.2.length (zg wz 0 (x.1.2.2.map mnO)))]⟩) (fun x=>l.length-x.1.1) ⟨(0,0,[]),by simp only;omega,Nat.le_refl _,zxx,hn.symm⟩ (Ent.nl (d:=[some (.blk false [.i .i64 0,.slc 1 0 0,.slc 2 0 0])]) [(1,zg wz 0 []),(1,zg wz 0 [])] (by simp [nlE,nlV,Vg.look]) (by simp [nlC,nlO,nlL,nlV])) ?_
 rintro ⟨⟨i,d,o⟩,hi,ho,ht,hr⟩
 simp only [↓XC,XV,XT,Yg,seval,TES,xk,XRE]
 simp only at hi ho ht hr
 have hlen:(l.drop 1).length=l.length-1:=by simp
 refine ⟨fun hlt=>Chk.mk (by omega) fun _=>Chk.mk (by simp only [inR];omega) fun _=>?_,fun hlt=>?_⟩
 ·have hdr:=znt l (i+1) evz (by omega)
  rw [zw9,Nat.add_comm 1 i]
  have hem:=zm8 l (i+2) (by omega)
  rw [hdr] at hr
  simp only [zf3,hem] at hr
  generalize l.getD (i+1) evz=e at *
  simp only [Int.natCast_add,Int.cast_ofNat_Int] at hr
  refine ⟨fun hb=>?_,fun hb=>⟨fun h10=>?_,fun h10=>⟨fun h9=>?_,fun h9=>?_⟩⟩⟩
  ·rw [←hr];simp at hb;simp [hb]
  ·rw [←hr];simp at hb;simp [hb,h10]
  ·rw [←hr];simp at hb;simp [hb,h9]
  ·simp only [Bool.not_eq_false'] at hb
   rw [if_neg h10,if_neg h9,hb,Bool.true_and] at hr
   refine yv.reb (zwe d o e.kind e.style e.flag e.text e.anchor e.tag e.pos e.code ⟨by omega,by have:=bnd_tp ht;omega⟩) [0,1,2] (by simp [Yf]) (by simp only [Ye];exact ⟨by omega,zb (by simp [Yf]),by omega,za fun _=>rfl,by omega,za fun _=>rfl⟩) (by decide) (by simp [ye,SO.ro]) (by decide) (by simp [jo,zeo,jw,zcw,noH,SO.ro]) ?_
   simp only [↓XC,XV,XT,Yg,seval,TES,xk,XRE,XR,XM]
   refine ⟨fun hf=>?_,fun hf=>Chk.mk (by simp only [inR];omega) fun _=>?_⟩
   ·simp only [Bool.not_eq_true'] at hf
    rw [←hr,hf];rfl
   ·simp only [Bool.not_eq_false'] at hf
    rw [hf,Bool.true_and] at hr
    refine ⟨⟨(i+1,(zcx d o e.kind).2.1,(zcx d o e.kind).2.2),by simp only;omega,by have:=ndEv_len (d:=d) (o:=o) (k:=e.kind);simp only;omega,ndEv_bnd ht,hr⟩,by simp only;omega, ?_⟩
    simp only [Int.natCast_add,Int.natCast_one]
    refine (Ent.ren1 [0,1,2] (by decide) (by simp only [Yd];refine ⟨?_, ?_, ?_⟩;(exact zb (by simp [Yf]));(exact za fun _=>rfl);(exact za fun _=>rfl)) (by simp [zj,Vg.look,SV.mapH,muL]))
 ·rw [←hr,List.drop_of_length_le (by omega)]
  rfl
noncomputable def u2:PE:=peR (fun (l:List Ev)=>[.fs 8 (l.map evc)]) (fun (l:List Ev)=>l.length≤1048576) (fun (l:List Ev)=>.b (qh l))
theorem zhd {l:List Ev}:u2 [.fs 8 (l.map evc)]=some (l.length≤1048576,.b (qh l)):=z6 (by rintro a b h;simp_all [zad]) l
theorem zhc:PE1 Tryz.prog 17 u2:=yb (by rintro l hp;exact Nested_i l hp)
end Go.T
end
