/- Own text: part TBC. -/
import Derived.Test.YtgippllfnmdnpaaGreatDoorTBB
import Derived.Test.YtgippllfnmdnpaaGreatDoorTAY
section
set_option linter.unusedVariables false
set_option linter.unusedSimpArgs false
set_option linter.unusedSectionVars false
set_option linter.unnecessarySimpa false
namespace Go.T
variable [Go.Vg.Glob]
open Go.Proofs Go.Vg Go.RowKit Go.TT Go.Pl
set_option maxRecDepth 10000
set_option maxHeartbeats 4000000
theorem zgr (d:Int) (o:Stk) (hp:o.length≤1048576∧(tp o).2≤1048576):FnK Tryz.prog 149 3 [.ptr 0 0 0] [some (.blk false [.i .i64 d,.slc 1 0 o.length,.slc 2 0 o.length]),some (.row false 1 o.length (zg wd 0 (o.map kdO))),some (.row false 1 o.length (zg wd 0 (o.map mnO)))] (fun z c=>z=.b (kf d o).1∧c=[some (.blk false [.i .i64 (kf d o).2.1,.slc 1 0 (kf d o).2.2.length,.slc 2 0 (kf d o).2.2.length]),some (.row false 1 (kf d o).2.2.length (zg wd 0 ((kf d o).2.2.map kdO))),some (.row false 1 (kf d o).2.2.length (zg wd 0 ((kf d o).2.2.map mnO)))]):=by
 refine FnK.ofE (cf:=zk Tryz.prog te [] 31 3 false (fun _=>false) (kp [(0,[0]),(1,[0,3]),(2,[0,3,11]),(3,[]),(4,[2]),(5,[0,4]),(6,[4]),(7,[2])]) [] []) (zf te_ok (l:=[]) (trivial) zc) Tryz.func149 rfl rfl rfl (by simp [zk]) (by simp [zk]) (rs:=[.tmp 2]) rfl 100000 ?_
 simp only [↓XC,XV,XT,Yg,reduceIte,Nat.reduceAdd,Nat.reduceLT,Nat.reduceEqDiff,Nat.reduceBEq,Nat.reduceLeDiff,reduceCtorEq,Nat.reduceSub,Nat.reduceMul,Int.reduceToNat,Int.reduceLT,Int.reduceLE,TES,XR]
 refine ⟨fun h=>?_,fun h=>?_⟩
 ·have hl:0<o.length:=by omega
  have hne:o≠[]:=List.length_pos_iff.1 hl
  simp only [show ((o.length:Int)-1).toNat=o.length-1 by omega,mn_top,kf,if_neg hne,incr_kd hne,incr_mn hne,zdh]
  refine Chk.mk (by simp only [inR];omega) fun _=>Chk.mk (by omega) fun _=>Chk.mk (by omega) fun _=>Chk.mk (by simp only [inR];omega) fun _=>Chk.mk (by omega) fun _=>Chk.mk (by omega) fun _=>?_
  exact ⟨[0,1,2],by decide,by simp only [Yd];refine ⟨?_, ?_, ?_⟩;(exact za rfl);(exact zb fun _=>rfl);(exact zh fun j hj=>by simp only [zg,zh9 _ _ _ _ _ (show o.length-1<(o.map mnO).length by simp;omega)];split<;>rfl),by simp only [↓XC,XV,XT,Yg,reduceIte,Nat.reduceAdd,Nat.reduceLT,Nat.reduceEqDiff,Nat.reduceBEq,Nat.reduceLeDiff,reduceCtorEq,Nat.reduceSub,Nat.reduceMul,Int.reduceToNat,Int.reduceLT,Int.reduceLE];try simp [Yf],by simp [zw,SO.ro],by simp⟩
 ·obtain rfl:o=[]:=List.length_eq_zero_iff.1 (by omega)
  simp only [kf,if_true]
  exact ⟨[0,1,2],by decide,by simp only [Yd];refine ⟨?_, ?_, ?_⟩;(exact za rfl);(exact zb fun _=>rfl);(exact zb fun _=>rfl),by simp only [↓XC,XV,XT,Yg,reduceIte,Nat.reduceAdd,Nat.reduceLT,Nat.reduceEqDiff,Nat.reduceBEq,Nat.reduceLeDiff,reduceCtorEq,Nat.reduceSub,Nat.reduceMul,Int.reduceToNat,Int.reduceLT,Int.reduceLE];try simp [Yf],by simp [zw,SO.ro],by simp⟩
theorem nst_ends (d:Int) (o:Stk) (hp:o.length≤1048576):FnK Tryz.prog 150 3 [.ptr 0 0 0] [some (.blk false [.i .i64 d,.slc 1 0 o.length,.slc 2 0 o.length]),some (.row false 1 o.length (zg wd 0 (o.map kdO))),some (.row false 1 o.length (zg wd 0 (o.map mnO)))] (fun z c=>z=.b (ndEnds o)∧c=[some (.blk false [.i .i64 d,.slc 1 0 (if ndEnds o then pop o else o).length,.slc 2 0 (if ndEnds o then pop o else o).length]),some (.row false 1 (if ndEnds o then pop o else o).length (zg wd 0 ((if ndEnds o then pop o else o).map kdO))),some (.row false 1 (if ndEnds o then pop o else o).length (zg wd 0 ((if ndEnds o then pop o else o).map mnO)))]):=by
 refine FnK.ofE (cf:=zk Tryz.prog te [] 51 3 false (fun _=>false) (kp [(0,[0]),(1,[0,3]),(2,[0,3,32]),(3,[2]),(4,[]),(5,[2])]) [] [(4,[16,19],[0],.q1 0 (.q1 1 (.q1 2 (.q1 3 (.q1 4 (.q1 6 (.q1 8 (.q1 9 (.q1 10 (.q1 12 (.q0 5 [5,7,14,15,16,17,18,19] (.q0 7 [7,14,15,16,17,18,19] (.q0 11 [11,13,14,15,16,17,18,19] (.q1 13 (.q1 14 (.q1 15 (.sw (.alt 16 (.q1 17 (.q1 18 (.alt 19 (.fin) (.fin)))) (.fin)))))))))))))))))))]) (zf te_ok (l:=[]) (trivial) zc) Tryz.func150 rfl rfl rfl (by simp [zk]) (by simp [zk]) (rs:=[.tmp 2]) rfl 100000 ?_
 simp only [↓XC,XV,XT,Yg,reduceIte,Nat.reduceAdd,Nat.reduceLT,Nat.reduceEqDiff,Nat.reduceBEq,Nat.reduceLeDiff,reduceCtorEq,Nat.reduceSub,Nat.reduceMul,Int.reduceToNat,Int.reduceLT,Int.reduceLE,TES,XR]
 have e2:((tp o).2:Int).tmod 2=((tp o).2 % 2:Nat):=tmod_nat _ 2
 by_cases h0:o.length=0
 ·have hb:=zkb (o:=o) (.inl h0)
  have h1:((o.length:Int)-1<0):=by omega
  simp only [hb,h1,decide_true,Bool.not_true,Bool.false_and,Bool.true_or,Bool.false_eq_true,if_false,forall_const,false_implies,zmz,and_true,if_neg]
  exact Chk.mk (by simp only [inR];omega) fun _=>⟨⟨[0,1,2],by decide,by simp only [Yd];refine ⟨?_, ?_, ?_⟩;(exact za rfl);(exact zb fun _=>rfl);(exact zb fun _=>rfl),by simp only [↓XC,XV,XT,Yg,reduceIte,Nat.reduceAdd,Nat.reduceLT,Nat.reduceEqDiff,Nat.reduceBEq,Nat.reduceLeDiff,reduceCtorEq,Nat.reduceSub,Nat.reduceMul,Int.reduceToNat,Int.reduceLT,Int.reduceLE];try simp [Yf],by simp [zw,SO.ro],by simp⟩,fun h=>by cases h⟩
 have h1:¬((o.length:Int)-1<0):=by omega
 simp only [show ((o.length:Int)-1).toNat=o.length-1 by omega,mn_top,kd_top (show 0<o.length by omega),e2,h1,decide_false,Bool.not_false,Bool.true_and,Bool.false_or]
 refine Chk.mk (by simp only [inR];omega) fun _=>Chk.mk (fun _=>by omega) fun _=>Chk.mk (fun _=>by omega) fun _=>Chk.mk (fun _=>by omega) fun _=>Chk.mk (fun _=>by omega) fun _=>Chk.mk (fun _=>by omega) fun _=>⟨fun h=>?_,fun h=>⟨by decide +kernel,Chk.mk (by omega) fun _=>Chk.mk (by omega) fun _=>?_⟩⟩
 ·have hb:ndEnds o=false:=zkb (.inr (by simp at h;omega))
  simp only [hb,Bool.false_eq_true,if_false]
  exact ⟨[0,1,2],by decide,by simp only [Yd];refine ⟨?_, ?_, ?_⟩;(exact za rfl);(exact zb fun _=>rfl);(exact zb fun _=>rfl),by simp only [↓XC,XV,XT,Yg,reduceIte,Nat.reduceAdd,Nat.reduceLT,Nat.reduceEqDiff,Nat.reduceBEq,Nat.reduceLeDiff,reduceCtorEq,Nat.reduceSub,Nat.reduceMul,Int.reduceToNat,Int.reduceLT,Int.reduceLE];try simp [Yf],by simp [zw,SO.ro],by simp⟩
 ·have hb:ndEnds o=true:=zqx (by simp at h;omega)
  simp only [hb,if_true,uf,Nat.sub_zero]
  exact ⟨[0,1,2],by decide,by simp only [Yd];refine ⟨?_, ?_, ?_⟩;(exact za rfl);(exact kn (by omega) fun j hj=>by simp only [zg,zxf _ (show j<(pop o).length by rw [uf];exact hj)]<;>rfl);(exact kn (by omega) fun j hj=>by simp only [zg,zxf _ (show j<(pop o).length by rw [uf];exact hj)]<;>rfl),by simp only [↓XC,XV,XT,Yg,reduceIte,Nat.reduceAdd,Nat.reduceLT,Nat.reduceEqDiff,Nat.reduceBEq,Nat.reduceLeDiff,reduceCtorEq,Nat.reduceSub,Nat.reduceMul,Int.reduceToNat,Int.reduceLT,Int.reduceLE];try simp [Yf],by simp [zw,SO.ro],by simp⟩
theorem zyb (d:Int) (o:Stk) (k st:Int) (fl:Bool) (x a g:Bs) (p c:Int) (hp:o.length≤1048576∧(tp o).2≤1048576):FnK Tryz.prog 73 1 [.ptr 0 0 0,.agg [.i .i64 k,.i .i64 st,.b fl,.s x,.s a,.s g,.i .i64 p,.i .i64 c]] [some (.blk false [.i .i64 d,.slc 1 0 o.length,.slc 2 0 o.length]),some (.row false 1 o.length (zg wd 0 (o.map kdO))),some (.row false 1 o.length (zg wd 0 (o.map mnO)))] (fun z c=>z=.b (vw d o k).1∧c=[some (.blk false [.i .i64 (vw d o k).2.1,.slc 1 0 (vw d o k).2.2.length,.slc 2 0 (vw d o k).2.2.length]),some (.row false 1 (vw d o k).2.2.length (zg wd 0 ((vw d o k).2.2.map kdO))),some (.row false 1 (vw d o k).2.2.length (zg wd 0 ((vw d o k).2.2.map mnO)))]):=by
 refine FnK.ofE (cf:=zk Tryz.prog te [] 78 1 false (fun _=>false) (kp [(0,[0,3]),(1,[0,3,5]),(2,[0,3,5,16]),(3,[0,3,5,16,17]),(4,[0,6]),(5,[6]),(6,[4]),(7,[0,3,5,16,28]),(8,[0,3,5,16,28]),(9,[4]),(10,[0,3,5,16,33]),(11,[0,3,5,16,33]),(12,[0,3,7]),(13,[7]),(14,[4]),(15,[0,5,16,59]),(16,[4]),(17,[0,5,63]),(18,[0,8]),(19,[8]),(20,[4]),(21,[4])]) [] [(13,[5,8,9,13,14,15,18,21],[0,1,2],.q1 0 (.q1 1 (.q1 2 (.q1 3 (.q1 4 (.q1 6 (.q1 10 (.q1 11 (.q1 12 (.q1 7 (.sw (.alt 5 (.alt 8 (.alt 9 (.alt 13 (.alt 14 (.alt 15 (.q1 16 (.q1 17 (.alt 18 (.q1 19 (.q1 20 (.alt 21 (.fin) (.fin)))) (.fin)))) (.fin)) (.fin)) (.alt 14 (.alt 13 (.alt 15 (.q1 16 (.q1 17 (.alt 18 (.q1 19 (.q1 20 (.alt 21 (.fin) (.fin)))) (.fin)))) (.fin)) (.fin)) (.fin))) (.alt 13 (.alt 9 (.alt 14 (.alt 15 (.q1 16 (.q1 17 (.alt 18 (.q1 19 (.q1 20 (.alt 21 (.fin) (.fin)))) (.fin)))) (.fin)) (.fin)) (.alt 14 (.alt 9 (.alt 15 (.q1 16 (.q1 17 (.alt 18 (.q1 19 (.q1 20 (.alt 21 (.fin) (.fin)))) (.fin)))) (.fin)) (.fin)) (.fin))) (.alt 14 (.alt 9 (.alt 13 (.alt 15 (.q1 16 (.q1 17 (.alt 18 (.q1 19 (.q1 20 (.alt 21 (.fin) (.fin)))) (.fin)))) (.fin)) (.fin)) (.alt 13 (.alt 9 (.alt 15 (.q1 16 (.q1 17 (.alt 18 (.q1 19 (.q1 20 (.alt 21 (.fin) (.fin)))) (.fin)))) (.fin)) (.fin)) (.fin))) (.fin)))) (.alt 13 (.alt 8 (.alt 9 (.alt 14 (.alt 15 (.q1 16 (.q1 17 (.alt 18 (.q1 19 (.q1 20 (.alt 21 (.fin) (.fin)))) (.fin)))) (.fin)) (.fin)) (.alt 14 (.alt 9 (.alt 15 (.q1 16 (.q1 17 (.alt 18 (.q1 19 (.q1 20 (.alt 21 (.fin) (.fin)))) (.fin)))) (.fin)) (.fin)) (.fin))) (.alt 14 (.alt 8 (.alt 9 (.alt 15 (.q1 16 (.q1 17 (.alt 18 (.q1 19 (.q1 20 (.alt 21 (.fin) (.fin)))) (.fin)))) (.fin)) (.fin)) (.fin)) (.fin))) (.alt 14 (.alt 8 (.alt 9 (.alt 13 (.alt 15 (.q1 16 (.q1 17 (.alt 18 (.q1 19 (.q1 20 (.alt 21 (.fin) (.fin)))) (.fin)))) (.fin)) (.fin)) (.alt 13 (.alt 9 (.alt 15 (.q1 16 (.q1 17 (.alt 18 (.q1 19 (.q1 20 (.alt 21 (.fin) (.fin)))) (.fin)))) (.fin)) (.fin)) (.fin))) (.alt 13 (.alt 8 (.alt 9 (.alt 15 (.q1 16 (.q1 17 (.alt 18 (.q1 19 (.q1 20 (.alt 21 (.fin) (.fin)))) (.fin)))) (.fin)) (.fin)) (.fin)) (.fin))) (.fin)))) (.alt 8 (.alt 5 (.alt 9 (.alt 13 (.alt 14 (.alt 15 (.q1 16 (.q1 17 (.alt 18 (.q1 19 (.q1 20 (.alt 21 (.fin) (.fin)))) (.fin)))) (.fin)) (.fin)) (.alt 14 (.alt 13 (.alt 15 (.q1 16 (.q1 17 (.alt 18 (.q1 19 (.q1 20 (.alt 21 (.fin) (.fin)))) (.fin)))) (.fin)) (.fin)) (.fin))) (.alt 13 (.alt 9 (.alt 14 (.alt 15 (.q1 16 (.q1 17 (.alt 18 (.q1 19 (.q1 20 (.alt 21 (.fin) (.fin)))) (.fin)))) (.fin)) (.fin)) (.alt 14 (.alt 9 (.alt 15 (.q1 16 (.q1 17 (.alt 18 (.q1 19 (.q1 20 (.alt 21 (.fin) (.fin)))) (.fin)))) (.fin)) (.fin)) (.fin))) (.alt 14 (.alt 9 (.alt 13 (.alt 15 (.q1 16 (.q1 17 (.alt 18 (.q1 19 (.q1 20 (.alt 21 (.fin) (.fin)))) (.fin)))) (.fin)) (.fin)) (.alt 13 (.alt 9 (.alt 15 (.q1 16 (.q1 17 (.alt 18 (.q1 19 (.q1 20 (.alt 21 (.fin) (.fin)))) (.fin)))) (.fin)) (.fin)) (.fin))) (.fin)))) (.alt 13 (.alt 5 (.alt 9 (.alt 14 (.alt 15 (.q1 16 (.q1 17 (.alt 18 (.q1 19 (.q1 20 (.alt 21 (.fin) (.fin)))) (.fin)))) (.fin)) (.fin)) (.alt 14 (.alt 9 (.alt 15 (.q1 16 (.q1 17 (.alt 18 (.q1 19 (.q1 20 (.alt 21 (.fin) (.fin)))) (.fin)))) (.fin)) (.fin)) (.fin))) (.alt 14 (.alt 5 (.alt 9 (.alt 15 (.q1 16 (.q1 17 (.alt 18 (.q1 19 (.q1 20 (.alt 21 (.fin) (.fin)))) (.fin)))) (.fin)) (.fin)) (.fin)) (.fin))) (.alt 14 (.alt 5 (.alt 9 (.alt 13 (.alt 15 (.q1 16 (.q1 17 (.alt 18 (.q1 19 (.q1 20 (.alt 21 (.fin) (.fin)))) (.fin)))) (.fin)) (.fin)) (.alt 13 (.alt 9 (.alt 15 (.q1 16 (.q1 17 (.alt 18 (.q1 19 (.q1 20 (.alt 21 (.fin) (.fin)))) (.fin)))) (.fin)) (.fin)) (.fin))) (.alt 13 (.alt 5 (.alt 9 (.alt 15 (.q1 16 (.q1 17 (.alt 18 (.q1 19 (.q1 20 (.alt 21 (.fin) (.fin)))) (.fin)))) (.fin)) (.fin)) (.fin)) (.fin))) (.fin)))) (.alt 13 (.alt 5 (.alt 8 (.alt 9 (.alt 14 (.alt 15 (.q1 16 (.q1 17 (.alt 18 (.q1 19 (.q1 20 (.alt 21 (.fin) (.fin)))) (.fin)))) (.fin)) (.fin)) (.alt 14 (.alt 9 (.alt 15 (.q1 16 (.q1 17 (.alt 18 (.q1 19 (.q1 20 (.alt 21 (.fin) (.fin)))) (.fin)))) (.fin)) (.fin)) (.fin))) (.alt 14 (.alt 8 (.alt 9 (.alt 15 (.q1 16 (.q1 17 (.alt 18 (.q1 19 (.q1 20 (.alt 21 (.fin) (.fin)))) (.fin)))) (.fin)) (.fin)) (.fin)) (.fin))) (.alt 8 (.alt 5 (.alt 9 (.alt 14 (.alt 15 (.q1 16 (.q1 17 (.alt 18 (.q1 19 (.q1 20 (.alt 21 (.fin) (.fin)))) (.fin)))) (.fin)) (.fin)) (.alt 14 (.alt 9 (.alt 15 (.q1 16 (.q1 17 (.alt 18 (.q1 19 (.q1 20 (.alt 21 (.fin) (.fin)))) (.fin)))) (.fin)) (.fin)) (.fin))) (.alt 14 (.alt 5 (.alt 9 (.alt 15 (.q1 16 (.q1 17 (.alt 18 (.q1 19 (.q1 20 (.alt 21 (.fin) (.fin)))) (.fin)))) (.fin)) (.fin)) (.fin)) (.fin))) (.alt 14 (.alt 5 (.alt 8 (.alt 9 (.alt 15 (.q1 16 (.q1 17 (.alt 18 (.q1 19 (.q1 20 (.alt 21 (.fin) (.fin)))) (.fin)))) (.fin)) (.fin)) (.fin)) (.alt 8 (.alt 5 (.alt 9 (.alt 15 (.q1 16 (.q1 17 (.alt 18 (.q1 19 (.q1 20 (.alt 21 (.fin) (.fin)))) (.fin)))) (.fin)) (.fin)) (.fin)) (.fin))) (.fin)))) (.alt 14 (.alt 5 (.alt 8 (.alt 9 (.alt 13 (.alt 15 (.q1 16 (.q1 17 (.alt 18 (.q1 19 (.q1 20 (.alt 21 (.fin) (.fin)))) (.fin)))) (.fin)) (.fin)) (.alt 13 (.alt 9 (.alt 15 (.q1 16 (.q1 17 (.alt 18 (.q1 19 (.q1 20 (.alt 21 (.fin) (.fin)))) (.fin)))) (.fin)) (.fin)) (.fin))) (.alt 13 (.alt 8 (.alt 9 (.alt 15 (.q1 16 (.q1 17 (.alt 18 (.q1 19 (.q1 20 (.alt 21 (.fin) (.fin)))) (.fin)))) (.fin)) (.fin)) (.fin)) (.fin))) (.alt 8 (.alt 5 (.alt 9 (.alt 13 (.alt 15 (.q1 16 (.q1 17 (.alt 18 (.q1 19 (.q1 20 (.alt 21 (.fin) (.fin)))) (.fin)))) (.fin)) (.fin)) (.alt 13 (.alt 9 (.alt 15 (.q1 16 (.q1 17 (.alt 18 (.q1 19 (.q1 20 (.alt 21 (.fin) (.fin)))) (.fin)))) (.fin)) (.fin)) (.fin))) (.alt 13 (.alt 5 (.alt 9 (.alt 15 (.q1 16 (.q1 17 (.alt 18 (.q1 19 (.q1 20 (.alt 21 (.fin) (.fin)))) (.fin)))) (.fin)) (.fin)) (.fin)) (.fin))) (.alt 13 (.alt 5 (.alt 8 (.alt 9 (.alt 15 (.q1 16 (.q1 17 (.alt 18 (.q1 19 (.q1 20 (.alt 21 (.fin) (.fin)))) (.fin)))) (.fin)) (.fin)) (.fin)) (.alt 8 (.alt 5 (.alt 9 (.alt 15 (.q1 16 (.q1 17 (.alt 18 (.q1 19 (.q1 20 (.alt 21 (.fin) (.fin)))) (.fin)))) (.fin)) (.fin)) (.fin)) (.fin))) (.fin)))) (.fin))))))))))))))))]) (zf te_ok (l:=[]) (trivial) zc) Tryz.func73 rfl rfl rfl (by simp [zk]) (by simp [zk]) (rs:=[.tmp 4]) rfl 100000 ?_
 simp only [↓XC,XV,XT,Yg,reduceIte,Nat.reduceAdd,Nat.reduceLT,Nat.reduceEqDiff,Nat.reduceBEq,Nat.reduceLeDiff,reduceCtorEq,Nat.reduceSub,Nat.reduceMul,Int.reduceToNat,Int.reduceLT,Int.reduceLE,TES,XR]
 by_cases e2:k=2
 ·subst e2
  simp only [Int.reduceEq,eq_self,forall_const,true_implies,not_true_eq_false,not_false_eq_true,false_implies,implies_true,and_true,true_and,or_true,true_or,or_false,false_or,decide_true,decide_false,if_true,if_false,reduceIte,vw,reduceCtorEq]
  exact ⟨[0,1,2],by decide,by simp only [Yd];refine ⟨?_, ?_, ?_⟩;(exact za rfl);(exact zb fun _=>rfl);(exact zb fun _=>rfl),by simp only [↓XC,XV,XT,Yg,reduceIte,Nat.reduceAdd,Nat.reduceLT,Nat.reduceEqDiff,Nat.reduceBEq,Nat.reduceLeDiff,reduceCtorEq,Nat.reduceSub,Nat.reduceMul,Int.reduceToNat,Int.reduceLT,Int.reduceLE];try simp [Yf],by simp [zw,SO.ro],by simp⟩
 by_cases e5:k=5
 ·subst e5
  simp only [Int.reduceEq,eq_self,forall_const,true_implies,not_true_eq_false,not_false_eq_true,false_implies,implies_true,and_true,true_and,or_true,true_or,or_false,false_or,decide_true,decide_false,if_true,if_false,reduceIte,vw,reduceCtorEq]
  refine zj.mut (zgr d o hp) rfl [0,1,2] (by simp [Yf]) (by simp only [Ye];exact ⟨by omega,za rfl,by omega,zb fun _=>rfl,by omega,zb fun _=>rfl⟩) (by decide) ?_
  simp only [↓XC,XV,XT,Yg,reduceIte,Nat.reduceAdd,Nat.reduceLT,Nat.reduceEqDiff,Nat.reduceBEq,Nat.reduceLeDiff,reduceCtorEq,Nat.reduceSub,Nat.reduceMul,Int.reduceToNat,Int.reduceLT,Int.reduceLE,TES,XR,SO.mapH,List.getElem?_cons_zero,List.getElem?_cons_succ,zr,upd,muL,List.getElem?_nil,List.drop_nil,Option.map_none]
  exact ⟨[0,1,2],by decide,by simp only [Yd];refine ⟨?_, ?_, ?_⟩;(exact za rfl);(exact zb fun _=>rfl);(exact zb fun _=>rfl),by simp only [↓XC,XV,XT,Yg,reduceIte,Nat.reduceAdd,Nat.reduceLT,Nat.reduceEqDiff,Nat.reduceBEq,Nat.reduceLeDiff,reduceCtorEq,Nat.reduceSub,Nat.reduceMul,Int.reduceToNat,Int.reduceLT,Int.reduceLE];try simp [Yf],by simp [zw,SO.ro],by simp⟩
 by_cases e6:k=6
 ·subst e6
  simp only [Int.reduceEq,eq_self,forall_const,true_implies,not_true_eq_false,not_false_eq_true,false_implies,implies_true,and_true,true_and,or_true,true_or,or_false,false_or,decide_true,decide_false,if_true,if_false,reduceIte,vw,reduceCtorEq]
  refine zj.mut (zgr d o hp) rfl [0,1,2] (by simp [Yf]) (by simp only [Ye];exact ⟨by omega,za rfl,by omega,zb fun _=>rfl,by omega,zb fun _=>rfl⟩) (by decide) ?_
  simp only [↓XC,XV,XT,Yg,reduceIte,Nat.reduceAdd,Nat.reduceLT,Nat.reduceEqDiff,Nat.reduceBEq,Nat.reduceLeDiff,reduceCtorEq,Nat.reduceSub,Nat.reduceMul,Int.reduceToNat,Int.reduceLT,Int.reduceLE,TES,XR,SO.mapH,List.getElem?_cons_zero,List.getElem?_cons_succ,zr,upd,muL,List.getElem?_nil,List.drop_nil,Option.map_none]
  exact ⟨[0,1,2],by decide,by simp only [Yd];refine ⟨?_, ?_, ?_⟩;(exact za rfl);(exact zb fun _=>rfl);(exact zb fun _=>rfl),by simp only [↓XC,XV,XT,Yg,reduceIte,Nat.reduceAdd,Nat.reduceLT,Nat.reduceEqDiff,Nat.reduceBEq,Nat.reduceLeDiff,reduceCtorEq,Nat.reduceSub,Nat.reduceMul,Int.reduceToNat,Int.reduceLT,Int.reduceLE];try simp [Yf],by simp [zw,SO.ro],by simp⟩
 by_cases e7:k=7
 ·subst e7
  simp only [Int.reduceEq,eq_self,forall_const,true_implies,not_true_eq_false,not_false_eq_true,false_implies,implies_true,and_true,true_and,or_true,true_or,or_false,false_or,decide_true,decide_false,if_true,if_false,reduceIte,vw,reduceCtorEq]
  refine zj.mut (nst_ends d o hp.1) rfl [0,1,2] (by simp [Yf]) (by simp only [Ye];exact ⟨by omega,za rfl,by omega,zb fun _=>rfl,by omega,zb fun _=>rfl⟩) (by decide) ?_
  simp only [↓XC,XV,XT,Yg,reduceIte,Nat.reduceAdd,Nat.reduceLT,Nat.reduceEqDiff,Nat.reduceBEq,Nat.reduceLeDiff,reduceCtorEq,Nat.reduceSub,Nat.reduceMul,Int.reduceToNat,Int.reduceLT,Int.reduceLE,TES,XR,SO.mapH,List.getElem?_cons_zero,List.getElem?_cons_succ,zr,upd,muL,List.getElem?_nil,List.drop_nil,Option.map_none]
  have hb:ndEnds o=true∨ndEnds o=false:=by cases ndEnds o<;>simp
  rcases hb with hb | hb<;>(simp only [hb,if_true,Bool.false_eq_true,if_false];exact ⟨[0,1,2],by decide,by simp only [Yd];refine ⟨?_, ?_, ?_⟩;(exact za rfl);(exact zb fun _=>rfl);(exact zb fun _=>rfl),by simp only [↓XC,XV,XT,Yg,reduceIte,Nat.reduceAdd,Nat.reduceLT,Nat.reduceEqDiff,Nat.reduceBEq,Nat.reduceLeDiff,reduceCtorEq,Nat.reduceSub,Nat.reduceMul,Int.reduceToNat,Int.reduceLT,Int.reduceLE];try simp [Yf],by simp [zw,SO.ro],by simp⟩)
 by_cases e8:k=8
 ·subst e8
  simp only [Int.reduceEq,eq_self,forall_const,true_implies,not_true_eq_false,not_false_eq_true,false_implies,implies_true,and_true,true_and,or_true,true_or,or_false,false_or,decide_true,decide_false,if_true,if_false,reduceIte,vw,reduceCtorEq]
  rw [show decide (o=[])=!decide ((o.length:Int)>0) by cases o<;>simp]
  exact ⟨[0,1,2],by decide,by simp only [Yd];refine ⟨?_, ?_, ?_⟩;(exact za rfl);(exact zb fun _=>rfl);(exact zb fun _=>rfl),by simp only [↓XC,XV,XT,Yg,reduceIte,Nat.reduceAdd,Nat.reduceLT,Nat.reduceEqDiff,Nat.reduceBEq,Nat.reduceLeDiff,reduceCtorEq,Nat.reduceSub,Nat.reduceMul,Int.reduceToNat,Int.reduceLT,Int.reduceLE];try simp [Yf],by simp [zw,SO.ro],by simp⟩
 by_cases e3:k=3
 ·subst e3
  simp only [Int.reduceEq,eq_self,forall_const,true_implies,not_true_eq_false,not_false_eq_true,false_implies,implies_true,and_true,true_and,or_true,true_or,or_false,false_or,decide_true,decide_false,if_true,if_false,reduceIte,vw,reduceCtorEq]
  refine zj.mut (zgr d o hp) rfl [0,1,2] (by simp [Yf]) (by simp only [Ye];exact ⟨by omega,za rfl,by omega,zb fun _=>rfl,by omega,zb fun _=>rfl⟩) (by decide) ?_
  simp only [↓XC,XV,XT,Yg,reduceIte,Nat.reduceAdd,Nat.reduceLT,Nat.reduceEqDiff,Nat.reduceBEq,Nat.reduceLeDiff,reduceCtorEq,Nat.reduceSub,Nat.reduceMul,Int.reduceToNat,Int.reduceLT,Int.reduceLE,TES,XR,SO.mapH,List.getElem?_cons_zero,List.getElem?_cons_succ,zr,upd,muL,List.getElem?_nil,List.drop_nil,Option.map_none]
  refine ⟨by decide +kernel, ?_⟩
  simp only [Int.reduceEq,reduceIte,or_false,or_true,decide_true,decide_false]
  have hl:=zar (d:=d) (o:=o)
  generalize kf d o=r at *
  obtain ⟨b',d',o'⟩:=r
  simp only at hl ⊢
  repeat' (first | with_reducible refine Chk.mk ?_ fun _=>?_ | with_reducible refine And.intro ?_ ?_)
  all_goals first | exact qo rfl rfl | omega | (first | (refine ⟨[0,5,7],by decide,by simp only [Yd];refine ⟨?_, ?_, ?_⟩;(exact za (by simp [Yf]));(exact jd (fun _=>rfl) rfl (fun _ _=>rfl) rfl rfl);(exact jd (fun _=>rfl) rfl (fun _ _=>rfl) rfl rfl),by simp only [↓XC,XV,XT,Yg,reduceIte,Nat.reduceAdd,Nat.reduceLT,Nat.reduceEqDiff,Nat.reduceBEq,Nat.reduceLeDiff,reduceCtorEq,Nat.reduceSub,Nat.reduceMul,Int.reduceToNat,Int.reduceLT,Int.reduceLE];try simp [Yf],by simp [zw,SO.ro],by simp⟩) | (refine ⟨[0,6,7],by decide,by simp only [Yd];refine ⟨?_, ?_, ?_⟩;(exact za (by simp [Yf]));(exact jd (fun _=>rfl) rfl (fun _ _=>rfl) rfl rfl);(exact jd (fun _=>rfl) rfl (fun _ _=>rfl) rfl rfl),by simp only [↓XC,XV,XT,Yg,reduceIte,Nat.reduceAdd,Nat.reduceLT,Nat.reduceEqDiff,Nat.reduceBEq,Nat.reduceLeDiff,reduceCtorEq,Nat.reduceSub,Nat.reduceMul,Int.reduceToNat,Int.reduceLT,Int.reduceLE];try simp [Yf],by simp [zw,SO.ro],by simp⟩))
 by_cases e4:k=4
 ·subst e4
  simp only [Int.reduceEq,eq_self,forall_const,true_implies,not_true_eq_false,not_false_eq_true,false_implies,implies_true,and_true,true_and,or_true,true_or,or_false,false_or,decide_true,decide_false,if_true,if_false,reduceIte,vw,reduceCtorEq]
  refine zj.mut (zgr d o hp) rfl [0,1,2] (by simp [Yf]) (by simp only [Ye];exact ⟨by omega,za rfl,by omega,zb fun _=>rfl,by omega,zb fun _=>rfl⟩) (by decide) ?_
  simp only [↓XC,XV,XT,Yg,reduceIte,Nat.reduceAdd,Nat.reduceLT,Nat.reduceEqDiff,Nat.reduceBEq,Nat.reduceLeDiff,reduceCtorEq,Nat.reduceSub,Nat.reduceMul,Int.reduceToNat,Int.reduceLT,Int.reduceLE,TES,XR,SO.mapH,List.getElem?_cons_zero,List.getElem?_cons_succ,zr,upd,muL,List.getElem?_nil,List.drop_nil,Option.map_none]
  refine ⟨by decide +kernel, ?_⟩
  simp only [Int.reduceEq,reduceIte,or_false,or_true,decide_true,decide_false]
  have hl:=zar (d:=d) (o:=o)
  generalize kf d o=r at *
  obtain ⟨b',d',o'⟩:=r
  simp only at hl ⊢
  repeat' (first | with_reducible refine Chk.mk ?_ fun _=>?_ | with_reducible refine And.intro ?_ ?_)
  all_goals first | exact qo rfl rfl | omega | (first | (refine ⟨[0,5,7],by decide,by simp only [Yd];refine ⟨?_, ?_, ?_⟩;(exact za (by simp [Yf]));(exact jd (fun _=>rfl) rfl (fun _ _=>rfl) rfl rfl);(exact jd (fun _=>rfl) rfl (fun _ _=>rfl) rfl rfl),by simp only [↓XC,XV,XT,Yg,reduceIte,Nat.reduceAdd,Nat.reduceLT,Nat.reduceEqDiff,Nat.reduceBEq,Nat.reduceLeDiff,reduceCtorEq,Nat.reduceSub,Nat.reduceMul,Int.reduceToNat,Int.reduceLT,Int.reduceLE];try simp [Yf],by simp [zw,SO.ro],by simp⟩) | (refine ⟨[0,6,7],by decide,by simp only [Yd];refine ⟨?_, ?_, ?_⟩;(exact za (by simp [Yf]));(exact jd (fun _=>rfl) rfl (fun _ _=>rfl) rfl rfl);(exact jd (fun _=>rfl) rfl (fun _ _=>rfl) rfl rfl),by simp only [↓XC,XV,XT,Yg,reduceIte,Nat.reduceAdd,Nat.reduceLT,Nat.reduceEqDiff,Nat.reduceBEq,Nat.reduceLeDiff,reduceCtorEq,Nat.reduceSub,Nat.reduceMul,Int.reduceToNat,Int.reduceLT,Int.reduceLE];try simp [Yf],by simp [zw,SO.ro],by simp⟩))
 simp only [e2,e5,e6,e7,e8,e3,e4,Int.reduceEq,eq_self,forall_const,true_implies,not_true_eq_false,not_false_eq_true,false_implies,implies_true,and_true,true_and,or_true,true_or,or_false,false_or,decide_true,decide_false,if_true,if_false,reduceIte,vw,reduceCtorEq]
 exact ⟨[0,1,2],by decide,by simp only [Yd];refine ⟨?_, ?_, ?_⟩;(exact za rfl);(exact zb fun _=>rfl);(exact zb fun _=>rfl),by simp only [↓XC,XV,XT,Yg,reduceIte,Nat.reduceAdd,Nat.reduceLT,Nat.reduceEqDiff,Nat.reduceBEq,Nat.reduceLeDiff,reduceCtorEq,Nat.reduceSub,Nat.reduceMul,Int.reduceToNat,Int.reduceLT,Int.reduceLE];try simp [Yf],by simp [zw,SO.ro],by simp⟩
end Go.T
end
section
set_option linter.unusedVariables false
set_option linter.unusedSimpArgs false
set_option linter.unusedSectionVars false
set_option linter.unnecessarySimpa false
namespace Go.T
variable [Go.Vg.Glob]
open Go.Proofs Go.Vg Go.RowKit Go.TT Go.Pl
set_option maxRecDepth 10000
set_option maxHeartbeats 4000000
theorem Nested_i (l:List Ev) (hp:l.length≤1048576):PF Tryz.prog 17 [.fs 8 (l.map evc)] (.b (yf l)):=by
 refine ⟨rfl,rfl,FnK.of (cf:=zk Tryz.prog te [(72,u5)] 66 0 false (fun _=>false) (kp [(0,[0]),(1,[0,23]),(2,[2]),(3,[0,3]),(4,[0,3,27,28,29]),(5,[0,3,27,28,29,30]),(6,[0,3,4,5,27,28,29]),(7,[0,3,5,6,27,28,29]),(8,[0,3,5,6,27,28,29,39]),(9,[2]),(10,[0,3,5,6,27,28,29,43]),(11,[2]),(12,[0,3,5,6,27,28,29,48]),(13,[2]),(14,[0,3,27,28,29,60]),(15,[2]),(16,[0,3,27,28,29]),(17,[2])]) [] []) (zf te_ok (l:=[(72,u5)]) (⟨zhk,trivial⟩) zc) Tryz.func17 rfl rfl rfl (by simp [zk]) (by simp [zk]) (rs:=[.tmp 2]) rfl 100000 ?_⟩
 simp only [↓XC,XV,XT,Yg,seval,TES,uo,XRE]
 have hbx:∀ {p:Prop},(decide ((l.length:Int)<2)||!decide ((l.getD 0 evz).kind=1)||!zaw (l.getD 0 evz))=true→(l.length<2∨(l.getD 0 evz).kind≠1∨zaw (l.getD 0 evz)=false):=fun h=>by
  simp only [Yi] at h
  rcases h with (h | h) | h
  ·exact .inl (by omega)
  ·exact .inr (.inl h)
  ·exact .inr (.inr h)
 have hgx:(decide ((l.length:Int)<2)||!decide ((l.getD 0 evz).kind=1)||!zaw (l.getD 0 evz))=false→(2≤l.length∧(l.getD 0 evz).kind=1∧zaw (l.getD 0 evz)=true):=fun h=>by
  simp only [Yi] at h
  exact ⟨by omega,h.1.2,h.2⟩
 refine Chk.mk (fun h=>by simp at h;omega) fun _=>Chk.mk (fun h=>by simp at h;omega) fun _=>⟨fun h=>?_,fun h=>Chk.mk (by have:=hgx h;omega) fun _=>?_⟩
 ·rw [zfb (hbx (p:=True) h)]
 have hg:=hgx h
 have e1:List.drop 1 (List.take l.length (List.map evc l))=(l.drop 1).map evc:=by rw [←List.map_take,List.take_length,←List.map_drop]
 have hn:yf l=zaq (l.drop 1) 0 []:=zqw hg
 rw [e1,List.length_map]
 refine yv.of (ι:={x:Nat×Int×Stk // x.1+1≤l.length∧x.2.2.length≤x.1∧bnd x.2.2 x.1∧zaq (l.drop (x.1+1)) x.2.1 x.2.2=yf l}) (fun x=>⟨[(0,.fs 8 (l.map evc)),(3,.ptr 0 0 0),(27,.fs 8 ((l.drop 1).map evc)),(28,.i .i64 ((l.drop 1).length:Nat)),(29,.i .i64 (x.1.1:Nat))],[some (.blk false [.i .i64 x.1.2.1,.slc 1 0 x.1.2.2.length,.slc 2 0 x.1.2.2.length]),some (.row false 1 x.1.2.2.length (zg wd 0 (x.1.2.2.map kdO))),some (.row false 1 x.1.2.2.length (zg wd 0 (x.1.2.2.map mnO)))]⟩) (fun x=>l.length-x.1.1) ⟨(0,0,[]),by simp only;omega,Nat.le_refl _,zz2,hn.symm⟩ (Ent.nl (d:=[some (.blk false [.i .i64 0,.slc 1 0 0,.slc 2 0 0])]) [(1,zg wd 0 []),(1,zg wd 0 [])] (by simp [nlE,nlV,Vg.look]) (by simp [nlC,nlO,nlL,nlV])) ?_
 rintro ⟨⟨i,d,o⟩,hi,ho,ht,hr⟩
 simp only [↓XC,XV,XT,Yg,seval,TES,uo,XRE]
 simp only at hi ho ht hr
 have hlen:(l.drop 1).length=l.length-1:=by simp
 refine ⟨fun hlt=>Chk.mk (by omega) fun _=>Chk.mk (by simp only [inR];omega) fun _=>?_,fun hlt=>?_⟩
 ·have hdr:=zpj l (i+1) evz (by omega)
  rw [zy9,Nat.add_comm 1 i]
  have hem:=zoz l (i+2) (by omega)
  rw [hdr] at hr
  simp only [zaq,hem] at hr
  generalize l.getD (i+1) evz=e at *
  simp only [Int.natCast_add,Int.cast_ofNat_Int] at hr
  refine ⟨fun hb=>?_,fun hb=>⟨fun h10=>?_,fun h10=>⟨fun h9=>?_,fun h9=>?_⟩⟩⟩
  ·rw [←hr];simp at hb;simp [hb]
  ·rw [←hr];simp at hb;simp [hb,h10]
  ·rw [←hr];simp at hb;simp [hb,h9]
  ·simp only [Bool.not_eq_false'] at hb
   rw [if_neg h10,if_neg h9,hb,Bool.true_and] at hr
   refine zj.reb (zyb d o e.kind e.style e.flag e.text e.anchor e.tag e.pos e.code ⟨by omega,by have:=bnd_tp ht;omega⟩) [0,1,2] (by simp [Yf]) (by simp only [Ye];exact ⟨by omega,za (by simp [Yf]),by omega,zb fun _=>rfl,by omega,zb fun _=>rfl⟩) (by decide) (by simp [zw,SO.ro]) (by decide) (by simp [j8,zf9,vi,zd4,noH,SO.ro]) ?_
   simp only [↓XC,XV,XT,Yg,seval,TES,uo,XRE,XR,XM]
   refine ⟨fun hf=>?_,fun hf=>Chk.mk (by simp only [inR];omega) fun _=>?_⟩
   ·simp only [Bool.not_eq_true'] at hf
    rw [←hr,hf];rfl
   ·simp only [Bool.not_eq_false'] at hf
    rw [hf,Bool.true_and] at hr
    refine ⟨⟨(i+1,(vw d o e.kind).2.1,(vw d o e.kind).2.2),by simp only;omega,by have:=ndEv_len (d:=d) (o:=o) (k:=e.kind);simp only;omega,ndEv_bnd ht,hr⟩,by simp only;omega, ?_⟩
    simp only [Int.natCast_add,Int.natCast_one]
    refine (Ent.ren1 [0,1,2] (by decide) (by simp only [Yd];refine ⟨?_, ?_, ?_⟩;(exact za (by simp [Yf]));(exact zb fun _=>rfl);(exact zb fun _=>rfl)) (by simp [zi,Vg.look,SV.mapH,muL]))
 ·rw [←hr,List.drop_of_length_le (by omega)]
  rfl
noncomputable def w6:PE:=peR (fun (l:List Ev)=>[.fs 8 (l.map evc)]) (fun (l:List Ev)=>l.length≤1048576) (fun (l:List Ev)=>.b (yf l))
theorem xc {l:List Ev}:w6 [.fs 8 (l.map evc)]=some (l.length≤1048576,.b (yf l)):=yh (by rintro a b h;simp_all [zbf]) l
theorem xb:PE1 Tryz.prog 17 w6:=yl (by rintro l hp;exact Nested_i l hp)
end Go.T
end
section
set_option linter.unusedVariables false
set_option linter.unusedSimpArgs false
set_option linter.unusedSectionVars false
set_option linter.unnecessarySimpa false
namespace Go.T
variable [Go.Vg.Glob]
open Go.Proofs Go.Vg Go.RowKit Go.TT Go.Pl
set_option maxRecDepth 10000
set_option maxHeartbeats 4000000
end Go.T
end
