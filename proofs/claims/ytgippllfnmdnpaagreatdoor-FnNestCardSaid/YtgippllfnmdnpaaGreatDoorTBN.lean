/- Own text: part TBN. -/
import Derived.Test.YtgippllfnmdnpaaGreatDoorTBK
import Derived.Test.YtgippllfnmdnpaaGreatDoorTBI
import Derived.Test.YtgippllfnmdnpaaGreatDoorTBL
import Derived.Test.YtgippllfnmdnpaaGreatDoorTBM
section
set_option linter.unusedVariables false
set_option linter.unusedSimpArgs false
set_option linter.unusedSectionVars false
set_option linter.unnecessarySimpa false
namespace Go.T
variable [Go.Vg.Glob] [Go.Vg.GlobTabs 0 1]
open Go.Proofs Go.Vg Go.RowKit Go.TT Go.Pl
set_option maxRecDepth 10000
set_option maxHeartbeats 4000000
theorem zda (s:Bs) (r:Rd) (fr:Bool) (la:Int) (p:Nat) (hp:s.length≤1048576∧p≤s.length):FnK Tryz.prog 216 5 [.ptr 0 0 0,.i .i64 (p:Nat)] [some (.blk false [.s s,.i .i64 ((r).pos:Nat),.slc 1 0 (r).ev.length,.slc 2 0 (r).ev.length,.mp 3,.slc 4 0 (r).hd.length,.i .i64 ((r).dp:Nat),.i .i64 (r).cd,.i .i64 ((r).pl:Nat),.b fr,.i .i64 la]),some (.row false 8 (r).ev.length (zg evc evz (r).ev)),some (.row false 1 (r).ev.length (zg qy false (r).dn)),some (.mapS (nmI (r).ev (r).bs)),some (.row false 2 (r).hd.length (zg hdc hdz (r).hd))] (fun z c=>z=.b (zau s p)∧c=[some (.blk false [.s s,.i .i64 ((r).pos:Nat),.slc 1 0 (r).ev.length,.slc 2 0 (r).ev.length,.mp 3,.slc 4 0 (r).hd.length,.i .i64 ((r).dp:Nat),.i .i64 (r).cd,.i .i64 ((r).pl:Nat),.b fr,.i .i64 la]),some (.row false 8 (r).ev.length (zg evc evz (r).ev)),some (.row false 1 (r).ev.length (zg qy false (r).dn)),some (.mapS (nmI (r).ev (r).bs)),some (.row false 2 (r).hd.length (zg hdc hdz (r).hd))]):=by
 refine FnK.ofE (cf:=zk Tryz.prog te [(144,yu)] 21 5 false (fun _=>false) (kp [(0,[0,1]),(1,[4])]) [] []) (zf te_ok (l:=[(144,yu)]) (⟨qw,trivial⟩) zc) Tryz.func216 rfl rfl rfl (by simp [zk]) (by simp [zk]) (rs:=[.tmp 4]) rfl 100000 ?_
 simp only [↓XC,XV,XT,Yg,reduceIte,Nat.reduceAdd,Nat.reduceLT,Nat.reduceEqDiff,Nat.reduceBEq,Nat.reduceLeDiff,reduceCtorEq,Nat.reduceSub,Nat.reduceMul,Int.reduceToNat,Int.reduceLT,Int.reduceLE,TES,ze,XRE,XR,XRH,Yh]
 rw [zu s hp.2]
 have e:(decide ((p:Int)≥(s.length:Nat))||!decide (mkA s p=0))=zau s p:=by
  unfold zau;congr 1;rw [decide_eq_decide];omega
 rw [e]
 exact Chk.mk (fun h=>⟨⟨h,h⟩,hp.1⟩) fun _=>⟨[0,1,2,3,4],by decide,by simp only [Yd];exact ⟨za (by simp [Yf,Yh]),zb fun _=>rfl,zb fun _=>rfl,zl,zb fun _=>rfl⟩,by simp only [↓XC,XV,XT,Yg,reduceIte,Nat.reduceAdd,Nat.reduceLT,Nat.reduceEqDiff,Nat.reduceBEq,Nat.reduceLeDiff,reduceCtorEq,Nat.reduceSub,Nat.reduceMul,Int.reduceToNat,Int.reduceLT,Int.reduceLE];try first | rfl | simp [Yf],by simp [zw,SO.ro],by simp⟩
theorem rlined (s:Bs) (r:Rd) (fr:Bool) (la:Int) (hp:s.length≤1048576∧r.cd=0∧r.pos≤s.length):FnK Tryz.prog 251 5 [.ptr 0 0 0] [some (.blk false [.s s,.i .i64 ((r).pos:Nat),.slc 1 0 (r).ev.length,.slc 2 0 (r).ev.length,.mp 3,.slc 4 0 (r).hd.length,.i .i64 ((r).dp:Nat),.i .i64 (r).cd,.i .i64 ((r).pl:Nat),.b fr,.i .i64 la]),some (.row false 8 (r).ev.length (zg evc evz (r).ev)),some (.row false 1 (r).ev.length (zg qy false (r).dn)),some (.mapS (nmI (r).ev (r).bs)),some (.row false 2 (r).hd.length (zg hdc hdz (r).hd))] (fun z c=>z=.b (decide ((zbs s r).cd=0))∧c=[some (.blk false [.s s,.i .i64 ((zbs s r).pos:Nat),.slc 1 0 (zbs s r).ev.length,.slc 2 0 (zbs s r).ev.length,.mp 3,.slc 4 0 (zbs s r).hd.length,.i .i64 ((zbs s r).dp:Nat),.i .i64 (zbs s r).cd,.i .i64 ((zbs s r).pl:Nat),.b fr,.i .i64 la]),some (.row false 8 (zbs s r).ev.length (zg evc evz (zbs s r).ev)),some (.row false 1 (zbs s r).ev.length (zg qy false (zbs s r).dn)),some (.mapS (nmI (zbs s r).ev (zbs s r).bs)),some (.row false 2 (zbs s r).hd.length (zg hdc hdz (zbs s r).hd))]):=by
 refine FnK.ofE (cf:=zk Tryz.prog te [(209,qd),(106,yp),(182,zfx)] 45 5 false (fun _=>true) (kp [(0,[0]),(1,[0,3]),(2,[0,3,24]),(3,[2]),(4,[0,3,4]),(5,[2])]) [] [(1,[],[],.q1 0 (.q1 1 (.q1 2 (.q1 4 (.q1 5 (.q1 6 (.q0 3 [3] (.q0 7 [7] (.alt 8 (.q1 9 (.fin)) (.fin)))))))))),(2,[],[],.q1 0 (.q1 1 (.q1 2 (.q1 4 (.q1 6 (.q1 7 (.q1 8 (.q0 3 [3] (.q0 9 [9] (.alt 5 (.q1 10 (.fin)) (.fin))))))))))),(4,[],[],.q1 0 (.q1 1 (.q1 2 (.q1 4 (.q1 5 (.q1 6 (.q1 7 (.q0 3 [3] (.q0 8 [8] (.q1 9 (.alt 10 (.q1 11 (.fin)) (.fin))))))))))))]) (zf te_ok (l:=[(209,qd),(106,yp),(182,zfx)]) (⟨w7,qi,zhd,trivial⟩) zc) Tryz.func251 rfl rfl rfl (by simp [zk]) (by simp [zk]) (rs:=[.tmp 2]) rfl 100000 ?_
 simp only [↓XC,XV,XT,Yg,reduceIte,Nat.reduceAdd,Nat.reduceLT,Nat.reduceEqDiff,Nat.reduceBEq,Nat.reduceLeDiff,reduceCtorEq,Nat.reduceSub,Nat.reduceMul,Int.reduceToNat,Int.reduceLT,Int.reduceLE,TES,wb,yc,zhe,XRE,XR,XRH,Yh]
 obtain ⟨hs,hcd,hpos⟩:=hp
 have hl:=zoq s r.pos
 rw [zu s hpos,zu s (show Pl.la s r.pos≤s.length by omega)]
 refine ⟨by decide +kernel,Chk.mk hs fun _=>⟨by decide +kernel,Chk.mk hs fun _=>⟨fun h=>?_,fun h=>⟨by decide +kernel,Chk.mk ⟨by omega,by omega,by omega⟩ fun _=>?_⟩⟩⟩⟩
 ·have e:zbs s r=r:=by unfold zbs;rw [if_pos (by simp at h;omega)]
  rw [e,decide_eq_true hcd]
  exact Wf (by simp only [↓XC,XV,XT,Yg,reduceIte,Nat.reduceAdd,Nat.reduceLT,Nat.reduceEqDiff,Nat.reduceBEq,Nat.reduceLeDiff,reduceCtorEq,Nat.reduceSub,Nat.reduceMul,Int.reduceToNat,Int.reduceLT,Int.reduceLE];try first | rfl | simp [Yf])
 ·have hw:¬wh s (Pl.la s r.pos)≠r.pos:=by simp at h;omega
  rw [show List.drop (Pl.la s r.pos) (List.take r.pos s)=sub s (Pl.la s r.pos) r.pos from rfl,show (UInt8.ofNat 9:UInt8)=9 from rfl]
  have hb:=idx_bd (sub s (Pl.la s r.pos) r.pos) 9
  have hsl:(sub s (Pl.la s r.pos) r.pos).length≤r.pos-Pl.la s r.pos:=by simp only [sub,List.length_drop,List.length_take];omega
  have hL:zbs s r=if idx (sub s (Pl.la s r.pos) r.pos) 9<0 then r else flt r 2 (Pl.la s r.pos+(idx (sub s (Pl.la s r.pos) r.pos) 9).toNat):=by unfold zbs;rw [if_neg hw]
  generalize idx (sub s (Pl.la s r.pos) r.pos) 9=k at *
  by_cases hk0:k<0
  ·simp only [decide_eq_true hk0]
   simp only [↓XC,XV,XT,Yg,reduceIte,Nat.reduceAdd,Nat.reduceLT,Nat.reduceEqDiff,Nat.reduceBEq,Nat.reduceLeDiff,reduceCtorEq,Nat.reduceSub,Nat.reduceMul,Int.reduceToNat,Int.reduceLT,Int.reduceLE,TES,XRE,XR,XRH,Yh,↓Ya,Yb]
   rw [hL,if_pos hk0,decide_eq_true hcd]
   exact Wf (by simp only [↓XC,XV,XT,Yg,reduceIte,Nat.reduceAdd,Nat.reduceLT,Nat.reduceEqDiff,Nat.reduceBEq,Nat.reduceLeDiff,reduceCtorEq,Nat.reduceSub,Nat.reduceMul,Int.reduceToNat,Int.reduceLT,Int.reduceLE];try first | rfl | simp [Yf])
  ·simp only [decide_eq_false hk0]
   simp only [↓XC,XV,XT,Yg,reduceIte,Nat.reduceAdd,Nat.reduceLT,Nat.reduceEqDiff,Nat.reduceBEq,Nat.reduceLeDiff,reduceCtorEq,Nat.reduceSub,Nat.reduceMul,Int.reduceToNat,Int.reduceLT,Int.reduceLE,TES,XRE,XR,XRH,Yh,↓Ya,Yb]
   refine Chk.mk (by simp only [inR];omega) fun _=>?_
   rw [show ((Pl.la s r.pos:Nat):Int)+k=((Pl.la s r.pos+k.toNat:Nat):Int) by omega,hL,if_neg hk0]
   refine Wm (wg s r fr la 2 (Pl.la s r.pos+k.toNat) hcd) ?_
   simp only [↓XC,XV,XT,Yg,reduceIte,Nat.reduceAdd,Nat.reduceLT,Nat.reduceEqDiff,Nat.reduceBEq,Nat.reduceLeDiff,reduceCtorEq,Nat.reduceSub,Nat.reduceMul,Int.reduceToNat,Int.reduceLT,Int.reduceLE,TES,XRE,XR,XRH,Yh,↓Ya,Yb,XM]
   exact Wf (by simp only [↓XC,XV,XT,Yg,reduceIte,Nat.reduceAdd,Nat.reduceLT,Nat.reduceEqDiff,Nat.reduceBEq,Nat.reduceLeDiff,reduceCtorEq,Nat.reduceSub,Nat.reduceMul,Int.reduceToNat,Int.reduceLT,Int.reduceLE];try first | rfl | simp [Yf])
theorem zw2 (s:Bs) (r:Rd) (fr:Bool) (la:Int) (p:Nat) (hp:s.length≤1048576∧r.cd=0∧p≤s.length):FnK Tryz.prog 253 5 [.ptr 0 0 0,.i .i64 (p:Nat)] [some (.blk false [.s s,.i .i64 ((r).pos:Nat),.slc 1 0 (r).ev.length,.slc 2 0 (r).ev.length,.mp 3,.slc 4 0 (r).hd.length,.i .i64 ((r).dp:Nat),.i .i64 (r).cd,.i .i64 ((r).pl:Nat),.b fr,.i .i64 la]),some (.row false 8 (r).ev.length (zg evc evz (r).ev)),some (.row false 1 (r).ev.length (zg qy false (r).dn)),some (.mapS (nmI (r).ev (r).bs)),some (.row false 2 (r).hd.length (zg hdc hdz (r).hd))] (fun z c=>z=.b (decide ((ovR s r p).cd=0))∧c=[some (.blk false [.s s,.i .i64 ((ovR s r p).pos:Nat),.slc 1 0 (ovR s r p).ev.length,.slc 2 0 (ovR s r p).ev.length,.mp 3,.slc 4 0 (ovR s r p).hd.length,.i .i64 ((ovR s r p).dp:Nat),.i .i64 (ovR s r p).cd,.i .i64 ((ovR s r p).pl:Nat),.b fr,.i .i64 la]),some (.row false 8 (ovR s r p).ev.length (zg evc evz (ovR s r p).ev)),some (.row false 1 (ovR s r p).ev.length (zg qy false (ovR s r p).dn)),some (.mapS (nmI (ovR s r p).ev (ovR s r p).bs)),some (.row false 2 (ovR s r p).hd.length (zg hdc hdz (ovR s r p).hd))]):=by
 refine FnK.ofE (cf:=zk Tryz.prog te [(143,jv)] 24 5 false (fun _=>true) (kp [(0,[0,1]),(1,[0]),(2,[4])]) [] []) (zf te_ok (l:=[(143,jv)]) (⟨un,trivial⟩) zc) Tryz.func253 rfl rfl rfl (by simp [zk]) (by simp [zk]) (rs:=[.tmp 4]) rfl 100000 ?_
 simp only [↓XC,XV,XT,Yg,reduceIte,Nat.reduceAdd,Nat.reduceLT,Nat.reduceEqDiff,Nat.reduceBEq,Nat.reduceLeDiff,reduceCtorEq,Nat.reduceSub,Nat.reduceMul,Int.reduceToNat,Int.reduceLT,Int.reduceLE,TES,yd,XRE,XR,XRH,Yh]
 obtain ⟨hs,hcd,hpos⟩:=hp
 have hg:=qt s p hpos
 rw [zu s hpos]
 refine Chk.mk hs fun _=>?_
 refine Wm (zda s (atR r (gpE s p)) fr la (gpE s p) ⟨hs,hg⟩) ?_
 simp only [↓XC,XV,XT,Yg,reduceIte,Nat.reduceAdd,Nat.reduceLT,Nat.reduceEqDiff,Nat.reduceBEq,Nat.reduceLeDiff,reduceCtorEq,Nat.reduceSub,Nat.reduceMul,Int.reduceToNat,Int.reduceLT,Int.reduceLE,TES,XRE,XR,XRH,Yh,XM]
 by_cases hst:zau s (gpE s p)=true
 ·rw [hst]
  simp only [↓XC,XV,XT,Yg,reduceIte,Nat.reduceAdd,Nat.reduceLT,Nat.reduceEqDiff,Nat.reduceBEq,Nat.reduceLeDiff,reduceCtorEq,Nat.reduceSub,Nat.reduceMul,Int.reduceToNat,Int.reduceLT,Int.reduceLE,TES,XRE,XR,XRH,Yh,↓Ya,Yb]
  have e:ovR s r p=atR r (gpE s p):=by unfold ovR;rw [if_pos hst]
  rw [e,decide_eq_true (show (atR r (gpE s p)).cd=0 from hcd)]
  exact Wf (by simp only [↓XC,XV,XT,Yg,reduceIte,Nat.reduceAdd,Nat.reduceLT,Nat.reduceEqDiff,Nat.reduceBEq,Nat.reduceLeDiff,reduceCtorEq,Nat.reduceSub,Nat.reduceMul,Int.reduceToNat,Int.reduceLT,Int.reduceLE];try first | rfl | simp [Yf])
 ·rw [Bool.not_eq_true] at hst
  rw [hst]
  simp only [↓XC,XV,XT,Yg,reduceIte,Nat.reduceAdd,Nat.reduceLT,Nat.reduceEqDiff,Nat.reduceBEq,Nat.reduceLeDiff,reduceCtorEq,Nat.reduceSub,Nat.reduceMul,Int.reduceToNat,Int.reduceLT,Int.reduceLE,TES,XRE,XR,XRH,Yh,↓Ya,Yb]
  have e:ovR s r p=zbs s (atR r (gpE s p)):=by unfold ovR;rw [if_neg (by rw [hst];simp)]
  rw [e]
  refine Wm (rlined s (atR r (gpE s p)) fr la ⟨hs,hcd,hg⟩) ?_
  simp only [↓XC,XV,XT,Yg,reduceIte,Nat.reduceAdd,Nat.reduceLT,Nat.reduceEqDiff,Nat.reduceBEq,Nat.reduceLeDiff,reduceCtorEq,Nat.reduceSub,Nat.reduceMul,Int.reduceToNat,Int.reduceLT,Int.reduceLE,TES,XRE,XR,XRH,Yh,↓Ya,Yb,XM]
  exact Wf (by simp only [↓XC,XV,XT,Yg,reduceIte,Nat.reduceAdd,Nat.reduceLT,Nat.reduceEqDiff,Nat.reduceBEq,Nat.reduceLeDiff,reduceCtorEq,Nat.reduceSub,Nat.reduceMul,Int.reduceToNat,Int.reduceLT,Int.reduceLE];try first | rfl | simp [Yf])
theorem zdr (s:Bs) (r:Rd) (fr:Bool) (la:Int) (ha:Bool) (an tg:Bs) (pf:Int) (pe:Nat) (e:Nat) (hp:r.ev.length≤16777216∧r.dn.length=r.ev.length∧r.bs≤r.ev.length):FnK Tryz.prog 254 1 [.ptr 0 0 0,.agg [.b ha,.s an,.s tg,.i .i64 pf,.i .i64 (pe:Nat)],.i .i64 (e:Nat)] [some (.blk false [.s s,.i .i64 ((r).pos:Nat),.slc 1 0 (r).ev.length,.slc 2 0 (r).ev.length,.mp 3,.slc 4 0 (r).hd.length,.i .i64 ((r).dp:Nat),.i .i64 (r).cd,.i .i64 ((r).pl:Nat),.b fr,.i .i64 la]),some (.row false 8 (r).ev.length (zg evc evz (r).ev)),some (.row false 1 (r).ev.length (zg qy false (r).dn)),some (.mapS (nmI (r).ev (r).bs)),some (.row false 2 (r).hd.length (zg hdc hdz (r).hd))] (fun z c=>z=.tup []∧c=[some (.blk false [.s s,.i .i64 ((ntR r (⟨ha,an,tg,pe⟩:Pp) e).pos:Nat),.slc 1 0 (ntR r (⟨ha,an,tg,pe⟩:Pp) e).ev.length,.slc 2 0 (ntR r (⟨ha,an,tg,pe⟩:Pp) e).ev.length,.mp 3,.slc 4 0 (ntR r (⟨ha,an,tg,pe⟩:Pp) e).hd.length,.i .i64 ((ntR r (⟨ha,an,tg,pe⟩:Pp) e).dp:Nat),.i .i64 (ntR r (⟨ha,an,tg,pe⟩:Pp) e).cd,.i .i64 ((ntR r (⟨ha,an,tg,pe⟩:Pp) e).pl:Nat),.b true,.i .i64 la]),some (.row false 8 (ntR r (⟨ha,an,tg,pe⟩:Pp) e).ev.length (zg evc evz (ntR r (⟨ha,an,tg,pe⟩:Pp) e).ev)),some (.row false 1 (ntR r (⟨ha,an,tg,pe⟩:Pp) e).ev.length (zg qy false (ntR r (⟨ha,an,tg,pe⟩:Pp) e).dn)),some (.mapS (nmI (ntR r (⟨ha,an,tg,pe⟩:Pp) e).ev (ntR r (⟨ha,an,tg,pe⟩:Pp) e).bs)),some (.row false 2 (ntR r (⟨ha,an,tg,pe⟩:Pp) e).hd.length (zg hdc hdz (ntR r (⟨ha,an,tg,pe⟩:Pp) e).hd))]):=by
 refine FnK.ofE (cf:=zk Tryz.prog te [] 16 1 false (fun _=>false) (kp [(0,[0,2,4]),(1,[0,2]),(2,[0]),(3,[])]) [] []) (zf te_ok (l:=[]) (trivial) zc) Tryz.func254 rfl rfl rfl (by simp [zk]) (by simp [zk]) (rs:=[]) rfl 100000 ?_
 simp only [↓XC,XV,XT,Yg,reduceIte,Nat.reduceAdd,Nat.reduceLT,Nat.reduceEqDiff,Nat.reduceBEq,Nat.reduceLeDiff,reduceCtorEq,Nat.reduceSub,Nat.reduceMul,Int.reduceToNat,Int.reduceLT,Int.reduceLE,TES,XRE,XR,XRH,Yh]
 refine Wb (zg5 s r fr la 1 [] ha an tg pf pe hp) ?_
 simp only [↓XC,XV,XT,Yg,reduceIte,Nat.reduceAdd,Nat.reduceLT,Nat.reduceEqDiff,Nat.reduceBEq,Nat.reduceLeDiff,reduceCtorEq,Nat.reduceSub,Nat.reduceMul,Int.reduceToNat,Int.reduceLT,Int.reduceLE,TES,XRE,XR,XRH,Yh,XM]
 try simp only [ntR,atR,y5,zn,List.length_append,List.length_cons,List.length_nil,Nat.zero_add]
 exact Wf (by simp only [↓XC,XV,XT,Yg,reduceIte,Nat.reduceAdd,Nat.reduceLT,Nat.reduceEqDiff,Nat.reduceBEq,Nat.reduceLeDiff,reduceCtorEq,Nat.reduceSub,Nat.reduceMul,Int.reduceToNat,Int.reduceLT,Int.reduceLE];try first | rfl | simp [Yf])
theorem zw9 (s:Bs) (r:Rd) (fr:Bool) (la:Int) (n:Int) (lo:Bool) (hp:s.length≤1048576∧r.pos≤s.length):FnK Tryz.prog 279 5 [.ptr 0 0 0,.i .i64 n,.b lo] [some (.blk false [.s s,.i .i64 ((r).pos:Nat),.slc 1 0 (r).ev.length,.slc 2 0 (r).ev.length,.mp 3,.slc 4 0 (r).hd.length,.i .i64 ((r).dp:Nat),.i .i64 (r).cd,.i .i64 ((r).pl:Nat),.b fr,.i .i64 la]),some (.row false 8 (r).ev.length (zg evc evz (r).ev)),some (.row false 1 (r).ev.length (zg qy false (r).dn)),some (.mapS (nmI (r).ev (r).bs)),some (.row false 2 (r).hd.length (zg hdc hdz (r).hd))] (fun z c=>z=.b (dpA s r.pos n lo)∧c=[some (.blk false [.s s,.i .i64 ((r).pos:Nat),.slc 1 0 (r).ev.length,.slc 2 0 (r).ev.length,.mp 3,.slc 4 0 (r).hd.length,.i .i64 ((r).dp:Nat),.i .i64 (r).cd,.i .i64 ((r).pl:Nat),.b fr,.i .i64 la]),some (.row false 8 (r).ev.length (zg evc evz (r).ev)),some (.row false 1 (r).ev.length (zg qy false (r).dn)),some (.mapS (nmI (r).ev (r).bs)),some (.row false 2 (r).hd.length (zg hdc hdz (r).hd))]):=by
 refine FnK.ofE (cf:=zk Tryz.prog te [(248,xg),(281,xi)] 39 5 false (fun _=>false) (kp [(0,[0,1,2]),(1,[0,1,2,7]),(2,[6])]) [] [(1,[],[],.q1 0 (.q1 1 (.q1 2 (.q1 4 (.q1 5 (.q1 6 (.q0 3 [3] (.q0 7 [7] (.alt 8 (.q1 9 (.fin)) (.fin)))))))))),(2,[],[],.q1 0 (.q1 1 (.q1 2 (.q1 3 (.q1 4 (.q1 5 (.q1 6 (.q1 7 (.q1 8 (.q1 9 (.q1 10 (.q1 11 (.q1 12 (.q1 13 (.q1 15 (.q1 16 (.q1 17 (.q0 14 [14] (.q0 18 [18] (.alt 19 (.q1 20 (.q1 21 (.q1 22 (.fin)))) (.fin)))))))))))))))))))))]) (zf te_ok (l:=[(248,xg),(281,xi)]) (⟨za7,zb2,trivial⟩) zc) Tryz.func279 rfl rfl rfl (by simp [zk]) (by simp [zk]) (rs:=[.tmp 6]) rfl 100000 ?_
 simp only [↓XC,XV,XT,Yg,reduceIte,Nat.reduceAdd,Nat.reduceLT,Nat.reduceEqDiff,Nat.reduceBEq,Nat.reduceLeDiff,reduceCtorEq,Nat.reduceSub,Nat.reduceMul,Int.reduceToNat,Int.reduceLT,Int.reduceLE,TES,wi,y7,XRE,XR,XRH,Yh]
 rw [zu s hp.2]
 refine ⟨by decide +kernel,Chk.mk hp.1 fun _=>⟨by decide +kernel,Chk.mk (fun h=>⟨⟨h,h⟩,hp.1,by omega,by omega⟩) fun _=>?_⟩⟩
 rw [show (decide ((coA s r.pos:Int)>n)||lo&&decide ((coA s r.pos:Int)=n)&&zo0 s r.pos)=dpA s r.pos n lo from rfl]
 exact Wf (by simp only [↓XC,XV,XT,Yg,reduceIte,Nat.reduceAdd,Nat.reduceLT,Nat.reduceEqDiff,Nat.reduceBEq,Nat.reduceLeDiff,reduceCtorEq,Nat.reduceSub,Nat.reduceMul,Int.reduceToNat,Int.reduceLT,Int.reduceLE];try first | rfl | simp [Yf])
theorem rnext (s:Bs) (r:Rd) (fr:Bool) (la:Int) (hp:s.length≤1048576∧r.cd=0∧r.pos≤s.length):FnK Tryz.prog 215 5 [.ptr 0 0 0] [some (.blk false [.s s,.i .i64 ((r).pos:Nat),.slc 1 0 (r).ev.length,.slc 2 0 (r).ev.length,.mp 3,.slc 4 0 (r).hd.length,.i .i64 ((r).dp:Nat),.i .i64 (r).cd,.i .i64 ((r).pl:Nat),.b fr,.i .i64 la]),some (.row false 8 (r).ev.length (zg evc evz (r).ev)),some (.row false 1 (r).ev.length (zg qy false (r).dn)),some (.mapS (nmI (r).ev (r).bs)),some (.row false 2 (r).hd.length (zg hdc hdz (r).hd))] (fun z c=>z=.b (decide ((nxK s ⟨r,fr,0⟩).r.cd=0))∧c=[some (.blk false [.s s,.i .i64 (((nxK s ⟨r,fr,0⟩).r).pos:Nat),.slc 1 0 ((nxK s ⟨r,fr,0⟩).r).ev.length,.slc 2 0 ((nxK s ⟨r,fr,0⟩).r).ev.length,.mp 3,.slc 4 0 ((nxK s ⟨r,fr,0⟩).r).hd.length,.i .i64 (((nxK s ⟨r,fr,0⟩).r).dp:Nat),.i .i64 ((nxK s ⟨r,fr,0⟩).r).cd,.i .i64 (((nxK s ⟨r,fr,0⟩).r).pl:Nat),.b fr,.i .i64 (r.pos:Nat)]),some (.row false 8 ((nxK s ⟨r,fr,0⟩).r).ev.length (zg evc evz ((nxK s ⟨r,fr,0⟩).r).ev)),some (.row false 1 ((nxK s ⟨r,fr,0⟩).r).ev.length (zg qy false ((nxK s ⟨r,fr,0⟩).r).dn)),some (.mapS (nmI ((nxK s ⟨r,fr,0⟩).r).ev ((nxK s ⟨r,fr,0⟩).r).bs)),some (.row false 2 ((nxK s ⟨r,fr,0⟩).r).hd.length (zg hdc hdz ((nxK s ⟨r,fr,0⟩).r).hd))]):=by
 refine FnK.ofE (cf:=zk Tryz.prog te [(210,wv)] 40 5 false (fun _=>false) (kp [(0,[0]),(1,[0]),(2,[0,16]),(3,[0,3,4]),(4,[0,3,30]),(5,[2]),(6,[2])]) [] [(3,[],[],.q1 0 (.q1 1 (.q1 2 (.q1 4 (.q1 5 (.q1 6 (.q0 3 [3] (.q0 7 [7] (.alt 8 (.q1 9 (.q1 10 (.q1 11 (.q1 12 (.q1 13 (.fin)))))) (.fin))))))))))]) (zf te_ok (l:=[(210,wv)]) (⟨j6,trivial⟩) zc) Tryz.func215 rfl rfl rfl (by simp [zk]) (by simp [zk]) (rs:=[.tmp 2]) rfl 100000 ?_
 simp only [↓XC,XV,XT,Yg,reduceIte,Nat.reduceAdd,Nat.reduceLT,Nat.reduceEqDiff,Nat.reduceBEq,Nat.reduceLeDiff,reduceCtorEq,Nat.reduceSub,Nat.reduceMul,Int.reduceToNat,Int.reduceLT,Int.reduceLE,TES,yz,XRE,XR,XRH,Yh]
 obtain ⟨hs,hcd,hpos⟩:=hp
 rw [zu s hpos]
 have hR:=kx hpos
 refine ⟨fun hf=>⟨by decide +kernel,Chk.mk hs fun _=>⟨fun h=>?_,fun h=>?_⟩⟩,fun h=>?_⟩
 ·have hf':fr=false:=by simpa using hf
  subst hf'
  refine Wm (wg s r false (r.pos:Nat) 8 (rsA s r.pos).1 hcd) ?_
  simp only [↓XC,XV,XT,Yg,reduceIte,Nat.reduceAdd,Nat.reduceLT,Nat.reduceEqDiff,Nat.reduceBEq,Nat.reduceLeDiff,reduceCtorEq,Nat.reduceSub,Nat.reduceMul,Int.reduceToNat,Int.reduceLT,Int.reduceLE,TES,XRE,XR,XRH,Yh,XM]
  have e:nxK s ⟨r,false,0⟩=⟨flt r 8 (rsA s r.pos).1,false,r.pos⟩:=by unfold nxK;rw [if_pos ⟨rfl,by simpa using h⟩]
  rw [e]
  exact Wf (by simp only [↓XC,XV,XT,Yg,reduceIte,Nat.reduceAdd,Nat.reduceLT,Nat.reduceEqDiff,Nat.reduceBEq,Nat.reduceLeDiff,reduceCtorEq,Nat.reduceSub,Nat.reduceMul,Int.reduceToNat,Int.reduceLT,Int.reduceLE];try first | rfl | simp [Yf])
 ·have hf':fr=false:=by simpa using hf
  subst hf'
  refine Wm (zw2 s r false (r.pos:Nat) r.pos ⟨hs,hcd,hpos⟩) ?_
  simp only [↓XC,XV,XT,Yg,reduceIte,Nat.reduceAdd,Nat.reduceLT,Nat.reduceEqDiff,Nat.reduceBEq,Nat.reduceLeDiff,reduceCtorEq,Nat.reduceSub,Nat.reduceMul,Int.reduceToNat,Int.reduceLT,Int.reduceLE,TES,XRE,XR,XRH,Yh,XM]
  have e:nxK s ⟨r,false,0⟩=⟨ovR s r r.pos,false,r.pos⟩:=by unfold nxK;rw [if_neg (by simpa using h)]
  rw [e]
  exact Wf (by simp only [↓XC,XV,XT,Yg,reduceIte,Nat.reduceAdd,Nat.reduceLT,Nat.reduceEqDiff,Nat.reduceBEq,Nat.reduceLeDiff,reduceCtorEq,Nat.reduceSub,Nat.reduceMul,Int.reduceToNat,Int.reduceLT,Int.reduceLE];try first | rfl | simp [Yf])
 ·have hf':fr=true:=by simpa using h
  subst hf'
  refine Wm (zw2 s r true (r.pos:Nat) r.pos ⟨hs,hcd,hpos⟩) ?_
  simp only [↓XC,XV,XT,Yg,reduceIte,Nat.reduceAdd,Nat.reduceLT,Nat.reduceEqDiff,Nat.reduceBEq,Nat.reduceLeDiff,reduceCtorEq,Nat.reduceSub,Nat.reduceMul,Int.reduceToNat,Int.reduceLT,Int.reduceLE,TES,XRE,XR,XRH,Yh,XM]
  have e:nxK s ⟨r,true,0⟩=⟨ovR s r r.pos,true,r.pos⟩:=by unfold nxK;rw [if_neg (by simpa using h)]
  rw [e]
  exact Wf (by simp only [↓XC,XV,XT,Yg,reduceIte,Nat.reduceAdd,Nat.reduceLT,Nat.reduceEqDiff,Nat.reduceBEq,Nat.reduceLeDiff,reduceCtorEq,Nat.reduceSub,Nat.reduceMul,Int.reduceToNat,Int.reduceLT,Int.reduceLE];try first | rfl | simp [Yf])
theorem rdone (s:Bs) (r:Rd) (fr:Bool) (k lt:Nat) (hp:r.ev.length≤16777216∧r.dn.length=r.ev.length∧r.bs≤r.ev.length∧k<r.ev.length∧0<r.dp∧r.dp≤40):FnK Tryz.prog 316 1 [.ptr 0 0 0,.i .i64 (k:Nat)] [some (.blk false [.s s,.i .i64 ((r).pos:Nat),.slc 1 0 (r).ev.length,.slc 2 0 (r).ev.length,.mp 3,.slc 4 0 (r).hd.length,.i .i64 ((r).dp:Nat),.i .i64 (r).cd,.i .i64 ((r).pl:Nat),.b fr,.i .i64 (lt:Nat)]),some (.row false 8 (r).ev.length (zg evc evz (r).ev)),some (.row false 1 (r).ev.length (zg qy false (r).dn)),some (.mapS (nmI (r).ev (r).bs)),some (.row false 2 (r).hd.length (zg hdc hdz (r).hd))] (fun z c=>z=.b true∧c=[some (.blk false [.s s,.i .i64 (((dnK ⟨r,fr,lt⟩ k).r).pos:Nat),.slc 1 0 ((dnK ⟨r,fr,lt⟩ k).r).ev.length,.slc 2 0 ((dnK ⟨r,fr,lt⟩ k).r).ev.length,.mp 3,.slc 4 0 ((dnK ⟨r,fr,lt⟩ k).r).hd.length,.i .i64 (((dnK ⟨r,fr,lt⟩ k).r).dp:Nat),.i .i64 ((dnK ⟨r,fr,lt⟩ k).r).cd,.i .i64 (((dnK ⟨r,fr,lt⟩ k).r).pl:Nat),.b true,.i .i64 (lt:Nat)]),some (.row false 8 ((dnK ⟨r,fr,lt⟩ k).r).ev.length (zg evc evz ((dnK ⟨r,fr,lt⟩ k).r).ev)),some (.row false 1 ((dnK ⟨r,fr,lt⟩ k).r).ev.length (zg qy false ((dnK ⟨r,fr,lt⟩ k).r).dn)),some (.mapS (nmI ((dnK ⟨r,fr,lt⟩ k).r).ev ((dnK ⟨r,fr,lt⟩ k).r).bs)),some (.row false 2 ((dnK ⟨r,fr,lt⟩ k).r).hd.length (zg hdc hdz ((dnK ⟨r,fr,lt⟩ k).r).hd))]):=by
 refine FnK.ofE (cf:=zk Tryz.prog te [] 18 1 false (fun _=>false) (kp [(0,[0,1]),(1,[0]),(2,[0]),(3,[]),(4,[4])]) [] []) (zf te_ok (l:=[]) (trivial) zc) Tryz.func316 rfl rfl rfl (by simp [zk]) (by simp [zk]) (rs:=[.tmp 4]) rfl 100000 ?_
 simp only [↓XC,XV,XT,Yg,reduceIte,Nat.reduceAdd,Nat.reduceLT,Nat.reduceEqDiff,Nat.reduceBEq,Nat.reduceLeDiff,reduceCtorEq,Nat.reduceSub,Nat.reduceMul,Int.reduceToNat,Int.reduceLT,Int.reduceLE,TES,XRE,XR,XRH,Yh]
 refine Wb (rshut s r fr (lt:Nat) k hp) ?_
 simp only [↓XC,XV,XT,Yg,reduceIte,Nat.reduceAdd,Nat.reduceLT,Nat.reduceEqDiff,Nat.reduceBEq,Nat.reduceLeDiff,reduceCtorEq,Nat.reduceSub,Nat.reduceMul,Int.reduceToNat,Int.reduceLT,Int.reduceLE,TES,XRE,XR,XRH,Yh,XM]
 try simp only [dnK,atR,shR,List.length_append,List.length_cons,List.length_nil,Nat.zero_add]
 exact Wf (by simp only [↓XC,XV,XT,Yg,reduceIte,Nat.reduceAdd,Nat.reduceLT,Nat.reduceEqDiff,Nat.reduceBEq,Nat.reduceLeDiff,reduceCtorEq,Nat.reduceSub,Nat.reduceMul,Int.reduceToNat,Int.reduceLT,Int.reduceLE];try first | rfl | simp [Yf])
end Go.T
end
section
set_option linter.unusedVariables false
set_option linter.unusedSimpArgs false
set_option linter.unusedSectionVars false
set_option linter.unnecessarySimpa false
namespace Go.T
variable [Go.Vg.Glob] [Go.Vg.GlobTabs 0 1]
open Go.Proofs Go.Vg Go.RowKit Go.TT Go.Pl Go.TSh
set_option maxRecDepth 10000
set_option maxHeartbeats 4000000
theorem isFar (s:Bs) (hp:s.length≤1048576):PF Tryz.prog 360 [.s s] (.b (far s)):=by
 refine ⟨rfl,rfl,FnK.of (cf:=zk Tryz.prog te [(107,zm),(185,qe)] 6 0 false (fun _=>false) (kp [(0,[0]),(1,[2])]) [] []) (zf te_ok (l:=[(107,zm),(185,qe)]) (⟨z6,wt,trivial⟩) zc) Tryz.func360 rfl rfl rfl (by simp [zk]) (by simp [zk]) (rs:=[.tmp 2]) rfl 100000 ?_⟩
 simp only [↓XC,XV,XT,Yg,seval,TES,zd,z7,XR]
 exact Chk.mk hp fun _=>by rw [show spot s 0=0 from by unfold spot;omega];rfl
noncomputable def zgq:PE:=peR (fun (s:Bs)=>[.s s]) (fun (s:Bs)=>s.length≤1048576) (fun (s:Bs)=>.b (far s))
theorem zhf {s:Bs}:zgq [.s s]=some (s.length≤1048576,.b (far s)):=yh (by rintro a b h;simp_all []) s
theorem zqr:PE1 Tryz.prog 360 zgq:=yl (by rintro s hp;exact isFar s hp)
theorem zrg (l:List Bs) (hp:lnW l≤1073741824∧∀ x∈l,x.length≤1048576):PF Tryz.prog 354 [.fs 1 (l.map zbi)] (.s (fbk l [] 0 [])):=by
 refine ⟨rfl,rfl,FnK.of (cf:=zk Tryz.prog te [(189,zb1),(360,zgq)] 52 0 false (fun _=>false) (kp [(0,[0]),(1,[0,3]),(2,[0,3,4]),(3,[0,3,4,5]),(4,[3,4,5,8,9,10]),(5,[3,4,5,8,9,10,11]),(6,[3,4,5,7,8,9,10]),(7,[3,4,5,7,8,9,10,15]),(8,[3,4,5,8,9,10]),(9,[3,7,8,9,10]),(10,[3,4,5,7,8,9,10,22]),(11,[3,7,8,9,10]),(12,[3,5,7,8,9,10,29]),(13,[3,7,8,9,10]),(14,[3,5,7,8,9,10,41]),(15,[3,7,8,9,10]),(16,[3,7,8,9,10]),(17,[3,4,8,9,10]),(18,[3,4,5,8,9,10]),(19,[3,4,5,8,9,10]),(20,[2])]) [] []) (zf te_ok (l:=[(189,zb1),(360,zgq)]) (⟨ze1,zqr,trivial⟩) zc) Tryz.func354 rfl rfl rfl (by simp [zk]) (by simp [zk]) (rs:=[.tmp 2]) rfl 100000 ?_⟩
 simp only [↓XC,XV,XT,Yg,seval,TES,j4,zhf,XR]
 refine yv.of (ι:={x:(Nat×Nat)×Bs×Bs // x.1.1≤l.length∧x.2.1.length+x.1.2+lnW (l.drop x.1.1)≤lnW l∧x.2.2.length≤1048576∧fbk (l.drop x.1.1) x.2.2 x.1.2 x.2.1=fbk l [] 0 []}) (fun x=>⟨[(3,.s x.1.2.1),(4,.s x.1.2.2),(5,.i .i64 (x.1.1.2:Nat)),(8,.fs 1 (l.map zbi)),(9,.i .i64 (l.length:Nat)),(10,.i .i64 (x.1.1.1:Nat))],[]⟩) (fun x=>l.length-x.1.1.1) ⟨((0,0),[],[]),Nat.zero_le _,by simp,by simp,rfl⟩ (Ent.refl _ _) ?_
 rintro ⟨⟨⟨i,k⟩,out,last⟩,h1,h2,h3,h4⟩
 simp only [↓XC,XV,XT,Yg,seval,TES,zhf,j4,XR]
 simp only at h1 h2 h3 h4
 have hR:∀ m:Nat,Lib.repeatL [10] m=List.replicate m 10:=fun m=>by have:=Lib.repeatL_replicate 10 1 m;simpa using this
 have hW:=hp.1
 have hN:=zdd l
 have e1:((k:Int)+1).toNat=k+1:=by omega
 simp only [e1,hR]
 refine ⟨fun h=>Chk.mk (by omega) fun _=>?_,fun h=>?_⟩
 ·have hi:i<l.length:=by omega
  have hd:=zzo hi
  have hlw:=lnW_drop hi
  have hx:(l.getD i []).length≤1048576:=hp.2 _ (by rw [List.getD_eq_getElem?_getD,List.getElem?_eq_getElem hi];exact List.getElem_mem hi)
  rw [hlw] at h2
  rw [hd] at h4
  refine ⟨fun hx0=>Chk.mk (by simp only [inR];omega) fun _=>Chk.mk (by simp only [inR];omega) fun _=>?_,fun hx0=>⟨fun hl0=>Chk.mk (by omega) fun _=>Chk.mk (by simp only [List.length_append,List.length_replicate,List.length_singleton];omega) fun _=>Chk.mk (by simp only [List.length_append,List.length_replicate,List.length_singleton];omega) fun _=>Chk.mk (by simp only [inR];omega) fun _=>?_,fun hl0=>Chk.mk h3 fun _=>Chk.mk (fun h=>⟨h,hx⟩) fun _=>⟨fun hf=>Chk.mk (by simp only [inR];omega) fun _=>Chk.mk (by omega) fun _=>Chk.mk (by simp only [List.length_append,List.length_replicate,List.length_singleton];omega) fun _=>Chk.mk (by simp only [List.length_append,List.length_replicate,List.length_singleton];omega) fun _=>Chk.mk (by simp only [inR];omega) fun _=>?_,fun hf=>⟨fun hk=>Chk.mk (by omega) fun _=>Chk.mk (by omega) fun _=>Chk.mk (by simp only [inR];omega) fun _=>?_,fun hk=>Chk.mk (by omega) fun _=>Chk.mk (by simp only [List.length_append,List.length_replicate,List.length_singleton];omega) fun _=>Chk.mk (by simp only [List.length_append,List.length_replicate,List.length_singleton];omega) fun _=>Chk.mk (by simp only [inR];omega) fun _=>?_⟩⟩⟩⟩
  ·rw [hx0] at h2
   simp only [List.length_nil] at h2
   exact ⟨⟨((i+1,k+1),out,last),by simp only;omega,by simp only;omega,h3,by simp only;rw [←h4,fbk_e hx0]⟩,by simp only;omega,(by first | exact Ent.refl _ _ | (simp only [Int.natCast_add,Int.natCast_one];exact Ent.refl _ _))⟩
  ·exact ⟨⟨((i+1,0),out++List.replicate k 10++l.getD i [],l.getD i []),by simp only;omega,by simp only [List.length_append,List.length_replicate,List.length_singleton];omega,by simp only;omega,by simp only;rw [←h4,fbk_n hx0,if_pos hl0]⟩,by simp only;omega,(by first | exact Ent.refl _ _ | (simp only [Int.natCast_add,Int.natCast_one];exact Ent.refl _ _))⟩
  ·exact ⟨⟨((i+1,0),out++List.replicate (k+1) 10++l.getD i [],l.getD i []),by simp only;omega,by simp only [List.length_append,List.length_replicate,List.length_singleton];omega,by simp only;omega,by simp only;rw [←h4,fbk_n hx0,if_neg hl0,if_pos (by simpa using hf)]⟩,by simp only;omega,(by first | exact Ent.refl _ _ | (simp only [Int.natCast_add,Int.natCast_one];exact Ent.refl _ _))⟩
  ·exact ⟨⟨((i+1,0),out++[32]++l.getD i [],l.getD i []),by simp only;omega,by simp only [List.length_append,List.length_replicate,List.length_singleton];omega,by simp only;omega,by simp only;rw [←h4,fbk_n hx0,if_neg hl0,if_neg (by simpa using hf),if_pos (by omega)]⟩,by simp only;omega,(by first | exact Ent.refl _ _ | (simp only [Int.natCast_add,Int.natCast_one];exact Ent.refl _ _))⟩
  ·exact ⟨⟨((i+1,0),out++List.replicate k 10++l.getD i [],l.getD i []),by simp only;omega,by simp only [List.length_append,List.length_replicate,List.length_singleton];omega,by simp only;omega,by simp only;rw [←h4,fbk_n hx0,if_neg hl0,if_neg (by simpa using hf),if_neg (by omega)]⟩,by simp only;omega,(by first | exact Ent.refl _ _ | (simp only [Int.natCast_add,Int.natCast_one];exact Ent.refl _ _))⟩
 ·rw [←h4,List.drop_eq_nil_of_le (by omega)];rfl
noncomputable def xf:PE:=peR (fun (l:List Bs)=>[.fs 1 (l.map zbi)]) (fun (l:List Bs)=>lnW l≤1073741824∧∀ x∈l,x.length≤1048576) (fun (l:List Bs)=>.s (fbk l [] 0 []))
theorem jh {l:List Bs}:xf [.fs 1 (l.map zbi)]=some (lnW l≤1073741824∧∀ x∈l,x.length≤1048576,.s (fbk l [] 0 [])):=yh (by rintro a b h;simp_all [zsb]) l
theorem ze8:PE1 Tryz.prog 354 xf:=yl (by rintro l hp;exact zrg l hp)
theorem zrh (l:List Bs) (fo:Bool) (ch:Int) (hp:lnW l≤1073741824∧∀ x∈l,x.length≤1048576):PF Tryz.prog 347 [.fs 1 (l.map zbi),.b fo,.i .i64 ch] (.s (btA l fo ch)):=by
 refine ⟨rfl,rfl,FnK.of (cf:=zk Tryz.prog te [(189,zb1),(353,zgp),(354,xf)] 55 0 false (fun _=>false) (kp [(0,[0,1,2]),(1,[0,1,2,7]),(2,[0,1,2,7,20]),(3,[0,1,2,7]),(4,[0,1,2,7,24]),(5,[0,26]),(6,[6]),(7,[6]),(8,[0,1,2,7,8]),(9,[0,2,7,8,34]),(10,[0,2,7,8]),(11,[0,7,8,39]),(12,[0,7,8,39,40]),(13,[6]),(14,[0,7,8,43]),(15,[6]),(16,[6])]) [] []) (zf te_ok (l:=[(189,zb1),(353,zgp),(354,xf)]) (⟨ze1,zqp,ze8,trivial⟩) zc) Tryz.func347 rfl rfl rfl (by simp [zk]) (by simp [zk]) (rs:=[.tmp 6]) rfl 100000 ?_⟩
 simp only [↓XC,XV,XT,Yg,seval,TES,j4,um,jh,XR]
 refine yv.of (ι:={n:Nat // n≤l.length∧lsN l n=lsN l l.length}) (fun x=>⟨[(0,.fs 1 (l.map zbi)),(1,.b fo),(2,.i .i64 ch),(7,.i .i64 (x.1:Nat))],[]⟩) (fun x=>x.1) ⟨l.length,Nat.le_refl _,rfl⟩ (Ent.refl _ _) ?_
 rintro ⟨n,h1,h2⟩
 simp only [↓XC,XV,XT,Yg,seval,TES,jh,j4,um,XR]
 have hR:∀ m:Nat,Lib.repeatL [10] m=List.replicate m 10:=fun m=>by have:=Lib.repeatL_replicate 10 1 m;simpa using this
 have hW:=hp.1
 have e1:((n:Int)-1).toNat=n-1:=by omega
 have hN:=zdd l
 simp only [e1,hR,←List.map_take,um]
 simp only [↓XC,XV,XT,Yg,seval,TES,jh,j4,um,XR]
 simp only [hR,←List.map_take]
 simp only [↓XC,XV,XT,Yg,seval,TES,jh,j4,um,XR]
 simp only [hR]
 have hN2:=zmg l n
 have hJ:=zmi (l.take n)
 have hF:=zmr (l.take n) [] 0 []
 simp only [List.length_nil] at hF
 have hT:(l.take n).length≤l.length:=by rw [List.length_take];omega
 refine Chk.mk (fun _=>(by simp only [inR];omega)) fun _=>Chk.mk (fun _=>by omega) fun _=>⟨fun h=>Chk.mk (by simp only [inR];omega) fun _=>?_,fun h=>?_⟩
 ·simp only [gt_iff_lt,Bool.and_eq_true,decide_eq_true_eq] at h
  refine ⟨⟨n-1,by omega,by rw [←lsN_step (by omega) h.2];exact h2⟩,by simp only;omega, ?_⟩
  rw [show ((n:Int)-1)=((n-1:Nat):Int) by omega]
  exact Ent.refl _ _
 ·simp only [gt_iff_lt,Bool.and_eq_false_iff,decide_eq_false_iff_not] at h
  have hn:lsN l l.length=n:=by rw [←h2];exact lsN_end fun h3=>h.resolve_left (by omega)
  have e2:((1:Int)+l.length-n).toNat=1+l.length-n:=by omega
  unfold btA
  rw [hn]
  refine ⟨fun h0=>⟨fun hc=>Chk.mk (by omega) fun _=>by rw [if_pos (by omega),if_pos hc],fun hc=>by rw [if_pos (by omega),if_neg hc]⟩,fun h0=>Chk.mk (by omega) fun _=>Chk.mk ⟨by omega,by omega⟩ fun _=>?_⟩
  have h0':¬n=0:=by omega
  refine ⟨fun hf=>Chk.mk (by omega) fun _=>Chk.mk ⟨by omega,fun x hx=>hp.2 x (List.mem_of_mem_take hx)⟩ fun _=>?_,fun hf=>?_⟩
  ·exact ⟨fun hc=>by rw [if_neg h0',if_pos hc,if_pos hf],fun hc=>⟨fun hc2=>Chk.mk (by simp only [inR];omega) fun _=>Chk.mk (by simp only [inR];omega) fun _=>Chk.mk (by omega) fun _=>Chk.mk (by rw [List.length_replicate];omega) fun _=>by rw [if_neg h0',if_neg hc,if_pos hc2,if_pos hf,e2],fun hc2=>Chk.mk (by omega) fun _=>by rw [if_neg h0',if_neg hc,if_neg hc2,if_pos hf]⟩⟩
  ·have hf2:¬fo=true:=by simpa using hf
   exact ⟨fun hc=>by rw [if_neg h0',if_pos hc,if_neg hf2],fun hc=>⟨fun hc2=>Chk.mk (by simp only [inR];omega) fun _=>Chk.mk (by simp only [inR];omega) fun _=>Chk.mk (by omega) fun _=>Chk.mk (by rw [List.length_replicate];omega) fun _=>by rw [if_neg h0',if_neg hc,if_pos hc2,if_neg hf2,e2],fun hc2=>Chk.mk (by omega) fun _=>by rw [if_neg h0',if_neg hc,if_neg hc2,if_neg hf2]⟩⟩
noncomputable def xh:PE:=peR (fun (x:List Bs×Bool×Int)=>match x with | (l,fo,ch)=>[.fs 1 (l.map zbi),.b fo,.i .i64 ch]) (fun (x:List Bs×Bool×Int)=>match x with | (l,fo,ch)=>lnW l≤1073741824∧∀ x∈l,x.length≤1048576) (fun (x:List Bs×Bool×Int)=>match x with | (l,fo,ch)=>.s (btA l fo ch))
theorem qv {l:List Bs} {fo:Bool} {ch:Int}:xh [.fs 1 (l.map zbi),.b fo,.i .i64 ch]=some (lnW l≤1073741824∧∀ x∈l,x.length≤1048576,.s (btA l fo ch)):=yh (by rintro ⟨a0,a1,a2⟩ ⟨b0,b1,b2⟩ h;simp_all [zsb]) (l,fo,ch)
theorem ze9:PE1 Tryz.prog 347 xh:=yl (by rintro ⟨l,fo,ch⟩ hp;exact zrh l fo ch hp)
end Go.T
end
