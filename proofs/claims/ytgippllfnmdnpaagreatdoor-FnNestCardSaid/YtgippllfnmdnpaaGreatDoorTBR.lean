/- Own text: part TBR. -/
import Derived.Test.YtgippllfnmdnpaaGreatDoorTBQ
import Derived.Test.YtgippllfnmdnpaaGreatDoorTBL
section
set_option linter.unusedVariables false
set_option linter.unusedSimpArgs false
set_option linter.unusedSectionVars false
set_option linter.unnecessarySimpa false
namespace Go.T
variable [Go.Vg.Glob] [Go.Vg.GlobTabs 0 1]
open Go.Proofs Go.Vg Go.RowKit Go.TT Go.Pl
set_option maxRecDepth 10000
set_option maxHeartbeats 4000000
theorem rroot (s:Bs) (x:Rb) (m:Bool) (hp:s.length≤1048576∧Ok s x.r∧x.r.dp=0∧(m=true→x.r.pos+3≤s.length)):FnK Tryz.prog 214 1 [.ptr 0 0 0,.b m] [some (.blk false [.s s,.i .i64 (((x).r).pos:Nat),.slc 1 0 ((x).r).ev.length,.slc 2 0 ((x).r).ev.length,.mp 3,.slc 4 0 ((x).r).hd.length,.i .i64 (((x).r).dp:Nat),.i .i64 ((x).r).cd,.i .i64 (((x).r).pl:Nat),.b (x).fr,.i .i64 ((x).lt:Nat)]),some (.row false 8 ((x).r).ev.length (zg evc evz ((x).r).ev)),some (.row false 1 ((x).r).ev.length (zg qy false ((x).r).dn)),some (.mapS (nmI ((x).r).ev ((x).r).bs)),some (.row false 2 ((x).r).hd.length (zg hdc hdz ((x).r).hd))] (fun z c=>z=.b (decide ((rtK s m x).r.cd=0))∧c=[some (.blk false [.s s,.i .i64 ((((rtK s m x)).r).pos:Nat),.slc 1 0 (((rtK s m x)).r).ev.length,.slc 2 0 (((rtK s m x)).r).ev.length,.mp 3,.slc 4 0 (((rtK s m x)).r).hd.length,.i .i64 ((((rtK s m x)).r).dp:Nat),.i .i64 (((rtK s m x)).r).cd,.i .i64 ((((rtK s m x)).r).pl:Nat),.b ((rtK s m x)).fr,.i .i64 (((rtK s m x)).lt:Nat)]),some (.row false 8 (((rtK s m x)).r).ev.length (zg evc evz (((rtK s m x)).r).ev)),some (.row false 1 (((rtK s m x)).r).ev.length (zg qy false (((rtK s m x)).r).dn)),some (.mapS (nmI (((rtK s m x)).r).ev (((rtK s m x)).r).bs)),some (.row false 2 (((rtK s m x)).r).hd.length (zg hdc hdz (((rtK s m x)).r).hd))]):=by
 refine FnK.ofE (cf:=zk Tryz.prog te [(210,wv),(106,yp)] 59 1 false (fun _=>true) (kp [(0,[0,1]),(1,[0,9]),(2,[4]),(3,[0,5]),(4,[0,5,6,7]),(5,[0,5,6,31]),(6,[0]),(7,[4]),(8,[0,6,46]),(9,[4]),(10,[0,6,52]),(11,[]),(12,[4]),(13,[4])]) [] []) (zf te_ok (l:=[(210,wv),(106,yp)]) (⟨j6,qi,trivial⟩) zc) Tryz.func214 rfl rfl rfl (by simp [zk]) (by simp [zk]) (rs:=[.tmp 4]) rfl 100000 ?_
 simp only [↓XC,XV,XT,Yg,seval,TES,yz,yc,XRE,XR,XRH,Yh,onB,↓Yc]
 obtain ⟨hs,ho,hd,hm⟩:=hp
 have hpos:=ho.pos
 have hcd:=ho.cd
 refine ⟨fun h=>?_,fun h=>Chk.mk (by simp only [inR];omega) fun _=>Chk.mk hs fun _=>?_⟩
 ·have hm':m=false:=by simpa using h
  subst hm'
  refine Wm (rlined s x.r x.fr (x.lt:Nat) ⟨hs,hcd,hpos⟩) ?_
  simp only [↓XC,XV,XT,Yg,seval,TES,XRE,XR,XRH,Yh,↓Ya,Yb,yo,onB,↓Yc,XM]
  obtain ⟨v,hv⟩:∃ v,v=zbs s x.r:=⟨_,rfl⟩
  rw [←hv]
  have hK:rtK s false x=if v.cd≠0 then onB x v else bnF s 40 (-1) false false (onB x v):=by unfold rtK;rw [if_pos rfl,←hv]
  by_cases hvz:v.cd=0
  ·have hve:v=x.r:=by rw [hv];exact zh1 (by rw [←hv];exact hvz)
   simp only [decide_eq_true hvz]
   simp only [↓XC,XV,XT,Yg,seval,TES,XRE,XR,XRH,Yh,↓Ya,Yb,yo,onB,↓Yc]
   have hN:=zxa s hs 40 (onB x v) (-1) false false (by show Ok s v;rw [hve];exact ho) (by show v.dp+40=40;rw [hve];omega)
   unfold zcj rdC at hN
   refine Wb (hN) ?_
   simp only [↓XC,XV,XT,Yg,seval,TES,XRE,XR,XRH,Yh,↓Ya,Yb,yo,onB,↓Yc,XM]
   rw [hK,if_neg (by simpa using hvz)]
   exact Wf
  ·simp only [decide_eq_false hvz]
   simp only [↓XC,XV,XT,Yg,seval,TES,XRE,XR,XRH,Yh,↓Ya,Yb,yo,onB,↓Yc]
   rw [hK,if_pos hvz]
   exact Wf (by simp only [↓XC,XV,XT,Yg,seval];try simp [Yf,onB,hvz])
 have hm':m=true:=by simpa using h
 subst hm'
 have hl:=hm rfl
 have hw1:=vl s (x.r.pos+3)
 have hw2:=vk s (x.r.pos+3) hl
 have hg1:=wj s (x.r.pos+3)
 have hg2:=qt s (x.r.pos+3) hl
 rw [show spot s ((x.r.pos:Int)+3)=x.r.pos+3 from by unfold spot;omega,show (x.r.pos:Int)+3=((x.r.pos+3:Nat):Int) by omega]
 refine ⟨fun h2=>Chk.mk hs fun _=>?_,fun h2=>?_⟩
 ·have hN:=zxa s hs 40 (onB x (atR x.r (wh s (x.r.pos+3)))) (-1) true false (ho.at (by omega) hw2) (by show x.r.dp+40=40;omega)
  unfold zcj rdC at hN
  refine Wb (hN) ?_
  simp only [↓XC,XV,XT,Yg,seval,TES,XRE,XR,XRH,Yh,↓Ya,Yb,yo,onB,↓Yc,XM]
  have e:rtK s true x=bnF s 40 (-1) true false (onB x (atR x.r (wh s (x.r.pos+3)))):=by unfold rtK;rw [if_neg (by simp),if_pos (by simpa using h2)]
  rw [e]
  exact Wf
 ·refine Wm (zw2 s x.r x.fr (x.lt:Nat) (x.r.pos+3) ⟨hs,hcd,hl⟩) ?_
  simp only [↓XC,XV,XT,Yg,seval,TES,XRE,XR,XRH,Yh,↓Ya,Yb,yo,onB,↓Yc,XM]
  obtain ⟨v,hv⟩:∃ v,v=ovR s x.r (x.r.pos+3):=⟨_,rfl⟩
  rw [←hv]
  have hK:rtK s true x=if v.cd≠0 then onB x v else if zau s v.pos=true then ntB x v (ppz 0) (rsA s (x.r.pos+3)).1 else bnF s 40 (-1) false false (onB x v):=by unfold rtK;rw [if_neg (by simp),if_neg (by simpa using h2),←hv]
  by_cases hvz:v.cd=0
  ·have hve:v=atR x.r (gpE s (x.r.pos+3)):=by rw [hv];exact zap (by rw [←hv];exact hvz)
   have hvo:Ok s v:=by rw [hve];exact ho.at (by omega) hg2
   simp only [decide_eq_true hvz]
   simp only [↓XC,XV,XT,Yg,seval,TES,XRE,XR,XRH,Yh,↓Ya,Yb,yo,onB,↓Yc]
   refine Wm (zda s v x.fr (x.lt:Nat) v.pos ⟨hs,hvo.pos⟩) ?_
   simp only [↓XC,XV,XT,Yg,seval,TES,XRE,XR,XRH,Yh,↓Ya,Yb,yo,onB,↓Yc,XM]
   cases hst:zau s v.pos
   ·simp only [↓XC,XV,XT,Yg,seval,TES,XRE,XR,XRH,Yh,↓Ya,Yb,yo,onB,↓Yc]
    have hN:=zxa s hs 40 (onB x v) (-1) false false hvo (by show v.dp+40=40;rw [hve];show x.r.dp+40=40;omega)
    unfold zcj rdC at hN
    refine Wb (hN) ?_
    simp only [↓XC,XV,XT,Yg,seval,TES,XRE,XR,XRH,Yh,↓Ya,Yb,yo,onB,↓Yc,XM]
    rw [hK,if_neg (by simpa using hvz),if_neg (by rw [hst];simp)]
    exact Wf
   ·simp only [↓XC,XV,XT,Yg,seval,TES,XRE,XR,XRH,Yh,↓Ya,Yb,yo,onB,↓Yc]
    refine Wb (zdr s v x.fr (x.lt:Nat) false [] [] 0 0 (rsA s (x.r.pos+3)).1 ⟨Nat.le_trans (hvo.size hs) (by decide),hvo.dn,hvo.bs⟩) ?_
    simp only [↓XC,XV,XT,Yg,seval,TES,XRE,XR,XRH,Yh,↓Ya,Yb,yo,onB,↓Yc,XM]
    rw [hK,if_neg (by simpa using hvz),if_pos hst]
    try simp only [ntB,ppz,ntR,atR,y5,zn,List.length_append,List.length_cons,List.length_nil,Nat.zero_add]
    exact Wf (by simp only [↓XC,XV,XT,Yg,seval];try simp [Yf,onB,hvz])
  ·simp only [decide_eq_false hvz]
   simp only [↓XC,XV,XT,Yg,seval,TES,XRE,XR,XRH,Yh,↓Ya,Yb,yo,onB,↓Yc]
   rw [hK,if_pos hvz]
   exact Wf (by simp only [↓XC,XV,XT,Yg,seval];try simp [Yf,onB,hvz])
end Go.T
end
section
set_option linter.unusedVariables false
set_option linter.unusedSimpArgs false
set_option linter.unusedSectionVars false
set_option linter.unnecessarySimpa false
namespace Go.T
variable [Go.Vg.Glob] [Go.Vg.GlobTabs 0 1]
open Go.Proofs Go.Vg Go.RowKit Go.TT Go.Pl
set_option maxRecDepth 10000
set_option maxHeartbeats 4000000
theorem zw8 (s:Bs) (x:Rb) (hp:s.length≤1048576∧OkS s x.r):FnK Tryz.prog 146 1 [.ptr 0 0 0] [some (.blk false [.s s,.i .i64 (((x).r).pos:Nat),.slc 1 0 ((x).r).ev.length,.slc 2 0 ((x).r).ev.length,.mp 3,.slc 4 0 ((x).r).hd.length,.i .i64 (((x).r).dp:Nat),.i .i64 ((x).r).cd,.i .i64 (((x).r).pl:Nat),.b (x).fr,.i .i64 ((x).lt:Nat)]),some (.row false 8 ((x).r).ev.length (zg evc evz ((x).r).ev)),some (.row false 1 ((x).r).ev.length (zg qy false ((x).r).dn)),some (.mapS (nmI ((x).r).ev ((x).r).bs)),some (.row false 2 ((x).r).hd.length (zg hdc hdz ((x).r).hd))] (fun z c=>z=.b (decide ((dcK s x).r.cd=0))∧c=[some (.blk false [.s s,.i .i64 ((((dcK s x)).r).pos:Nat),.slc 1 0 (((dcK s x)).r).ev.length,.slc 2 0 (((dcK s x)).r).ev.length,.mp 3,.slc 4 0 (((dcK s x)).r).hd.length,.i .i64 ((((dcK s x)).r).dp:Nat),.i .i64 (((dcK s x)).r).cd,.i .i64 ((((dcK s x)).r).pl:Nat),.b ((dcK s x)).fr,.i .i64 (((dcK s x)).lt:Nat)]),some (.row false 8 (((dcK s x)).r).ev.length (zg evc evz (((dcK s x)).r).ev)),some (.row false 1 (((dcK s x)).r).ev.length (zg qy false (((dcK s x)).r).dn)),some (.mapS (nmI (((dcK s x)).r).ev (((dcK s x)).r).bs)),some (.row false 2 (((dcK s x)).r).hd.length (zg hdc hdz (((dcK s x)).r).hd))]):=by
 refine FnK.ofE (cf:=zk Tryz.prog te [(144,yu)] 77 1 false (fun _=>true) (kp [(0,[0]),(1,[0]),(2,[0]),(3,[0,3]),(4,[0,3,14]),(5,[0,3,17]),(6,[2]),(7,[0,4]),(8,[0,4]),(9,[0,4]),(10,[0,43]),(11,[2]),(12,[0,50]),(13,[2]),(14,[0,5]),(15,[0,5,72]),(16,[2]),(17,[]),(18,[2])]) [] [(7,[],[],.q1 0 (.q1 1 (.q1 2 (.q1 4 (.q1 5 (.q1 6 (.q0 3 [3] (.q0 7 [7] (.alt 8 (.q1 9 (.q1 10 (.fin))) (.fin)))))))))),(14,[],[],.q1 0 (.q1 1 (.q1 2 (.q1 4 (.q1 5 (.q1 6 (.q0 3 [3] (.q0 7 [7] (.alt 8 (.q1 9 (.q1 10 (.fin))) (.fin))))))))))]) (zf te_ok (l:=[(144,yu)]) (⟨qw,trivial⟩) zc) Tryz.func146 rfl rfl rfl (by simp [zk]) (by simp [zk]) (rs:=[.tmp 2]) rfl 100000 ?_
 simp only [↓XC,XV,XT,Yg,reduceIte,Nat.reduceAdd,Nat.reduceLT,Nat.reduceEqDiff,Nat.reduceBEq,Nat.reduceLeDiff,reduceCtorEq,Nat.reduceSub,Nat.reduceMul,Int.reduceToNat,Int.reduceLT,Int.reduceLE,TES,ze,XRE,XR,XRH,Yh,onB,↓Yc]
 obtain ⟨hs,ho⟩:=hp
 have hok:=ho.ok
 have hpos:=hok.pos
 have hcd:=hok.cd
 refine yv.of (ι:={u:Bool×Rd // OkD s u.2∧u.2.ev=x.r.ev∧drL s u.1 u.2=dcS s x.r}) (fun u=>⟨[(0,.ptr 0 0 0),(3,.ptr 5 0 0)],[some (.blk false [.s s,.i .i64 ((u.1.2).pos:Nat),.slc 1 0 (u.1.2).ev.length,.slc 2 0 (u.1.2).ev.length,.mp 3,.slc 4 0 (u.1.2).hd.length,.i .i64 ((u.1.2).dp:Nat),.i .i64 (u.1.2).cd,.i .i64 ((u.1.2).pl:Nat),.b x.fr,.i .i64 (x.lt:Nat)]),some (.row false 8 (u.1.2).ev.length (zg evc evz (u.1.2).ev)),some (.row false 1 (u.1.2).ev.length (zg qy false (u.1.2).dn)),some (.mapS (nmI (u.1.2).ev (u.1.2).bs)),some (.row false 2 (u.1.2).hd.length (zg hdc hdz (u.1.2).hd)),some (.blk false [.b u.1.1])]⟩) (fun u=>s.length-u.1.2.pos) ⟨(false,{ x.r with bs:=x.r.ev.length,hd:=[] }),⟨hcd,hpos,hok.dn,Nat.le_refl _,ho.dp,ho.sz,Nat.zero_le _,fun h hh=>by simp at hh⟩,rfl,rfl⟩ (Ent.trans (b:=⟨[(0,.ptr 0 0 0),(3,.ptr 6 0 0)],[some (.blk false [.s s,.i .i64 (x.r.pos:Nat),.slc 1 0 x.r.ev.length,.slc 2 0 x.r.ev.length,.mp 5,.slc 7 0 0,.i .i64 (x.r.dp:Nat),.i .i64 x.r.cd,.i .i64 (x.r.pl:Nat),.b x.fr,.i .i64 (x.lt:Nat)]),some (.row false 8 (x.r).ev.length (zg evc evz (x.r).ev)),some (.row false 1 (x.r).ev.length (zg qy false (x.r).dn)),some (.mapS (nmI (x.r).ev (x.r).bs)),some (.row false 2 (x.r).hd.length (zg hdc hdz (x.r).hd)),some (.mapS []),some (.blk false [.b false])]++([(2,zg hdc hdz [])].map fun p=>some (.row false p.1 0 p.2))⟩) (Ent.nl [(2,zg hdc hdz [])] (by simp [nlE,nlV,Vg.look]) (by simp [nlC,nlO,nlL,nlV])) (by simp only [nmI_self,List.map_cons,List.map_nil,List.cons_append,List.nil_append];exact (Ent.ren1 [0,1,2,5,7,6] (by decide) (by simp only [Yd];exact ⟨za (by simp [Yf,Yh]),zb fun _=>rfl,zb fun _=>rfl,zl,zb fun _=>rfl,za (by simp [Yf])⟩) (by simp [zi,Vg.look,SV.mapH,muL])))) ?_
 rintro ⟨⟨yy,u⟩,hu1,hu2,hu3⟩
 simp only [↓XC,XV,XT,Yg,reduceIte,Nat.reduceAdd,Nat.reduceLT,Nat.reduceEqDiff,Nat.reduceBEq,Nat.reduceLeDiff,reduceCtorEq,Nat.reduceSub,Nat.reduceMul,Int.reduceToNat,Int.reduceLT,Int.reduceLE,TES,XRE,XR,XRH,Yh,↓Ya,Yb,yo,onB,↓Yc]
 simp only at hu1 hu2 hu3
 have hup:=hu1.pos
 refine Wm (risDir s u x.fr (x.lt:Nat) ⟨hs,hup⟩) ?_
 simp only [↓XC,XV,XT,Yg,reduceIte,Nat.reduceAdd,Nat.reduceLT,Nat.reduceEqDiff,Nat.reduceBEq,Nat.reduceLeDiff,reduceCtorEq,Nat.reduceSub,Nat.reduceMul,Int.reduceToNat,Int.reduceLT,Int.reduceLE,TES,XRE,XR,XRH,Yh,↓Ya,Yb,yo,onB,↓Yc,XM]
 cases hdi:zp8 s u.pos
 ·simp only [↓XC,XV,XT,Yg,reduceIte,Nat.reduceAdd,Nat.reduceLT,Nat.reduceEqDiff,Nat.reduceBEq,Nat.reduceLeDiff,reduceCtorEq,Nat.reduceSub,Nat.reduceMul,Int.reduceToNat,Int.reduceLT,Int.reduceLE,TES,ze,XRE,XR,XRH,Yh,↓Ya,Yb,yo,onB,↓Yc]
  have hS:dcS s x.r=u:=by rw [←hu3,drL,if_neg (by rw [hdi];simp)]
  rw [zu s hup]
  refine ⟨by decide +kernel,Chk.mk hs fun _=>?_⟩
  obtain ⟨m,hm⟩:∃ m,m=decide (mkA s u.pos=1):=⟨_,rfl⟩
  rw [←hm]
  have husz:=hu1.sz
  refine Wb (zi0 s u x.fr (x.lt:Nat) 2 0 m [] [] [] 0 0 ⟨by omega,hu1.dn,hu1.bs⟩) ?_
  simp only [↓XC,XV,XT,Yg,reduceIte,Nat.reduceAdd,Nat.reduceLT,Nat.reduceEqDiff,Nat.reduceBEq,Nat.reduceLeDiff,reduceCtorEq,Nat.reduceSub,Nat.reduceMul,Int.reduceToNat,Int.reduceLT,Int.reduceLE,TES,XRE,XR,XRH,Yh,↓Ya,Yb,yo,onB,↓Yc,XM]
  have hR:=rroot s ⟨zn u (evD m) true,false,x.lt⟩ m ⟨hs,hu1.tell hs,hu1.dp,fun h=>(uq (s:=s) (p:=u.pos) (by rw [hm] at h;rw [of_decide_eq_true h];decide)).1⟩
  obtain ⟨y,hy⟩:∃ y,y=rtK s m ⟨zn u (evD m) true,false,x.lt⟩:=⟨_,rfl⟩
  rw [←hy] at hR
  try simp only [zn,evD,List.length_append,List.length_cons,List.length_nil,Nat.zero_add] at hR
  simp only [show (!decide ((2:Int)=3)&&!decide ((2:Int)=4))=true from rfl]
  refine zj.reb (hR) [0,1,2,3,4] (by simp [Yf]) (by simp only [Ye];exact ⟨by omega,za (by simp [Yf,Yh,evD,onB]),by omega,zb fun _=>rfl,by omega,zb fun _=>rfl,by omega,zl,by omega,zb fun _=>rfl⟩) (by decide) (by simp [zw,SO.ro]) (by decide) (by simp [j8,zf9,vi,zd4,noH,SO.ro,wl]) ?_
  simp only [↓XC,XV,XT,Yg,reduceIte,Nat.reduceAdd,Nat.reduceLT,Nat.reduceEqDiff,Nat.reduceBEq,Nat.reduceLeDiff,reduceCtorEq,Nat.reduceSub,Nat.reduceMul,Int.reduceToNat,Int.reduceLT,Int.reduceLE,TES,XRE,XR,XRH,Yh,evD,↓Ya,Yb,yo,onB,↓Yc,XM]
  have hdc:dcK s x=if y.r.cd≠0 then y else if (nxK s y).r.cd≠0 then nxK s y else dcT s (nxK s y):=by
   unfold dcK
   rw [hS,if_neg (show ¬u.cd≠0 by have:=hu1.cd;simpa using this),←hm]
   unfold dcM
   rw [hy];rfl
  by_cases hyz:y.r.cd=0
  ·simp only [decide_eq_true hyz]
   simp only [↓XC,XV,XT,Yg,reduceIte,Nat.reduceAdd,Nat.reduceLT,Nat.reduceEqDiff,Nat.reduceBEq,Nat.reduceLeDiff,reduceCtorEq,Nat.reduceSub,Nat.reduceMul,Int.reduceToNat,Int.reduceLT,Int.reduceLE,TES,ze,XRE,XR,XRH,Yh,↓Ya,Yb,yo,onB,↓Yc]
   have hyk:StK s (zn u (evD m) true) y.r:=by
    have h:=hyz
    rw [hy] at h ⊢
    exact rtK_k (x:=⟨zn u (evD m) true,false,x.lt⟩) (hu1.tell hs) hu1.dp (fun h=>(uq (s:=s) (p:=u.pos) (by rw [hm] at h;rw [of_decide_eq_true h];decide)).1) h
   have hyo:=hyk.ok
   refine Wm (rnext s y.r y.fr (y.lt:Nat) ⟨hs,hyz,hyo.pos⟩) ?_
   simp only [↓XC,XV,XT,Yg,reduceIte,Nat.reduceAdd,Nat.reduceLT,Nat.reduceEqDiff,Nat.reduceBEq,Nat.reduceLeDiff,reduceCtorEq,Nat.reduceSub,Nat.reduceMul,Int.reduceToNat,Int.reduceLT,Int.reduceLE,TES,XRE,XR,XRH,Yh,↓Ya,Yb,yo,onB,↓Yc,XM]
   obtain ⟨w,hw⟩:∃ w,w=nxK s y:=⟨_,rfl⟩
   have hw0:(nxK s ⟨y.r,y.fr,0⟩).r=w.r:=by rw [hw];rfl
   rw [hw0,show y.r.pos=w.lt by rw [hw,(zj6 s y).2],show y.fr=w.fr by rw [hw,(zj6 s y).1]]
   rw [if_neg (by simpa using hyz),←hw] at hdc
   by_cases hwz:w.r.cd=0
   ·simp only [decide_eq_true hwz]
    simp only [↓XC,XV,XT,Yg,reduceIte,Nat.reduceAdd,Nat.reduceLT,Nat.reduceEqDiff,Nat.reduceBEq,Nat.reduceLeDiff,reduceCtorEq,Nat.reduceSub,Nat.reduceMul,Int.reduceToNat,Int.reduceLT,Int.reduceLE,TES,ze,XRE,XR,XRH,Yh,↓Ya,Yb,yo,onB,↓Yc]
    have hwe:=zof (s:=s) (x:=y) (by rw [←hw];exact hwz)
    rw [←hw] at hwe
    have hwp:w.r.pos≤s.length:=by rw [hwe];exact qt s _ hyo.pos
    have hwO:Ok s w.r:=by rw [hwe];exact hyo.at (wj s _) (qt s _ hyo.pos)
    have hwl:w.r.ev.length≤16777216:=Nat.le_trans (hwO.size hs) (by decide)
    rw [if_neg (by simpa using hwz)] at hdc
    unfold dcT at hdc
    refine Wm (zda s w.r w.fr (w.lt:Nat) w.r.pos ⟨hs,hwp⟩) ?_
    simp only [↓XC,XV,XT,Yg,reduceIte,Nat.reduceAdd,Nat.reduceLT,Nat.reduceEqDiff,Nat.reduceBEq,Nat.reduceLeDiff,reduceCtorEq,Nat.reduceSub,Nat.reduceMul,Int.reduceToNat,Int.reduceLT,Int.reduceLE,TES,ze,XRE,XR,XRH,Yh,↓Ya,Yb,yo,onB,↓Yc,XM]
    cases hst:zau s w.r.pos
    ·simp only [↓XC,XV,XT,Yg,reduceIte,Nat.reduceAdd,Nat.reduceLT,Nat.reduceEqDiff,Nat.reduceBEq,Nat.reduceLeDiff,reduceCtorEq,Nat.reduceSub,Nat.reduceMul,Int.reduceToNat,Int.reduceLT,Int.reduceLE,TES,ze,XRE,XR,XRH,Yh,↓Ya,Yb,yo,onB,↓Yc]
     refine Wm (wg s w.r w.fr (w.lt:Nat) 9 w.r.pos hwz) ?_
     simp only [↓XC,XV,XT,Yg,reduceIte,Nat.reduceAdd,Nat.reduceLT,Nat.reduceEqDiff,Nat.reduceBEq,Nat.reduceLeDiff,reduceCtorEq,Nat.reduceSub,Nat.reduceMul,Int.reduceToNat,Int.reduceLT,Int.reduceLE,TES,XRE,XR,XRH,Yh,↓Ya,Yb,yo,onB,↓Yc,XM]
     rw [hdc,if_pos hst]
     exact Wf (by simp only [↓XC,XV,XT,Yg,reduceIte,Nat.reduceAdd,Nat.reduceLT,Nat.reduceEqDiff,Nat.reduceBEq,Nat.reduceLeDiff,reduceCtorEq,Nat.reduceSub,Nat.reduceMul,Int.reduceToNat,Int.reduceLT,Int.reduceLE];try first | rfl | simp [Yf,onB])
    ·simp only [↓XC,XV,XT,Yg,reduceIte,Nat.reduceAdd,Nat.reduceLT,Nat.reduceEqDiff,Nat.reduceBEq,Nat.reduceLeDiff,reduceCtorEq,Nat.reduceSub,Nat.reduceMul,Int.reduceToNat,Int.reduceLT,Int.reduceLE,TES,ze,XRE,XR,XRH,Yh,↓Ya,Yb,yo,onB,↓Yc]
     rw [if_neg (by rw [hst];simp)] at hdc
     rw [zu s hwp]
     refine ⟨by decide +kernel,Chk.mk hs fun _=>?_⟩
     by_cases hk2:mkA s w.r.pos=2
     ·simp only [decide_eq_true hk2]
      simp only [↓XC,XV,XT,Yg,reduceIte,Nat.reduceAdd,Nat.reduceLT,Nat.reduceEqDiff,Nat.reduceBEq,Nat.reduceLeDiff,reduceCtorEq,Nat.reduceSub,Nat.reduceMul,Int.reduceToNat,Int.reduceLT,Int.reduceLE,TES,ze,XRE,XR,XRH,Yh,↓Ya,Yb,yo,onB,↓Yc]
      rw [if_pos hk2] at hdc
      refine Wm (rrest s w.r w.fr (w.lt:Nat) ⟨hs,hwz,(uq (s:=s) (p:=w.r.pos) (by rw [hk2];decide)).1⟩) ?_
      simp only [↓XC,XV,XT,Yg,reduceIte,Nat.reduceAdd,Nat.reduceLT,Nat.reduceEqDiff,Nat.reduceBEq,Nat.reduceLeDiff,reduceCtorEq,Nat.reduceSub,Nat.reduceMul,Int.reduceToNat,Int.reduceLT,Int.reduceLE,TES,ze,XRE,XR,XRH,Yh,↓Ya,Yb,yo,onB,↓Yc,XM]
      obtain ⟨v,hv⟩:∃ v,v=rmR s w.r:=⟨_,rfl⟩
      rw [←hv]
      rw [←hv] at hdc
      by_cases hvz:v.cd=0
      ·simp only [decide_eq_true hvz]
       simp only [↓XC,XV,XT,Yg,reduceIte,Nat.reduceAdd,Nat.reduceLT,Nat.reduceEqDiff,Nat.reduceBEq,Nat.reduceLeDiff,reduceCtorEq,Nat.reduceSub,Nat.reduceMul,Int.reduceToNat,Int.reduceLT,Int.reduceLE,TES,ze,XRE,XR,XRH,Yh,↓Ya,Yb,yo,onB,↓Yc]
       have hve:v=atR w.r (rsA s (w.r.pos+3)).1:=by rw [hv];exact (zw5 (by rw [←hv];exact hvz)).1
       refine Wb (zi0 s v w.fr (w.lt:Nat) 8 0 true [] [] [] 0 0 ⟨by rw [hve];exact hwl,by rw [hve];exact hwO.dn,by rw [hve];exact hwO.bs⟩) ?_
       simp only [↓XC,XV,XT,Yg,reduceIte,Nat.reduceAdd,Nat.reduceLT,Nat.reduceEqDiff,Nat.reduceBEq,Nat.reduceLeDiff,reduceCtorEq,Nat.reduceSub,Nat.reduceMul,Int.reduceToNat,Int.reduceLT,Int.reduceLE,TES,XRE,XR,XRH,Yh,↓Ya,Yb,yo,onB,↓Yc,XM]
       rw [hdc,if_neg (by simpa using hvz)]
       try simp only [onB,zn,evDE,show (!decide ((8:Int)=3)&&!decide ((8:Int)=4))=true from rfl,List.length_append,List.length_cons,List.length_nil,Nat.zero_add]
       exact Wf (by simp only [↓XC,XV,XT,Yg,reduceIte,Nat.reduceAdd,Nat.reduceLT,Nat.reduceEqDiff,Nat.reduceBEq,Nat.reduceLeDiff,reduceCtorEq,Nat.reduceSub,Nat.reduceMul,Int.reduceToNat,Int.reduceLT,Int.reduceLE];try simp [Yf,onB,hvz])
      ·simp only [decide_eq_false hvz]
       simp only [↓XC,XV,XT,Yg,reduceIte,Nat.reduceAdd,Nat.reduceLT,Nat.reduceEqDiff,Nat.reduceBEq,Nat.reduceLeDiff,reduceCtorEq,Nat.reduceSub,Nat.reduceMul,Int.reduceToNat,Int.reduceLT,Int.reduceLE,TES,ze,XRE,XR,XRH,Yh,↓Ya,Yb,yo,onB,↓Yc]
       rw [hdc,if_pos hvz]
       exact Wf (by simp only [↓XC,XV,XT,Yg,reduceIte,Nat.reduceAdd,Nat.reduceLT,Nat.reduceEqDiff,Nat.reduceBEq,Nat.reduceLeDiff,reduceCtorEq,Nat.reduceSub,Nat.reduceMul,Int.reduceToNat,Int.reduceLT,Int.reduceLE];try simp [Yf,onB,hvz])
     ·simp only [decide_eq_false hk2]
      simp only [↓XC,XV,XT,Yg,reduceIte,Nat.reduceAdd,Nat.reduceLT,Nat.reduceEqDiff,Nat.reduceBEq,Nat.reduceLeDiff,reduceCtorEq,Nat.reduceSub,Nat.reduceMul,Int.reduceToNat,Int.reduceLT,Int.reduceLE,TES,ze,XRE,XR,XRH,Yh,↓Ya,Yb,yo,onB,↓Yc]
      rw [if_neg hk2] at hdc
      refine Wb (zi0 s w.r w.fr (w.lt:Nat) 8 0 false [] [] [] 0 0 ⟨hwl,hwO.dn,hwO.bs⟩) ?_
      simp only [↓XC,XV,XT,Yg,reduceIte,Nat.reduceAdd,Nat.reduceLT,Nat.reduceEqDiff,Nat.reduceBEq,Nat.reduceLeDiff,reduceCtorEq,Nat.reduceSub,Nat.reduceMul,Int.reduceToNat,Int.reduceLT,Int.reduceLE,TES,XRE,XR,XRH,Yh,↓Ya,Yb,yo,onB,↓Yc,XM]
      rw [hdc]
      try simp only [onB,zn,evDE,show (!decide ((8:Int)=3)&&!decide ((8:Int)=4))=true from rfl,List.length_append,List.length_cons,List.length_nil,Nat.zero_add]
      exact Wf (by simp only [↓XC,XV,XT,Yg,reduceIte,Nat.reduceAdd,Nat.reduceLT,Nat.reduceEqDiff,Nat.reduceBEq,Nat.reduceLeDiff,reduceCtorEq,Nat.reduceSub,Nat.reduceMul,Int.reduceToNat,Int.reduceLT,Int.reduceLE];try simp [Yf,onB,hwz])
   ·simp only [decide_eq_false hwz]
    simp only [↓XC,XV,XT,Yg,reduceIte,Nat.reduceAdd,Nat.reduceLT,Nat.reduceEqDiff,Nat.reduceBEq,Nat.reduceLeDiff,reduceCtorEq,Nat.reduceSub,Nat.reduceMul,Int.reduceToNat,Int.reduceLT,Int.reduceLE,TES,ze,XRE,XR,XRH,Yh,↓Ya,Yb,yo,onB,↓Yc]
    rw [hdc,if_pos hwz]
    exact Wf (by simp only [↓XC,XV,XT,Yg,reduceIte,Nat.reduceAdd,Nat.reduceLT,Nat.reduceEqDiff,Nat.reduceBEq,Nat.reduceLeDiff,reduceCtorEq,Nat.reduceSub,Nat.reduceMul,Int.reduceToNat,Int.reduceLT,Int.reduceLE];try simp [Yf,onB,hwz])
  ·simp only [decide_eq_false hyz]
   simp only [↓XC,XV,XT,Yg,reduceIte,Nat.reduceAdd,Nat.reduceLT,Nat.reduceEqDiff,Nat.reduceBEq,Nat.reduceLeDiff,reduceCtorEq,Nat.reduceSub,Nat.reduceMul,Int.reduceToNat,Int.reduceLT,Int.reduceLE,TES,ze,XRE,XR,XRH,Yh,↓Ya,Yb,yo,onB,↓Yc]
   rw [hdc,if_pos hyz]
   exact Wf (by simp only [↓XC,XV,XT,Yg,reduceIte,Nat.reduceAdd,Nat.reduceLT,Nat.reduceEqDiff,Nat.reduceBEq,Nat.reduceLeDiff,reduceCtorEq,Nat.reduceSub,Nat.reduceMul,Int.reduceToNat,Int.reduceLT,Int.reduceLE];try simp [Yf,onB,hyz])
 ·simp only [↓XC,XV,XT,Yg,reduceIte,Nat.reduceAdd,Nat.reduceLT,Nat.reduceEqDiff,Nat.reduceBEq,Nat.reduceLeDiff,reduceCtorEq,Nat.reduceSub,Nat.reduceMul,Int.reduceToNat,Int.reduceLT,Int.reduceLE,TES,ze,XRE,XR,XRH,Yh,↓Ya,Yb,yo,onB,↓Yc]
  refine zj.reb (zuu s u x.fr (x.lt:Nat) yy ⟨hs,hu1,hdi⟩) [0,5,1,2,3,4] (by simp [Yf]) (by simp only [Ye];exact ⟨by omega,za (by simp [Yf,Yh,onB]),by omega,za (by simp [Yf]),by omega,zb fun _=>rfl,by omega,zb fun _=>rfl,by omega,zl,by omega,zb fun _=>rfl⟩) (by decide) (by simp [zw,SO.ro]) (by decide) (by simp [j8,zf9,vi,zd4,noH,SO.ro,wl]) ?_
  simp only [↓XC,XV,XT,Yg,reduceIte,Nat.reduceAdd,Nat.reduceLT,Nat.reduceEqDiff,Nat.reduceBEq,Nat.reduceLeDiff,reduceCtorEq,Nat.reduceSub,Nat.reduceMul,Int.reduceToNat,Int.reduceLT,Int.reduceLE,TES,XRE,XR,XRH,Yh,↓Ya,Yb,yo,onB,↓Yc,XM]
  rw [drL,if_pos hdi] at hu3
  refine ⟨fun h=>?_,fun h=>?_⟩
  ·have hz:¬(drR s u yy).cd=0:=by simpa using h
   rw [if_pos hz] at hu3
   have e:dcK s x=onB x (drR s u yy):=by unfold dcK;rw [←hu3,if_pos hz]
   rw [e]
   exact Wf (by simp only [↓XC,XV,XT,Yg,reduceIte,Nat.reduceAdd,Nat.reduceLT,Nat.reduceEqDiff,Nat.reduceBEq,Nat.reduceLeDiff,reduceCtorEq,Nat.reduceSub,Nat.reduceMul,Int.reduceToNat,Int.reduceLT,Int.reduceLE];try simp [Yf,onB,hz])
  ·have hz:(drR s u yy).cd=0:=by simpa using h
   obtain ⟨_,k1,k2⟩:=drR_ok hu1 hdi hz
   have hul:=(zmk hdi).2.1
   rw [if_neg (by simpa using hz),dif_pos ⟨k2,hul⟩] at hu3
   exact ⟨⟨(drY s u.pos yy,drR s u yy),k1,by simp only;rw [ev_dr];exact hu2,hu3⟩,by simp only;omega,(Ent.ren1 [0,1,2,3,4,5] (by decide) (by simp only [Yd];exact ⟨za (by simp [Yf,Yh,onB]),zb fun _=>rfl,zb fun _=>rfl,zl,zb fun _=>rfl,za (by simp [Yf])⟩) (by simp [zi,Vg.look,SV.mapH,muL,onB]))⟩
theorem rstream (s:Bs) (x:Rb) (hp:s.length≤1048576∧OkS s x.r):FnK Tryz.prog 71 1 [.ptr 0 0 0] [some (.blk false [.s s,.i .i64 (((x).r).pos:Nat),.slc 1 0 ((x).r).ev.length,.slc 2 0 ((x).r).ev.length,.mp 3,.slc 4 0 ((x).r).hd.length,.i .i64 (((x).r).dp:Nat),.i .i64 ((x).r).cd,.i .i64 (((x).r).pl:Nat),.b (x).fr,.i .i64 ((x).lt:Nat)]),some (.row false 8 ((x).r).ev.length (zg evc evz ((x).r).ev)),some (.row false 1 ((x).r).ev.length (zg qy false ((x).r).dn)),some (.mapS (nmI ((x).r).ev ((x).r).bs)),some (.row false 2 ((x).r).hd.length (zg hdc hdz ((x).r).hd))] (fun z c=>z=.b (decide ((smL s x).r.cd=0))∧c=[some (.blk false [.s s,.i .i64 ((((smL s x)).r).pos:Nat),.slc 1 0 (((smL s x)).r).ev.length,.slc 2 0 (((smL s x)).r).ev.length,.mp 3,.slc 4 0 (((smL s x)).r).hd.length,.i .i64 ((((smL s x)).r).dp:Nat),.i .i64 (((smL s x)).r).cd,.i .i64 ((((smL s x)).r).pl:Nat),.b ((smL s x)).fr,.i .i64 (((smL s x)).lt:Nat)]),some (.row false 8 (((smL s x)).r).ev.length (zg evc evz (((smL s x)).r).ev)),some (.row false 1 (((smL s x)).r).ev.length (zg qy false (((smL s x)).r).dn)),some (.mapS (nmI (((smL s x)).r).ev (((smL s x)).r).bs)),some (.row false 2 (((smL s x)).r).hd.length (zg hdc hdz (((smL s x)).r).hd))]):=by
 refine FnK.ofE (cf:=zk Tryz.prog te [(143,jv),(144,yu)] 47 1 false (fun _=>true) (kp [(0,[0]),(1,[0]),(2,[0,15]),(3,[]),(4,[2]),(5,[0,29]),(6,[0,42]),(7,[2]),(8,[0,43]),(9,[2])]) [] [(1,[12],[0],.q1 0 (.q1 1 (.q1 2 (.q1 3 (.q1 5 (.q1 6 (.q1 7 (.q0 4 [4,9,10,11,12] (.q0 8 [8,9,10,11,12] (.alt 9 (.q1 10 (.q1 11 (.sw (.alt 12 (.fin) (.fin))))) (.fin))))))))))),(2,[],[],.q1 0 (.q1 1 (.q1 2 (.q1 4 (.q1 5 (.q1 6 (.q0 3 [3] (.q0 7 [7] (.q1 8 (.q1 9 (.q1 10 (.fin)))))))))))),(5,[],[],.q1 0 (.q1 1 (.q1 2 (.q1 4 (.q1 5 (.q1 6 (.q0 3 [3] (.q0 7 [7] (.alt 8 (.q1 9 (.q1 10 (.fin))) (.fin))))))))))]) (zf te_ok (l:=[(143,jv),(144,yu)]) (⟨un,qw,trivial⟩) zc) Tryz.func71 rfl rfl rfl (by simp [zk]) (by simp [zk]) (rs:=[.tmp 2]) rfl 100000 ?_
 simp only [↓XC,XV,XT,Yg,reduceIte,Nat.reduceAdd,Nat.reduceLT,Nat.reduceEqDiff,Nat.reduceBEq,Nat.reduceLeDiff,reduceCtorEq,Nat.reduceSub,Nat.reduceMul,Int.reduceToNat,Int.reduceLT,Int.reduceLE,TES,yd,ze,XRE,XR,XRH,Yh,onB,↓Yc]
 obtain ⟨hs,ho⟩:=hp
 refine yv.of (ι:={y:Rb // OkS s y.r∧smL s y=smL s x}) (fun y=>⟨[(0,.ptr 0 0 0)],[some (.blk false [.s s,.i .i64 (((y.1).r).pos:Nat),.slc 1 0 ((y.1).r).ev.length,.slc 2 0 ((y.1).r).ev.length,.mp 3,.slc 4 0 ((y.1).r).hd.length,.i .i64 (((y.1).r).dp:Nat),.i .i64 ((y.1).r).cd,.i .i64 (((y.1).r).pl:Nat),.b (y.1).fr,.i .i64 ((y.1).lt:Nat)]),some (.row false 8 ((y.1).r).ev.length (zg evc evz ((y.1).r).ev)),some (.row false 1 ((y.1).r).ev.length (zg qy false ((y.1).r).dn)),some (.mapS (nmI ((y.1).r).ev ((y.1).r).bs)),some (.row false 2 ((y.1).r).hd.length (zg hdc hdz ((y.1).r).hd))]⟩) (fun y=>s.length-y.1.r.pos) ⟨x,ho,rfl⟩ (Ent.refl _ _) ?_
 rintro ⟨y,hy1,hy2⟩
 simp only [↓XC,XV,XT,Yg,reduceIte,Nat.reduceAdd,Nat.reduceLT,Nat.reduceEqDiff,Nat.reduceBEq,Nat.reduceLeDiff,reduceCtorEq,Nat.reduceSub,Nat.reduceMul,Int.reduceToNat,Int.reduceLT,Int.reduceLE,TES,yd,ze,XRE,XR,XRH,Yh,↓Ya,Yb,yo,onB,↓Yc]
 have hyo:=hy1.ok
 have hyp:=hyo.pos
 have hysz:=hy1.sz
 have hg:=hy1.gap
 have hge:=wj s y.r.pos
 have hgl:=qt s y.r.pos hyp
 rw [zu s hyp,zu s hgl]
 obtain ⟨G,hG⟩:∃ G,G=onB y (atR y.r (gpE s y.r.pos)):=⟨_,rfl⟩
 have hU:∀ w:Rb,smS s G=w→¬s.length≤gpE s y.r.pos→(¬w.r.cd=0→smL s x=w)∧(w.r.cd=0→OkS s w.r∧y.r.pos<w.r.pos∧smL s x=smL s w):=fun w h1 h2=>by
  rw [hG] at h1
  have hx:smL s x=if w.r.cd≠0 then w else if y.r.pos<w.r.pos∧y.r.pos<s.length then smL s w else y:=by
   rw [←hy2,smL,if_neg h2,h1]
   by_cases h3:w.r.cd=0
   ·rw [if_neg (by simpa using h3),if_neg (by simpa using h3)]
    by_cases h4:y.r.pos<w.r.pos∧y.r.pos<s.length
    ·rw [dif_pos h4,if_pos h4]
    ·rw [dif_neg h4,if_neg h4]
   ·rw [if_pos h3,if_pos h3]
  refine ⟨fun h3=>by rw [hx,if_pos h3],fun h3=>?_⟩
  obtain ⟨h4,h5⟩:=smS_k (x:=onB y (atR y.r (gpE s y.r.pos))) hs hg (by rw [h1];exact h3)
  rw [h1] at h4 h5
  simp only [onB,atR] at h5
  exact ⟨h4,by omega,by rw [hx,if_neg (by simpa using h3),if_pos ⟨by omega,by omega⟩]⟩
 refine ⟨by decide +kernel,Chk.mk hs fun _=>⟨by decide +kernel,fun h1=>?_,fun h1=>⟨by decide +kernel,Chk.mk hs fun _=>⟨fun h2=>?_,fun h2=>?_⟩⟩⟩⟩
 ·refine Wb (zi0 s (atR y.r (gpE s y.r.pos)) y.fr (y.lt:Nat) 9 0 false [] [] [] 0 0 ⟨by simp only [atR];omega,hyo.dn,hyo.bs⟩) ?_
  simp only [↓XC,XV,XT,Yg,reduceIte,Nat.reduceAdd,Nat.reduceLT,Nat.reduceEqDiff,Nat.reduceBEq,Nat.reduceLeDiff,reduceCtorEq,Nat.reduceSub,Nat.reduceMul,Int.reduceToNat,Int.reduceLT,Int.reduceLE,TES,XRE,XR,XRH,Yh,↓Ya,Yb,yo,onB,↓Yc,XM]
  have e:smL s x=onB y (zn (atR y.r (gpE s y.r.pos)) evSE true):=by rw [←hy2,smL,if_pos (by omega)]
  have hyz:=hyo.cd
  rw [e]
  try simp only [onB,zn,atR,evSE,show (!decide ((9:Int)=3)&&!decide ((9:Int)=4))=true from rfl,List.length_append,List.length_cons,List.length_nil,Nat.zero_add]
  exact Wf (by simp only [↓XC,XV,XT,Yg,reduceIte,Nat.reduceAdd,Nat.reduceLT,Nat.reduceEqDiff,Nat.reduceBEq,Nat.reduceLeDiff,reduceCtorEq,Nat.reduceSub,Nat.reduceMul,Int.reduceToNat,Int.reduceLT,Int.reduceLE];try simp [Yf,onB,hyz])
 ·have hR:=rrest s (atR y.r (gpE s y.r.pos)) y.fr (y.lt:Nat) ⟨hs,hyo.cd,(uq (s:=s) (p:=gpE s y.r.pos) (by rw [h2];decide)).1⟩
  obtain ⟨v,hv⟩:∃ v,v=rmR s (atR y.r (gpE s y.r.pos)):=⟨_,rfl⟩
  rw [←hv] at hR
  try simp only [onB,atR] at hR
  refine Wm (hR) ?_
  simp only [↓XC,XV,XT,Yg,reduceIte,Nat.reduceAdd,Nat.reduceLT,Nat.reduceEqDiff,Nat.reduceBEq,Nat.reduceLeDiff,reduceCtorEq,Nat.reduceSub,Nat.reduceMul,Int.reduceToNat,Int.reduceLT,Int.reduceLE,TES,yd,ze,XRE,XR,XRH,Yh,↓Ya,Yb,yo,onB,↓Yc,XM]
  obtain ⟨k1,k2⟩:=hU (onB y v) (by rw [hG,smS,if_pos (by exact h2),hv];rfl) (by omega)
  by_cases hvz:v.cd=0
  ·simp only [decide_eq_true hvz]
   simp only [↓XC,XV,XT,Yg,reduceIte,Nat.reduceAdd,Nat.reduceLT,Nat.reduceEqDiff,Nat.reduceBEq,Nat.reduceLeDiff,reduceCtorEq,Nat.reduceSub,Nat.reduceMul,Int.reduceToNat,Int.reduceLT,Int.reduceLE,TES,yd,ze,XRE,XR,XRH,Yh,↓Ya,Yb,yo,onB,↓Yc]
   obtain ⟨m1,m2,m3⟩:=k2 hvz
   have m2':y.r.pos<v.pos:=m2
   exact ⟨⟨onB y v,m1,m3.symm⟩,by show s.length-v.pos<_;omega,(Ent.ren1 [0,1,2,3,4] (by decide) (by simp only [Yd];exact ⟨za (by simp [Yf,Yh,onB]),zb fun _=>rfl,zb fun _=>rfl,zl,zb fun _=>rfl⟩) (by simp [zi,Vg.look,SV.mapH,muL,onB]))⟩
  ·simp only [decide_eq_false hvz]
   simp only [↓XC,XV,XT,Yg,reduceIte,Nat.reduceAdd,Nat.reduceLT,Nat.reduceEqDiff,Nat.reduceBEq,Nat.reduceLeDiff,reduceCtorEq,Nat.reduceSub,Nat.reduceMul,Int.reduceToNat,Int.reduceLT,Int.reduceLE,TES,yd,ze,XRE,XR,XRH,Yh,↓Ya,Yb,yo,onB,↓Yc]
   rw [k1 hvz]
   exact Wf (by simp only [↓XC,XV,XT,Yg,reduceIte,Nat.reduceAdd,Nat.reduceLT,Nat.reduceEqDiff,Nat.reduceBEq,Nat.reduceLeDiff,reduceCtorEq,Nat.reduceSub,Nat.reduceMul,Int.reduceToNat,Int.reduceLT,Int.reduceLE];try simp [Yf,onB,hvz])
 ·have hD:=zw8 s G ⟨hs,by rw [hG];exact hg⟩
  obtain ⟨w,hw⟩:∃ w,w=dcK s G:=⟨_,rfl⟩
  rw [←hw,hG] at hD
  simp only [onB,atR] at hD
  refine Wb (hD) ?_
  simp only [↓XC,XV,XT,Yg,reduceIte,Nat.reduceAdd,Nat.reduceLT,Nat.reduceEqDiff,Nat.reduceBEq,Nat.reduceLeDiff,reduceCtorEq,Nat.reduceSub,Nat.reduceMul,Int.reduceToNat,Int.reduceLT,Int.reduceLE,TES,XRE,XR,XRH,Yh,↓Ya,Yb,yo,onB,↓Yc,XM]
  obtain ⟨k1,k2⟩:=hU w (by rw [smS,if_neg (by rw [hG];exact h2),hw]) (by omega)
  by_cases hwz:w.r.cd=0
  ·simp only [decide_eq_true hwz]
   simp only [↓XC,XV,XT,Yg,reduceIte,Nat.reduceAdd,Nat.reduceLT,Nat.reduceEqDiff,Nat.reduceBEq,Nat.reduceLeDiff,reduceCtorEq,Nat.reduceSub,Nat.reduceMul,Int.reduceToNat,Int.reduceLT,Int.reduceLE,TES,yd,ze,XRE,XR,XRH,Yh,↓Ya,Yb,yo,onB,↓Yc]
   obtain ⟨m1,m2,m3⟩:=k2 hwz
   have hop:=m1.ok.pos
   exact ⟨⟨w,m1,m3.symm⟩,by simp only;omega,(Ent.ren1 [0,1,2,3,4] (by decide) (by simp only [Yd];exact ⟨za (by simp [Yf,Yh,onB]),zb fun _=>rfl,zb fun _=>rfl,zl,zb fun _=>rfl⟩) (by simp [zi,Vg.look,SV.mapH,muL,onB]))⟩
  ·simp only [decide_eq_false hwz]
   simp only [↓XC,XV,XT,Yg,reduceIte,Nat.reduceAdd,Nat.reduceLT,Nat.reduceEqDiff,Nat.reduceBEq,Nat.reduceLeDiff,reduceCtorEq,Nat.reduceSub,Nat.reduceMul,Int.reduceToNat,Int.reduceLT,Int.reduceLE,TES,yd,ze,XRE,XR,XRH,Yh,↓Ya,Yb,yo,onB,↓Yc]
   rw [k1 hwz]
   exact Wf (by simp only [↓XC,XV,XT,Yg,reduceIte,Nat.reduceAdd,Nat.reduceLT,Nat.reduceEqDiff,Nat.reduceBEq,Nat.reduceLeDiff,reduceCtorEq,Nat.reduceSub,Nat.reduceMul,Int.reduceToNat,Int.reduceLT,Int.reduceLE];try simp [Yf,onB,hwz])
end Go.T
end
section
set_option linter.unusedVariables false
set_option linter.unusedSimpArgs false
set_option linter.unusedSectionVars false
set_option linter.unnecessarySimpa false
namespace Go.T
variable [Go.Vg.Glob] [Go.Vg.GlobTabs 0 1]
open Go.Proofs Go.Vg Go.RowKit Go.TT Go.Pl
set_option maxRecDepth 10000
set_option maxHeartbeats 4000000
def zq3 (r:Rd):Rd:={ r with dn:=(List.range r.ev.length).map fun i=>r.dn.getD i false,bs:=min r.bs r.ev.length }
theorem fixR_ok {r:Rd} (h:r.ev.length≤16777216):(zq3 r).ev.length≤16777216∧(zq3 r).dn.length=(zq3 r).ev.length∧(zq3 r).bs≤(zq3 r).ev.length:=⟨h,by simp [zq3],by simp only [zq3];omega⟩
theorem fixR_nm {r:Rd}:nmI (zq3 r).ev (zq3 r).bs=nmI r.ev r.bs:=by
 simp only [zq3]
 by_cases h:r.bs≤r.ev.length
 ·rw [Nat.min_eq_left h]
 ·have e:∀ b,r.ev.length≤b→anI r.ev b=[]:=fun b hb=>by unfold anI;rw [List.filter_eq_nil_iff];intro a ha;have:=List.mem_range.1 ha;simp;omega
  unfold nmI;rw [e _ (by omega),e _ (by omega)]
theorem fixR_dn {r:Rd} {μ:Nat→Nat} {j:Nat} (hj:j<r.ev.length):jb μ (zg qy false (zq3 r).dn j)=zg qy false r.dn j:=by
 simp only [zg,zq3,qy,List.getD_eq_getElem?_getD,List.getElem?_map,List.getElem?_range hj,Option.map_some,Option.getD_some,jb,SV.mapH]
theorem zrd (s:Bs) (hp:s.length≤1048576):FnK Tryz.prog 16 0 [.s s] [] (fun z c=>z=.slc 0 0 (psA s).length∧c=[some (.row false 8 (psA s).length (zg evc evz (psA s)))]):=by
 refine FnK.ofE (cf:=zk Tryz.prog te [(68,zcr)] 44 0 false (fun _=>true) (kp [(0,[0]),(1,[0,7]),(2,[2]),(3,[0,3]),(4,[0,3,16]),(5,[2]),(6,[4]),(7,[4]),(8,[4,28]),(9,[4]),(10,[2])]) [] [(9,[],[],.q1 0 (.q1 1 (.q1 2 (.q1 3 (.q1 5 (.q1 6 (.q1 7 (.q0 4 [4,9,10] (.q0 8 [8,9,10] (.seq [9,10]))))))))))]) (zf te_ok (l:=[(68,zcr)]) (⟨zl6,trivial⟩) zc) Tryz.func16 rfl rfl rfl (by simp [zk]) (by simp [zk]) (rs:=[.tmp 2]) rfl 100000 ?_
 simp only [↓XC,XV,XT,Yg,seval,TES,zl7,XRE,XR,XRH,Yh,onB,↓Yc]
 obtain ⟨G,hG⟩:∃ G,G=psA s:=⟨_,rfl⟩
 rw [←hG]
 have hcl:=clA_le s 0 (Nat.zero_le _)
 refine ⟨fun h=>?_,fun h=>Chk.mk hp fun _=>⟨fun h2=>?_,fun h2=>?_⟩⟩
 ·have e:G=[evS,evF 1 60000]:=by rw [hG,psA,psE,if_pos (by omega)]
  rw [e]
  exact ⟨[0],by decide,by simp only [Yd];exact zh fun j hj=>by rcases j with _ | _ | j;rfl;rfl;simp only [List.length_cons,List.length_nil] at hj;omega,by simp only [↓XC,XV,XT,Yg,seval];try simp [Yf],by simp [zw,SO.ro],by simp⟩
 ·have h2':clA s 0≠s.length:=by simp at h2;omega
  have e:G=[evS,evF 1 (clA s 0)]:=by rw [hG,psA,psE,if_neg (by omega),if_pos h2']
  rw [e]
  exact ⟨[0],by decide,by simp only [Yd];exact zh fun j hj=>by rcases j with _ | _ | j;rfl;rfl;simp only [List.length_cons,List.length_nil] at hj;omega,by simp only [↓XC,XV,XT,Yg,seval];try simp [Yf],by simp [zw,SO.ro],by simp⟩
 ·have h2':clA s 0=s.length:=by simp at h2;omega
  refine zj.own (zmd s 0 hp) rfl ?_
  rw [show spot s 0=0 from by unfold spot;omega]
  simp only [↓XC,XV,XT,Yg,seval,TES,XRE,XR,XRH,Yh,↓Ya,Yb,yo,onB,↓Yc,XM]
  have hz0:=zg8 s
  refine Wb (zi0 s (rdz 0) false 0 1 0 false [] [] [] 0 0 ⟨Nat.zero_le _,rfl,Nat.le_refl _⟩) ?_
  simp only [↓XC,XV,XT,Yg,seval,TES,XRE,XR,XRH,Yh,↓Ya,Yb,yo,onB,↓Yc,XM]
  have hS:=rstream s ⟨zn (rdz 0) evS true,false,0⟩ ⟨hp,hz0⟩
  obtain ⟨w,hw⟩:∃ w,w=smL s ⟨zn (rdz 0) evS true,false,0⟩:=⟨_,rfl⟩
  rw [←hw] at hS
  try simp only [rdz,zn,evS] at hS
  try simp only [rdz,zn,evS,List.length_append,List.length_cons,List.length_nil,Nat.zero_add]
  refine Wb (hS) ?_
  simp only [↓XC,XV,XT,Yg,seval,TES,XRE,XR,XRH,Yh,↓Ya,Yb,yo,onB,↓Yc,XM]
  have hG2:G=if w.r.cd≠0 then w.r.ev++[evF w.r.cd w.r.pl] else w.r.ev:=by rw [hG,psA,psE,if_neg (by omega),if_neg (by omega),psR,←hw]
  have hwl:w.r.ev.length≤8 * s.length+71:=by rw [hw];exact psR_sz hp
  refine ⟨fun h3=>⟨by decide +kernel, ?_⟩,fun h3=>?_⟩
  ·rw [hG2,if_pos (by simpa using h3)]
   have hR:=zi0 s (zq3 w.r) w.fr (w.lt:Nat) 10 0 false [] [] [] w.r.pl w.r.cd (fixR_ok (by omega))
   rw [fixR_nm] at hR
   refine zj.reb (hR) [0,1,2,3,4] (by simp [Yf]) (by simp only [Ye];exact ⟨by omega,za (by simp [Yf,Yh,onB,zq3]),by omega,zb fun _=>rfl,by omega,zh (fun j hj=>fixR_dn hj),by omega,zl,by omega,zb fun _=>rfl⟩) (by decide) (by simp [zw,SO.ro]) (by decide) (by simp [j8,zf9,vi,zd4,noH,SO.ro,wl]) ?_
   simp only [↓XC,XV,XT,Yg,seval,TES,XRE,XR,XRH,Yh,↓Ya,Yb,yo,onB,↓Yc,XM]
   exact ⟨[1],by decide,by simp only [Yd];exact zb fun _=>rfl,by simp only [↓XC,XV,XT,Yg,seval];try simp [Yf,zq3],by simp [zw,SO.ro],by simp⟩
  ·rw [hG2,if_neg (by simpa using h3)]
   exact ⟨[1],by decide,by simp only [Yd];exact zb fun _=>rfl,by simp only [↓XC,XV,XT,Yg,seval];try simp [Yf],by simp [zw,SO.ro],by simp⟩
theorem Parse_i (s:Bs) (hp:s.length≤1048576):PF Tryz.prog 16 [.s s] (.fs 8 ((psA s).map evc)):=PF.ofOwn (zrd s hp) rfl rfl (by simp only [xw,jr,zdi,vm,ye,and_true];exact ⟨⟨by omega,fun j hj=>⟨rfl,rfl⟩⟩,by rw [w8 rfl]⟩)
noncomputable def zcp:PE:=peR (fun (s:Bs)=>[.s s]) (fun (s:Bs)=>s.length≤1048576) (fun (s:Bs)=>.fs 8 ((psA s).map evc))
theorem x8 {s:Bs}:zcp [.s s]=some (s.length≤1048576,.fs 8 ((psA s).map evc)):=yh (by rintro a b h;simp_all []) s
theorem zl4:PE1 Tryz.prog 16 zcp:=yl (by rintro s hp;exact Parse_i s hp)
end Go.T
end
