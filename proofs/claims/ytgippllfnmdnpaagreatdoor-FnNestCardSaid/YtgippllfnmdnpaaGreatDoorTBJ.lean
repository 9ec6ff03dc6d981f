/- Own text: part TBJ. -/
import Derived.Test.YtgippllfnmdnpaaGreatDoorTBI
set_option linter.unusedVariables false
set_option linter.unusedSimpArgs false
set_option linter.unusedSectionVars false
set_option linter.unnecessarySimpa false
namespace Go.T
variable [Go.Vg.Glob] [Go.Vg.GlobTabs 0 1]
open Go.Proofs Go.Vg Go.RowKit Go.TT Go.Pl
set_option maxRecDepth 10000
set_option maxHeartbeats 4000000
theorem zds (s:Bs) (r:Rd) (fr:Bool) (la:Int) (it:Rd→Rd) (ha:Bool) (an tg:Bs) (pf:Int) (pe:Nat) (HI:r.dp<40→(zf8 s (r.dp+1) it∧∀ r1:Rd,Ok s r1→r1.dp=r.dp+1→zc0 Tryz.prog 356 s fr la [] r1 (it r1))) (hp:s.length≤1048576∧Ok s r∧r.pos<s.length):FnK Tryz.prog 348 1 [.ptr 0 0 0,.agg [.b ha,.s an,.s tg,.i .i64 pf,.i .i64 (pe:Nat)]] [some (.blk false [.s s,.i .i64 ((r).pos:Nat),.slc 1 0 (r).ev.length,.slc 2 0 (r).ev.length,.mp 3,.slc 4 0 (r).hd.length,.i .i64 ((r).dp:Nat),.i .i64 (r).cd,.i .i64 ((r).pl:Nat),.b fr,.i .i64 la]),some (.row false 8 (r).ev.length (zg evc evz (r).ev)),some (.row false 1 (r).ev.length (zg qy false (r).dn)),some (.mapS (nmI (r).ev (r).bs)),some (.row false 2 (r).hd.length (zg hdc hdz (r).hd))] (fun z c=>z=.b (decide ((coR s it 93 3 r (⟨ha,an,tg,pe⟩:Pp)).cd=0))∧c=[some (.blk false [.s s,.i .i64 ((coR s it 93 3 r (⟨ha,an,tg,pe⟩:Pp)).pos:Nat),.slc 1 0 (coR s it 93 3 r (⟨ha,an,tg,pe⟩:Pp)).ev.length,.slc 2 0 (coR s it 93 3 r (⟨ha,an,tg,pe⟩:Pp)).ev.length,.mp 3,.slc 4 0 (coR s it 93 3 r (⟨ha,an,tg,pe⟩:Pp)).hd.length,.i .i64 ((coR s it 93 3 r (⟨ha,an,tg,pe⟩:Pp)).dp:Nat),.i .i64 (coR s it 93 3 r (⟨ha,an,tg,pe⟩:Pp)).cd,.i .i64 ((coR s it 93 3 r (⟨ha,an,tg,pe⟩:Pp)).pl:Nat),.b fr,.i .i64 la]),some (.row false 8 (coR s it 93 3 r (⟨ha,an,tg,pe⟩:Pp)).ev.length (zg evc evz (coR s it 93 3 r (⟨ha,an,tg,pe⟩:Pp)).ev)),some (.row false 1 (coR s it 93 3 r (⟨ha,an,tg,pe⟩:Pp)).ev.length (zg qy false (coR s it 93 3 r (⟨ha,an,tg,pe⟩:Pp)).dn)),some (.mapS (nmI (coR s it 93 3 r (⟨ha,an,tg,pe⟩:Pp)).ev (coR s it 93 3 r (⟨ha,an,tg,pe⟩:Pp)).bs)),some (.row false 2 (coR s it 93 3 r (⟨ha,an,tg,pe⟩:Pp)).hd.length (zg hdc hdz (coR s it 93 3 r (⟨ha,an,tg,pe⟩:Pp)).hd))]):=by
 refine FnK.ofE (cf:=zk Tryz.prog te [] 62 1 false (fun i=>i==11) (kp [(0,[0,3]),(1,[0,5,6]),(2,[0,5,18]),(3,[4]),(4,[0,5]),(5,[0,5,28]),(6,[4]),(7,[0,5,38]),(8,[0,5]),(9,[]),(10,[4]),(11,[0,5,61]),(12,[4])]) [] [(1,[],[],.q1 0 (.q1 2 (.q1 3 (.q1 4 (.q0 1 [1,6,7,8,9,10,11] (.q0 5 [5,6,7,8,9,10,11] (.alt 6 (.alt 7 (.alt 8 (.alt 9 (.seq [10,11]) (.alt 10 (.seq [9,11]) (.fin))) (.alt 9 (.seq [8,10,11]) (.fin))) (.fin)) (.fin)))))))),(7,[],[],.q1 0 (.q1 1 (.q1 2 (.q1 4 (.q1 5 (.q1 6 (.q0 3 [3] (.q0 7 [7] (.q1 8 (.q1 9 (.fin)))))))))))]) (zf te_ok (l:=[]) (trivial) zc) Tryz.func348 rfl rfl rfl (by simp [zk]) (by simp [zk]) (rs:=[.tmp 4]) rfl 100000 ?_
 simp only [↓XC,XV,XT,Yg,reduceIte,Nat.reduceAdd,Nat.reduceLT,Nat.reduceEqDiff,Nat.reduceBEq,Nat.reduceLeDiff,reduceCtorEq,Nat.reduceSub,Nat.reduceMul,Int.reduceToNat,Int.reduceLT,Int.reduceLE,TES,XRE,XR,XRH,Yh]
 obtain ⟨hs,ho,hlt⟩:=hp
 have hsz:=ho.size hs
 obtain ⟨ro,hro⟩:∃ ro,ro=opR r 3 6 (⟨ha,an,tg,pe⟩:Pp) r.pos:=⟨_,rfl⟩
 refine ⟨by decide +kernel, ?_⟩
 refine Wb (ropen s r fr la 3 6 ha an tg pf pe r.pos ⟨by omega,ho.dn,ho.bs,ho.cd,by decide,ho.dp⟩) ?_
 simp only [↓XC,XV,XT,Yg,reduceIte,Nat.reduceAdd,Nat.reduceLT,Nat.reduceEqDiff,Nat.reduceBEq,Nat.reduceLeDiff,reduceCtorEq,Nat.reduceSub,Nat.reduceMul,Int.reduceToNat,Int.reduceLT,Int.reduceLE,TES,XRE,XR,XRH,Yh,XM]
 rw [←hro]
 have hP:ro.cd=0→Ok s (atR ro (r.pos+1))∧ro.dp=r.dp+1∧ro.pos=r.pos∧r.ev.length<ro.ev.length∧r.dp<40:=fun h=>by
  rw [hro] at h
  obtain ⟨e,hd⟩:=zhn h
  have h9:=ho.sz
  rw [hro,e]
  refine ⟨⟨ho.cd,hlt,by simp [atR,zn,ho.dn],by simp only [atR,zn,List.length_append];have:=ho.bs;omega,by simp only [atR];omega,by simp only [atR,zn,List.length_append,List.length_singleton];omega,ho.hd,ho.pf⟩,rfl,rfl,by simp [zn],hd⟩
 have hC:coR s it 93 3 r (⟨ha,an,tg,pe⟩:Pp)=if ro.cd≠0 then ro else clL s it 93 r.ev.length (atR ro (r.pos+1)):=by rw [hro];rfl
 refine ⟨⟨?_, ?_⟩, ?_⟩
 all_goals
  refine ⟨fun h=>?_,fun h=>?_⟩
  ·have hne:¬ro.cd=0:=by simpa using h
   rw [hC,if_pos hne,decide_eq_false hne]
   exact Wf (by simp only [↓XC,XV,XT,Yg,reduceIte,Nat.reduceAdd,Nat.reduceLT,Nat.reduceEqDiff,Nat.reduceBEq,Nat.reduceLeDiff,reduceCtorEq,Nat.reduceSub,Nat.reduceMul,Int.reduceToNat,Int.reduceLT,Int.reduceLE];try first | rfl | simp [Yf])
  have hz:ro.cd=0:=by simpa using h
  obtain ⟨hok,hd1,hp1,he1,hd40⟩:=hP hz
  rw [hp1,if_neg (show ¬40≤r.dp by omega)]
  rw [if_neg (by simp [hz])] at hC
  rw [hC]
  obtain ⟨R,hR⟩:∃ R,R=clL s it 93 r.ev.length (atR ro (r.pos+1)):=⟨_,rfl⟩
  rw [←hR]
  obtain ⟨hit,HN⟩:=HI hd40
  refine Chk.mk (by simp only [inR];omega) fun _=>?_
  refine yv.of (ι:={x:Rd // Ok s x∧x.dp=r.dp+1∧r.ev.length<x.ev.length∧clL s it 93 r.ev.length x=R}) (fun x=>⟨[(0,.ptr 0 0 0),(5,.i .i64 (r.ev.length:Nat))],[some (.blk false [.s s,.i .i64 ((x.1).pos:Nat),.slc 1 0 (x.1).ev.length,.slc 2 0 (x.1).ev.length,.mp 3,.slc 4 0 (x.1).hd.length,.i .i64 ((x.1).dp:Nat),.i .i64 (x.1).cd,.i .i64 ((x.1).pl:Nat),.b fr,.i .i64 la]),some (.row false 8 (x.1).ev.length (zg evc evz (x.1).ev)),some (.row false 1 (x.1).ev.length (zg qy false (x.1).dn)),some (.mapS (nmI (x.1).ev (x.1).bs)),some (.row false 2 (x.1).hd.length (zg hdc hdz (x.1).hd))]⟩) (fun x=>s.length-x.1.pos) ⟨atR ro (r.pos+1),hok,hd1,he1,hR.symm⟩ (Ent.ren1 [0,1,2,3,4] (by decide) (by simp only [Yd];exact ⟨za (by simp [Yf,Yh]),zb fun _=>rfl,zb fun _=>rfl,zl,zb fun _=>rfl⟩) (by simp [zi,Vg.look,SV.mapH,muL])) ?_
  rintro ⟨x,hx,hxd,hxe,hxc⟩
  simp only [↓XC,XV,XT,Yg,reduceIte,Nat.reduceAdd,Nat.reduceLT,Nat.reduceEqDiff,Nat.reduceBEq,Nat.reduceLeDiff,reduceCtorEq,Nat.reduceSub,Nat.reduceMul,Int.reduceToNat,Int.reduceLT,Int.reduceLE,TES,XRE,XR,XRH,Yh]
  obtain ⟨g,hg⟩:∃ g,g=yr s x:=⟨_,rfl⟩
  refine Wm (rgap s x fr la ⟨hs,hx.cd,hx.pos⟩) ?_
  simp only [↓XC,XV,XT,Yg,reduceIte,Nat.reduceAdd,Nat.reduceLT,Nat.reduceEqDiff,Nat.reduceBEq,Nat.reduceLeDiff,reduceCtorEq,Nat.reduceSub,Nat.reduceMul,Int.reduceToNat,Int.reduceLT,Int.reduceLE,TES,XRE,XR,XRH,Yh,XM]
  rw [←hg,←hxc]
  refine ⟨fun h1=>?_,fun h1=>?_⟩
  ·have hne:¬g.cd=0:=by simpa using h1
   rw [zil (by rw [←hg];exact hne),←hg,decide_eq_false hne]
   exact Wf (by simp only [↓XC,XV,XT,Yg,reduceIte,Nat.reduceAdd,Nat.reduceLT,Nat.reduceEqDiff,Nat.reduceBEq,Nat.reduceLeDiff,reduceCtorEq,Nat.reduceSub,Nat.reduceMul,Int.reduceToNat,Int.reduceLT,Int.reduceLE];try first | rfl | simp [Yf])
  have hgz:(yr s x).cd=0:=by rw [←hg];simpa using h1
  obtain ⟨hge,hgl⟩:=ka hgz
  have hgo:Ok s g:=by rw [hg];exact hx.gap hgz
  have hgd:g.dp=r.dp+1:=by rw [hg,hge];exact hxd
  have hgev:g.ev=x.ev:=by rw [hg,hge];rfl
  have hgp:g.pos<s.length:=by rw [hg,hge];exact hgl
  have hgsz:=hgo.size hs
  rw [←kv hgp]
  refine ⟨by decide +kernel,Chk.mk (by omega) fun _=>⟨fun h2=>Chk.mk (by simp only [inR];omega) fun _=>?_,fun h2=>?_⟩⟩
  ·rw [zim hgz (by rw [←hg];exact h2),←hg]
   refine Wb (rshut s (atR g (g.pos+1)) fr la r.ev.length ⟨Nat.le_trans hgsz (by decide),hgo.dn,hgo.bs,by rw [show (atR g (g.pos+1)).ev=x.ev from hgev];exact hxe,by show 0<g.dp;omega,hgo.dp⟩) ?_
   simp only [↓XC,XV,XT,Yg,reduceIte,Nat.reduceAdd,Nat.reduceLT,Nat.reduceEqDiff,Nat.reduceBEq,Nat.reduceLeDiff,reduceCtorEq,Nat.reduceSub,Nat.reduceMul,Int.reduceToNat,Int.reduceLT,Int.reduceLE,TES,XRE,XR,XRH,Yh,XM]
   simp only [shR,List.length_append,List.length_cons,List.length_nil,Nat.zero_add]
   exact Wf (by simp only [↓XC,XV,XT,Yg,reduceIte,Nat.reduceAdd,Nat.reduceLT,Nat.reduceEqDiff,Nat.reduceBEq,Nat.reduceLeDiff,reduceCtorEq,Nat.reduceSub,Nat.reduceMul,Int.reduceToNat,Int.reduceLT,Int.reduceLE];try simp [Yf,hgo.cd])
  ·obtain ⟨t,ht⟩:∃ t,t=it g:=⟨_,rfl⟩
   have hN:=HN g hgo hgd
   unfold zc0 rdC at hN
   refine Wb (hN) ?_
   simp only [↓XC,XV,XT,Yg,reduceIte,Nat.reduceAdd,Nat.reduceLT,Nat.reduceEqDiff,Nat.reduceBEq,Nat.reduceLeDiff,reduceCtorEq,Nat.reduceSub,Nat.reduceMul,Int.reduceToNat,Int.reduceLT,Int.reduceLE,TES,XRE,XR,XRH,Yh,XM]
   rw [←ht]
   by_cases htz:t.cd=0
   ·simp only [decide_eq_true htz]
    simp only [↓XC,XV,XT,Yg,reduceIte,Nat.reduceAdd,Nat.reduceLT,Nat.reduceEqDiff,Nat.reduceBEq,Nat.reduceLeDiff,reduceCtorEq,Nat.reduceSub,Nat.reduceMul,Int.reduceToNat,Int.reduceLT,Int.reduceLE,TES,XRE,XR,XRH,Yh,↓Ya,Yb]
    have htz':(it (yr s x)).cd=0:=by rw [←hg,←ht];exact htz
    have hst:=hit g hgo hgd (by rw [←ht];exact htz)
    rw [←ht] at hst
    have hto:=hst.ok
    obtain ⟨g2,hg2⟩:∃ g2,g2=yr s t:=⟨_,rfl⟩
    have hg2':g2=yr s (it (yr s x)):=by rw [hg2,ht,hg]
    refine Wm (rgap s t fr la ⟨hs,htz,hto.pos⟩) ?_
    simp only [↓XC,XV,XT,Yg,reduceIte,Nat.reduceAdd,Nat.reduceLT,Nat.reduceEqDiff,Nat.reduceBEq,Nat.reduceLeDiff,reduceCtorEq,Nat.reduceSub,Nat.reduceMul,Int.reduceToNat,Int.reduceLT,Int.reduceLE,TES,XRE,XR,XRH,Yh,XM]
    rw [←hg2]
    by_cases h2z:g2.cd=0
    ·simp only [decide_eq_true h2z]
     simp only [↓XC,XV,XT,Yg,reduceIte,Nat.reduceAdd,Nat.reduceLT,Nat.reduceEqDiff,Nat.reduceBEq,Nat.reduceLeDiff,reduceCtorEq,Nat.reduceSub,Nat.reduceMul,Int.reduceToNat,Int.reduceLT,Int.reduceLE,TES,XRE,XR,XRH,Yh,↓Ya,Yb]
     have h2z':(yr s (it (yr s x))).cd=0:=by rw [←hg2'];exact h2z
     have hg2o:Ok s g2:=by rw [hg2];exact hto.gap (by rw [←hg2];exact h2z)
     have hg2p:g2.pos<s.length:=by
      obtain ⟨e9,h9⟩:=ka (s:=s) (r:=t) (by rw [←hg2];exact h2z)
      rw [hg2,e9];exact h9
     obtain ⟨t2,ht2⟩:∃ t2,t2=cmR s g2 93:=⟨_,rfl⟩
     have ht2':t2=cmR s (yr s (it (yr s x))) 93:=by rw [ht2,hg2']
     refine Wm (rcomma s g2 fr la 93 ⟨hs,h2z,hg2p⟩) ?_
     simp only [↓XC,XV,XT,Yg,reduceIte,Nat.reduceAdd,Nat.reduceLT,Nat.reduceEqDiff,Nat.reduceBEq,Nat.reduceLeDiff,reduceCtorEq,Nat.reduceSub,Nat.reduceMul,Int.reduceToNat,Int.reduceLT,Int.reduceLE,TES,XRE,XR,XRH,Yh,XM]
     rw [show (((93:UInt8).toNat:Nat):Int)=93 from rfl,←ht2]
     by_cases h3z:t2.cd=0
     ·simp only [decide_eq_true h3z]
      simp only [↓XC,XV,XT,Yg,reduceIte,Nat.reduceAdd,Nat.reduceLT,Nat.reduceEqDiff,Nat.reduceBEq,Nat.reduceLeDiff,reduceCtorEq,Nat.reduceSub,Nat.reduceMul,Int.reduceToNat,Int.reduceLT,Int.reduceLE,TES,XRE,XR,XRH,Yh,↓Ya,Yb]
      have hrd:=zef hit hx hxd hgz htz' h2z' (by rw [←ht2'];exact h3z)
      rw [←ht2'] at hrd
      have hlt3:=hrd.lt
      have hpo3:=hrd.ok.pos
      refine ⟨⟨t2,hrd.ok,hrd.dp.trans hxd,Nat.lt_of_lt_of_le hxe hrd.pre.length_le, ?_⟩,by simp only;omega, ?_⟩
      ·rw [zpq hgz (by rw [←hg];exact h2) htz' h2z' ⟨by rw [←ht2'];exact h3z,by rw [←ht2'];exact hlt3,by omega⟩,←ht2']
      ·exact (Ent.ren1 [0,1,2,3,4] (by decide) (by simp only [Yd];exact ⟨za (by simp [Yf,Yh]),zb fun _=>rfl,zb fun _=>rfl,zl,zb fun _=>rfl⟩) (by simp [zi,Vg.look,SV.mapH,muL]))
     ·simp only [decide_eq_false h3z]
      simp only [↓XC,XV,XT,Yg,reduceIte,Nat.reduceAdd,Nat.reduceLT,Nat.reduceEqDiff,Nat.reduceBEq,Nat.reduceLeDiff,reduceCtorEq,Nat.reduceSub,Nat.reduceMul,Int.reduceToNat,Int.reduceLT,Int.reduceLE,TES,XRE,XR,XRH,Yh,↓Ya,Yb]
      rw [zps hgz (by rw [←hg];exact h2) htz' h2z' (by rw [←ht2'];exact h3z),←ht2',decide_eq_false h3z]
      exact Wf (by simp only [↓XC,XV,XT,Yg,reduceIte,Nat.reduceAdd,Nat.reduceLT,Nat.reduceEqDiff,Nat.reduceBEq,Nat.reduceLeDiff,reduceCtorEq,Nat.reduceSub,Nat.reduceMul,Int.reduceToNat,Int.reduceLT,Int.reduceLE];try first | rfl | simp [Yf])
    ·simp only [decide_eq_false h2z]
     simp only [↓XC,XV,XT,Yg,reduceIte,Nat.reduceAdd,Nat.reduceLT,Nat.reduceEqDiff,Nat.reduceBEq,Nat.reduceLeDiff,reduceCtorEq,Nat.reduceSub,Nat.reduceMul,Int.reduceToNat,Int.reduceLT,Int.reduceLE,TES,XRE,XR,XRH,Yh,↓Ya,Yb]
     rw [zpr hgz (by rw [←hg];exact h2) htz' (by rw [←hg2'];exact h2z),←hg2',decide_eq_false h2z]
     exact Wf (by simp only [↓XC,XV,XT,Yg,reduceIte,Nat.reduceAdd,Nat.reduceLT,Nat.reduceEqDiff,Nat.reduceBEq,Nat.reduceLeDiff,reduceCtorEq,Nat.reduceSub,Nat.reduceMul,Int.reduceToNat,Int.reduceLT,Int.reduceLE];try first | rfl | simp [Yf])
   ·simp only [decide_eq_false htz]
    simp only [↓XC,XV,XT,Yg,reduceIte,Nat.reduceAdd,Nat.reduceLT,Nat.reduceEqDiff,Nat.reduceBEq,Nat.reduceLeDiff,reduceCtorEq,Nat.reduceSub,Nat.reduceMul,Int.reduceToNat,Int.reduceLT,Int.reduceLE,TES,XRE,XR,XRH,Yh,↓Ya,Yb]
    rw [zpp hgz (by rw [←hg];exact h2) (by rw [←hg,←ht];exact htz),←hg,←ht,decide_eq_false htz]
    exact Wf (by simp only [↓XC,XV,XT,Yg,reduceIte,Nat.reduceAdd,Nat.reduceLT,Nat.reduceEqDiff,Nat.reduceBEq,Nat.reduceLeDiff,reduceCtorEq,Nat.reduceSub,Nat.reduceMul,Int.reduceToNat,Int.reduceLT,Int.reduceLE];try first | rfl | simp [Yf])
theorem zgo (s:Bs) (r:Rd) (fr:Bool) (la:Int) (it:Rd→Rd) (ha:Bool) (an tg:Bs) (pf:Int) (pe:Nat) (HI:r.dp<40→(zf8 s (r.dp+1) it∧∀ r1:Rd,Ok s r1→r1.dp=r.dp+1→zc0 Tryz.prog 358 s fr la [] r1 (it r1))) (hp:s.length≤1048576∧Ok s r∧r.pos<s.length):FnK Tryz.prog 349 1 [.ptr 0 0 0,.agg [.b ha,.s an,.s tg,.i .i64 pf,.i .i64 (pe:Nat)]] [some (.blk false [.s s,.i .i64 ((r).pos:Nat),.slc 1 0 (r).ev.length,.slc 2 0 (r).ev.length,.mp 3,.slc 4 0 (r).hd.length,.i .i64 ((r).dp:Nat),.i .i64 (r).cd,.i .i64 ((r).pl:Nat),.b fr,.i .i64 la]),some (.row false 8 (r).ev.length (zg evc evz (r).ev)),some (.row false 1 (r).ev.length (zg qy false (r).dn)),some (.mapS (nmI (r).ev (r).bs)),some (.row false 2 (r).hd.length (zg hdc hdz (r).hd))] (fun z c=>z=.b (decide ((coR s it 125 4 r (⟨ha,an,tg,pe⟩:Pp)).cd=0))∧c=[some (.blk false [.s s,.i .i64 ((coR s it 125 4 r (⟨ha,an,tg,pe⟩:Pp)).pos:Nat),.slc 1 0 (coR s it 125 4 r (⟨ha,an,tg,pe⟩:Pp)).ev.length,.slc 2 0 (coR s it 125 4 r (⟨ha,an,tg,pe⟩:Pp)).ev.length,.mp 3,.slc 4 0 (coR s it 125 4 r (⟨ha,an,tg,pe⟩:Pp)).hd.length,.i .i64 ((coR s it 125 4 r (⟨ha,an,tg,pe⟩:Pp)).dp:Nat),.i .i64 (coR s it 125 4 r (⟨ha,an,tg,pe⟩:Pp)).cd,.i .i64 ((coR s it 125 4 r (⟨ha,an,tg,pe⟩:Pp)).pl:Nat),.b fr,.i .i64 la]),some (.row false 8 (coR s it 125 4 r (⟨ha,an,tg,pe⟩:Pp)).ev.length (zg evc evz (coR s it 125 4 r (⟨ha,an,tg,pe⟩:Pp)).ev)),some (.row false 1 (coR s it 125 4 r (⟨ha,an,tg,pe⟩:Pp)).ev.length (zg qy false (coR s it 125 4 r (⟨ha,an,tg,pe⟩:Pp)).dn)),some (.mapS (nmI (coR s it 125 4 r (⟨ha,an,tg,pe⟩:Pp)).ev (coR s it 125 4 r (⟨ha,an,tg,pe⟩:Pp)).bs)),some (.row false 2 (coR s it 125 4 r (⟨ha,an,tg,pe⟩:Pp)).hd.length (zg hdc hdz (coR s it 125 4 r (⟨ha,an,tg,pe⟩:Pp)).hd))]):=by
 refine FnK.ofE (cf:=zk Tryz.prog te [] 62 1 false (fun i=>i==11) (kp [(0,[0,3]),(1,[0,5,6]),(2,[0,5,18]),(3,[4]),(4,[0,5]),(5,[0,5,28]),(6,[4]),(7,[0,5,38]),(8,[0,5]),(9,[]),(10,[4]),(11,[0,5,61]),(12,[4])]) [] [(1,[],[],.q1 0 (.q1 2 (.q1 3 (.q1 4 (.q0 1 [1,6,7,8,9,10,11] (.q0 5 [5,6,7,8,9,10,11] (.alt 6 (.alt 7 (.alt 8 (.alt 9 (.seq [10,11]) (.alt 10 (.seq [9,11]) (.fin))) (.alt 9 (.seq [8,10,11]) (.fin))) (.fin)) (.fin)))))))),(7,[],[],.q1 0 (.q1 1 (.q1 2 (.q1 4 (.q1 5 (.q1 6 (.q0 3 [3] (.q0 7 [7] (.q1 8 (.q1 9 (.fin)))))))))))]) (zf te_ok (l:=[]) (trivial) zc) Tryz.func349 rfl rfl rfl (by simp [zk]) (by simp [zk]) (rs:=[.tmp 4]) rfl 100000 ?_
 simp only [↓XC,XV,XT,Yg,reduceIte,Nat.reduceAdd,Nat.reduceLT,Nat.reduceEqDiff,Nat.reduceBEq,Nat.reduceLeDiff,reduceCtorEq,Nat.reduceSub,Nat.reduceMul,Int.reduceToNat,Int.reduceLT,Int.reduceLE,TES,XRE,XR,XRH,Yh]
 obtain ⟨hs,ho,hlt⟩:=hp
 have hsz:=ho.size hs
 obtain ⟨ro,hro⟩:∃ ro,ro=opR r 4 6 (⟨ha,an,tg,pe⟩:Pp) r.pos:=⟨_,rfl⟩
 refine ⟨by decide +kernel, ?_⟩
 refine Wb (ropen s r fr la 4 6 ha an tg pf pe r.pos ⟨by omega,ho.dn,ho.bs,ho.cd,by decide,ho.dp⟩) ?_
 simp only [↓XC,XV,XT,Yg,reduceIte,Nat.reduceAdd,Nat.reduceLT,Nat.reduceEqDiff,Nat.reduceBEq,Nat.reduceLeDiff,reduceCtorEq,Nat.reduceSub,Nat.reduceMul,Int.reduceToNat,Int.reduceLT,Int.reduceLE,TES,XRE,XR,XRH,Yh,XM]
 rw [←hro]
 have hP:ro.cd=0→Ok s (atR ro (r.pos+1))∧ro.dp=r.dp+1∧ro.pos=r.pos∧r.ev.length<ro.ev.length∧r.dp<40:=fun h=>by
  rw [hro] at h
  obtain ⟨e,hd⟩:=zhn h
  have h9:=ho.sz
  rw [hro,e]
  refine ⟨⟨ho.cd,hlt,by simp [atR,zn,ho.dn],by simp only [atR,zn,List.length_append];have:=ho.bs;omega,by simp only [atR];omega,by simp only [atR,zn,List.length_append,List.length_singleton];omega,ho.hd,ho.pf⟩,rfl,rfl,by simp [zn],hd⟩
 have hC:coR s it 125 4 r (⟨ha,an,tg,pe⟩:Pp)=if ro.cd≠0 then ro else clL s it 125 r.ev.length (atR ro (r.pos+1)):=by rw [hro];rfl
 refine ⟨⟨?_, ?_⟩, ?_⟩
 all_goals
  refine ⟨fun h=>?_,fun h=>?_⟩
  ·have hne:¬ro.cd=0:=by simpa using h
   rw [hC,if_pos hne,decide_eq_false hne]
   exact Wf (by simp only [↓XC,XV,XT,Yg,reduceIte,Nat.reduceAdd,Nat.reduceLT,Nat.reduceEqDiff,Nat.reduceBEq,Nat.reduceLeDiff,reduceCtorEq,Nat.reduceSub,Nat.reduceMul,Int.reduceToNat,Int.reduceLT,Int.reduceLE];try first | rfl | simp [Yf])
  have hz:ro.cd=0:=by simpa using h
  obtain ⟨hok,hd1,hp1,he1,hd40⟩:=hP hz
  rw [hp1,if_neg (show ¬40≤r.dp by omega)]
  rw [if_neg (by simp [hz])] at hC
  rw [hC]
  obtain ⟨R,hR⟩:∃ R,R=clL s it 125 r.ev.length (atR ro (r.pos+1)):=⟨_,rfl⟩
  rw [←hR]
  obtain ⟨hit,HN⟩:=HI hd40
  refine Chk.mk (by simp only [inR];omega) fun _=>?_
  refine yv.of (ι:={x:Rd // Ok s x∧x.dp=r.dp+1∧r.ev.length<x.ev.length∧clL s it 125 r.ev.length x=R}) (fun x=>⟨[(0,.ptr 0 0 0),(5,.i .i64 (r.ev.length:Nat))],[some (.blk false [.s s,.i .i64 ((x.1).pos:Nat),.slc 1 0 (x.1).ev.length,.slc 2 0 (x.1).ev.length,.mp 3,.slc 4 0 (x.1).hd.length,.i .i64 ((x.1).dp:Nat),.i .i64 (x.1).cd,.i .i64 ((x.1).pl:Nat),.b fr,.i .i64 la]),some (.row false 8 (x.1).ev.length (zg evc evz (x.1).ev)),some (.row false 1 (x.1).ev.length (zg qy false (x.1).dn)),some (.mapS (nmI (x.1).ev (x.1).bs)),some (.row false 2 (x.1).hd.length (zg hdc hdz (x.1).hd))]⟩) (fun x=>s.length-x.1.pos) ⟨atR ro (r.pos+1),hok,hd1,he1,hR.symm⟩ (Ent.ren1 [0,1,2,3,4] (by decide) (by simp only [Yd];exact ⟨za (by simp [Yf,Yh]),zb fun _=>rfl,zb fun _=>rfl,zl,zb fun _=>rfl⟩) (by simp [zi,Vg.look,SV.mapH,muL])) ?_
  rintro ⟨x,hx,hxd,hxe,hxc⟩
  simp only [↓XC,XV,XT,Yg,reduceIte,Nat.reduceAdd,Nat.reduceLT,Nat.reduceEqDiff,Nat.reduceBEq,Nat.reduceLeDiff,reduceCtorEq,Nat.reduceSub,Nat.reduceMul,Int.reduceToNat,Int.reduceLT,Int.reduceLE,TES,XRE,XR,XRH,Yh]
  obtain ⟨g,hg⟩:∃ g,g=yr s x:=⟨_,rfl⟩
  refine Wm (rgap s x fr la ⟨hs,hx.cd,hx.pos⟩) ?_
  simp only [↓XC,XV,XT,Yg,reduceIte,Nat.reduceAdd,Nat.reduceLT,Nat.reduceEqDiff,Nat.reduceBEq,Nat.reduceLeDiff,reduceCtorEq,Nat.reduceSub,Nat.reduceMul,Int.reduceToNat,Int.reduceLT,Int.reduceLE,TES,XRE,XR,XRH,Yh,XM]
  rw [←hg,←hxc]
  refine ⟨fun h1=>?_,fun h1=>?_⟩
  ·have hne:¬g.cd=0:=by simpa using h1
   rw [zil (by rw [←hg];exact hne),←hg,decide_eq_false hne]
   exact Wf (by simp only [↓XC,XV,XT,Yg,reduceIte,Nat.reduceAdd,Nat.reduceLT,Nat.reduceEqDiff,Nat.reduceBEq,Nat.reduceLeDiff,reduceCtorEq,Nat.reduceSub,Nat.reduceMul,Int.reduceToNat,Int.reduceLT,Int.reduceLE];try first | rfl | simp [Yf])
  have hgz:(yr s x).cd=0:=by rw [←hg];simpa using h1
  obtain ⟨hge,hgl⟩:=ka hgz
  have hgo:Ok s g:=by rw [hg];exact hx.gap hgz
  have hgd:g.dp=r.dp+1:=by rw [hg,hge];exact hxd
  have hgev:g.ev=x.ev:=by rw [hg,hge];rfl
  have hgp:g.pos<s.length:=by rw [hg,hge];exact hgl
  have hgsz:=hgo.size hs
  rw [←kv hgp]
  refine ⟨by decide +kernel,Chk.mk (by omega) fun _=>⟨fun h2=>Chk.mk (by simp only [inR];omega) fun _=>?_,fun h2=>?_⟩⟩
  ·rw [zim hgz (by rw [←hg];exact h2),←hg]
   refine Wb (rshut s (atR g (g.pos+1)) fr la r.ev.length ⟨Nat.le_trans hgsz (by decide),hgo.dn,hgo.bs,by rw [show (atR g (g.pos+1)).ev=x.ev from hgev];exact hxe,by show 0<g.dp;omega,hgo.dp⟩) ?_
   simp only [↓XC,XV,XT,Yg,reduceIte,Nat.reduceAdd,Nat.reduceLT,Nat.reduceEqDiff,Nat.reduceBEq,Nat.reduceLeDiff,reduceCtorEq,Nat.reduceSub,Nat.reduceMul,Int.reduceToNat,Int.reduceLT,Int.reduceLE,TES,XRE,XR,XRH,Yh,XM]
   simp only [shR,List.length_append,List.length_cons,List.length_nil,Nat.zero_add]
   exact Wf (by simp only [↓XC,XV,XT,Yg,reduceIte,Nat.reduceAdd,Nat.reduceLT,Nat.reduceEqDiff,Nat.reduceBEq,Nat.reduceLeDiff,reduceCtorEq,Nat.reduceSub,Nat.reduceMul,Int.reduceToNat,Int.reduceLT,Int.reduceLE];try simp [Yf,hgo.cd])
  ·obtain ⟨t,ht⟩:∃ t,t=it g:=⟨_,rfl⟩
   have hN:=HN g hgo hgd
   unfold zc0 rdC at hN
   refine Wb (hN) ?_
   simp only [↓XC,XV,XT,Yg,reduceIte,Nat.reduceAdd,Nat.reduceLT,Nat.reduceEqDiff,Nat.reduceBEq,Nat.reduceLeDiff,reduceCtorEq,Nat.reduceSub,Nat.reduceMul,Int.reduceToNat,Int.reduceLT,Int.reduceLE,TES,XRE,XR,XRH,Yh,XM]
   rw [←ht]
   by_cases htz:t.cd=0
   ·simp only [decide_eq_true htz]
    simp only [↓XC,XV,XT,Yg,reduceIte,Nat.reduceAdd,Nat.reduceLT,Nat.reduceEqDiff,Nat.reduceBEq,Nat.reduceLeDiff,reduceCtorEq,Nat.reduceSub,Nat.reduceMul,Int.reduceToNat,Int.reduceLT,Int.reduceLE,TES,XRE,XR,XRH,Yh,↓Ya,Yb]
    have htz':(it (yr s x)).cd=0:=by rw [←hg,←ht];exact htz
    have hst:=hit g hgo hgd (by rw [←ht];exact htz)
    rw [←ht] at hst
    have hto:=hst.ok
    obtain ⟨g2,hg2⟩:∃ g2,g2=yr s t:=⟨_,rfl⟩
    have hg2':g2=yr s (it (yr s x)):=by rw [hg2,ht,hg]
    refine Wm (rgap s t fr la ⟨hs,htz,hto.pos⟩) ?_
    simp only [↓XC,XV,XT,Yg,reduceIte,Nat.reduceAdd,Nat.reduceLT,Nat.reduceEqDiff,Nat.reduceBEq,Nat.reduceLeDiff,reduceCtorEq,Nat.reduceSub,Nat.reduceMul,Int.reduceToNat,Int.reduceLT,Int.reduceLE,TES,XRE,XR,XRH,Yh,XM]
    rw [←hg2]
    by_cases h2z:g2.cd=0
    ·simp only [decide_eq_true h2z]
     simp only [↓XC,XV,XT,Yg,reduceIte,Nat.reduceAdd,Nat.reduceLT,Nat.reduceEqDiff,Nat.reduceBEq,Nat.reduceLeDiff,reduceCtorEq,Nat.reduceSub,Nat.reduceMul,Int.reduceToNat,Int.reduceLT,Int.reduceLE,TES,XRE,XR,XRH,Yh,↓Ya,Yb]
     have h2z':(yr s (it (yr s x))).cd=0:=by rw [←hg2'];exact h2z
     have hg2o:Ok s g2:=by rw [hg2];exact hto.gap (by rw [←hg2];exact h2z)
     have hg2p:g2.pos<s.length:=by
      obtain ⟨e9,h9⟩:=ka (s:=s) (r:=t) (by rw [←hg2];exact h2z)
      rw [hg2,e9];exact h9
     obtain ⟨t2,ht2⟩:∃ t2,t2=cmR s g2 125:=⟨_,rfl⟩
     have ht2':t2=cmR s (yr s (it (yr s x))) 125:=by rw [ht2,hg2']
     refine Wm (rcomma s g2 fr la 125 ⟨hs,h2z,hg2p⟩) ?_
     simp only [↓XC,XV,XT,Yg,reduceIte,Nat.reduceAdd,Nat.reduceLT,Nat.reduceEqDiff,Nat.reduceBEq,Nat.reduceLeDiff,reduceCtorEq,Nat.reduceSub,Nat.reduceMul,Int.reduceToNat,Int.reduceLT,Int.reduceLE,TES,XRE,XR,XRH,Yh,XM]
     rw [show (((125:UInt8).toNat:Nat):Int)=125 from rfl,←ht2]
     by_cases h3z:t2.cd=0
     ·simp only [decide_eq_true h3z]
      simp only [↓XC,XV,XT,Yg,reduceIte,Nat.reduceAdd,Nat.reduceLT,Nat.reduceEqDiff,Nat.reduceBEq,Nat.reduceLeDiff,reduceCtorEq,Nat.reduceSub,Nat.reduceMul,Int.reduceToNat,Int.reduceLT,Int.reduceLE,TES,XRE,XR,XRH,Yh,↓Ya,Yb]
      have hrd:=zef hit hx hxd hgz htz' h2z' (by rw [←ht2'];exact h3z)
      rw [←ht2'] at hrd
      have hlt3:=hrd.lt
      have hpo3:=hrd.ok.pos
      refine ⟨⟨t2,hrd.ok,hrd.dp.trans hxd,Nat.lt_of_lt_of_le hxe hrd.pre.length_le, ?_⟩,by simp only;omega, ?_⟩
      ·rw [zpq hgz (by rw [←hg];exact h2) htz' h2z' ⟨by rw [←ht2'];exact h3z,by rw [←ht2'];exact hlt3,by omega⟩,←ht2']
      ·exact (Ent.ren1 [0,1,2,3,4] (by decide) (by simp only [Yd];exact ⟨za (by simp [Yf,Yh]),zb fun _=>rfl,zb fun _=>rfl,zl,zb fun _=>rfl⟩) (by simp [zi,Vg.look,SV.mapH,muL]))
     ·simp only [decide_eq_false h3z]
      simp only [↓XC,XV,XT,Yg,reduceIte,Nat.reduceAdd,Nat.reduceLT,Nat.reduceEqDiff,Nat.reduceBEq,Nat.reduceLeDiff,reduceCtorEq,Nat.reduceSub,Nat.reduceMul,Int.reduceToNat,Int.reduceLT,Int.reduceLE,TES,XRE,XR,XRH,Yh,↓Ya,Yb]
      rw [zps hgz (by rw [←hg];exact h2) htz' h2z' (by rw [←ht2'];exact h3z),←ht2',decide_eq_false h3z]
      exact Wf (by simp only [↓XC,XV,XT,Yg,reduceIte,Nat.reduceAdd,Nat.reduceLT,Nat.reduceEqDiff,Nat.reduceBEq,Nat.reduceLeDiff,reduceCtorEq,Nat.reduceSub,Nat.reduceMul,Int.reduceToNat,Int.reduceLT,Int.reduceLE];try first | rfl | simp [Yf])
    ·simp only [decide_eq_false h2z]
     simp only [↓XC,XV,XT,Yg,reduceIte,Nat.reduceAdd,Nat.reduceLT,Nat.reduceEqDiff,Nat.reduceBEq,Nat.reduceLeDiff,reduceCtorEq,Nat.reduceSub,Nat.reduceMul,Int.reduceToNat,Int.reduceLT,Int.reduceLE,TES,XRE,XR,XRH,Yh,↓Ya,Yb]
     rw [zpr hgz (by rw [←hg];exact h2) htz' (by rw [←hg2'];exact h2z),←hg2',decide_eq_false h2z]
     exact Wf (by simp only [↓XC,XV,XT,Yg,reduceIte,Nat.reduceAdd,Nat.reduceLT,Nat.reduceEqDiff,Nat.reduceBEq,Nat.reduceLeDiff,reduceCtorEq,Nat.reduceSub,Nat.reduceMul,Int.reduceToNat,Int.reduceLT,Int.reduceLE];try first | rfl | simp [Yf])
   ·simp only [decide_eq_false htz]
    simp only [↓XC,XV,XT,Yg,reduceIte,Nat.reduceAdd,Nat.reduceLT,Nat.reduceEqDiff,Nat.reduceBEq,Nat.reduceLeDiff,reduceCtorEq,Nat.reduceSub,Nat.reduceMul,Int.reduceToNat,Int.reduceLT,Int.reduceLE,TES,XRE,XR,XRH,Yh,↓Ya,Yb]
    rw [zpp hgz (by rw [←hg];exact h2) (by rw [←hg,←ht];exact htz),←hg,←ht,decide_eq_false htz]
    exact Wf (by simp only [↓XC,XV,XT,Yg,reduceIte,Nat.reduceAdd,Nat.reduceLT,Nat.reduceEqDiff,Nat.reduceBEq,Nat.reduceLeDiff,reduceCtorEq,Nat.reduceSub,Nat.reduceMul,Int.reduceToNat,Int.reduceLT,Int.reduceLE];try first | rfl | simp [Yf])
end Go.T
