/- Own text: part TBK. -/
import Derived.Test.YtgippllfnmdnpaaGreatDoorTBJ
import Derived.Test.YtgippllfnmdnpaaGreatDoorTAY
import Derived.Test.YtgippllfnmdnpaaGreatDoorTAO
import Derived.Test.YtgippllfnmdnpaaGreatDoorTBG
section
set_option linter.unusedVariables false
set_option linter.unusedSimpArgs false
set_option linter.unusedSectionVars false
set_option linter.unnecessarySimpa false
namespace Go.T
variable [Go.Vg.Glob] [Go.Vg.GlobTabs 0 1]
open Go.Proofs Go.Vg Go.RowKit Go.TT Go.Pl
set_option maxRecDepth 10000
set_option maxHeartbeats 4000000
theorem zdt (s:Bs) (r:Rd) (fr:Bool) (la:Int) (sb:Rd→Rd) (ha:Bool) (an tg:Bs) (pf:Int) (pe:Nat) (HL:byt s r.pos=91→zc0 Tryz.prog 348 s fr la [.agg [.b ha,.s an,.s tg,.i .i64 pf,.i .i64 (pe:Nat)]] r (coR s sb 93 3 r (⟨ha,an,tg,pe⟩:Pp))) (HM:byt s r.pos=123→zc0 Tryz.prog 349 s fr la [.agg [.b ha,.s an,.s tg,.i .i64 pf,.i .i64 (pe:Nat)]] r (coR s (paR s sb) 125 4 r (⟨ha,an,tg,pe⟩:Pp))) (hp:s.length≤1048576∧Ok s r):FnK Tryz.prog 318 1 [.ptr 0 0 0,.agg [.b ha,.s an,.s tg,.i .i64 pf,.i .i64 (pe:Nat)]] [some (.blk false [.s s,.i .i64 ((r).pos:Nat),.slc 1 0 (r).ev.length,.slc 2 0 (r).ev.length,.mp 3,.slc 4 0 (r).hd.length,.i .i64 ((r).dp:Nat),.i .i64 (r).cd,.i .i64 ((r).pl:Nat),.b fr,.i .i64 la]),some (.row false 8 (r).ev.length (zg evc evz (r).ev)),some (.row false 1 (r).ev.length (zg qy false (r).dn)),some (.mapS (nmI (r).ev (r).bs)),some (.row false 2 (r).hd.length (zg hdc hdz (r).hd))] (fun z c=>z=.b (decide ((boR s sb r (⟨ha,an,tg,pe⟩:Pp)).cd=0))∧c=[some (.blk false [.s s,.i .i64 ((boR s sb r (⟨ha,an,tg,pe⟩:Pp)).pos:Nat),.slc 1 0 (boR s sb r (⟨ha,an,tg,pe⟩:Pp)).ev.length,.slc 2 0 (boR s sb r (⟨ha,an,tg,pe⟩:Pp)).ev.length,.mp 3,.slc 4 0 (boR s sb r (⟨ha,an,tg,pe⟩:Pp)).hd.length,.i .i64 ((boR s sb r (⟨ha,an,tg,pe⟩:Pp)).dp:Nat),.i .i64 (boR s sb r (⟨ha,an,tg,pe⟩:Pp)).cd,.i .i64 ((boR s sb r (⟨ha,an,tg,pe⟩:Pp)).pl:Nat),.b fr,.i .i64 la]),some (.row false 8 (boR s sb r (⟨ha,an,tg,pe⟩:Pp)).ev.length (zg evc evz (boR s sb r (⟨ha,an,tg,pe⟩:Pp)).ev)),some (.row false 1 (boR s sb r (⟨ha,an,tg,pe⟩:Pp)).ev.length (zg qy false (boR s sb r (⟨ha,an,tg,pe⟩:Pp)).dn)),some (.mapS (nmI (boR s sb r (⟨ha,an,tg,pe⟩:Pp)).ev (boR s sb r (⟨ha,an,tg,pe⟩:Pp)).bs)),some (.row false 2 (boR s sb r (⟨ha,an,tg,pe⟩:Pp)).hd.length (zg hdc hdz (boR s sb r (⟨ha,an,tg,pe⟩:Pp)).hd))]):=by
 refine FnK.ofE (cf:=zk Tryz.prog te [(107,zm),(191,wn),(101,y4)] 76 1 false (fun _=>false) (kp [(0,[0,3]),(1,[0,3,5]),(2,[0,3,5,15]),(3,[4]),(4,[0,3,5,21]),(5,[4]),(6,[0,3,5,27]),(7,[4]),(8,[0,3,5,33]),(9,[4]),(10,[0,3,5,39]),(11,[4]),(12,[0,3,52]),(13,[]),(14,[4]),(15,[4])]) [] [(1,[],[],.q1 0 (.q1 1 (.q1 2 (.q1 4 (.q1 5 (.q1 6 (.q0 3 [3] (.q0 7 [7] (.alt 8 (.q1 9 (.fin)) (.fin)))))))))),(10,[],[],.q1 0 (.q1 1 (.q1 2 (.q1 4 (.q1 5 (.q1 6 (.q0 3 [3] (.q0 7 [7] (.alt 8 (.q1 9 (.fin)) (.fin))))))))))]) (zf te_ok (l:=[(107,zm),(191,wn),(101,y4)]) (⟨z6,ve,ww,trivial⟩) zc) Tryz.func318 rfl rfl rfl (by simp [zk]) (by simp [zk]) (rs:=[.tmp 4]) rfl 100000 ?_
 simp only [↓XC,XV,XT,Yg,seval,TES,zd,yj,zq,XRE,XR,XRH,Yh]
 obtain ⟨hs,ho⟩:=hp
 have hsz:=ho.size hs
 have hcd:=ho.cd
 rw [zu s ho.pos]
 refine ⟨by decide +kernel,Chk.mk hs fun _=>⟨fun h1=>?_,fun h1=>⟨fun h2=>?_,fun h2=>⟨fun h3=>?_,fun h3=>⟨fun h4=>?_,fun h4=>?_⟩⟩⟩⟩⟩
 ·have e:boR s sb r (⟨ha,an,tg,pe⟩:Pp)=coR s sb 93 3 r (⟨ha,an,tg,pe⟩:Pp):=by unfold boR;rw [if_pos h1]
  rw [e]
  have hN:=HL h1
  unfold zc0 rdC at hN
  refine Wb (hN) ?_
  simp only [↓XC,XV,XT,Yg,seval,TES,XRE,XR,XRH,Yh,XM]
  exact Wf
 ·have e:boR s sb r (⟨ha,an,tg,pe⟩:Pp)=coR s (paR s sb) 125 4 r (⟨ha,an,tg,pe⟩:Pp):=by unfold boR;rw [if_neg h1,if_pos h2]
  rw [e]
  have hN:=HM h2
  unfold zc0 rdC at hN
  refine Wb (hN) ?_
  simp only [↓XC,XV,XT,Yg,seval,TES,XRE,XR,XRH,Yh,XM]
  exact Wf
 ·have e:boR s sb r (⟨ha,an,tg,pe⟩:Pp)=alR s r ha:=by unfold boR scR;rw [if_neg h1,if_neg h2,if_pos h3]
  rw [e]
  refine Wb (zsq s r fr la ha an tg pf pe ⟨hs,by omega,ho.dn,ho.bs,ho.cd,ho.pos⟩) ?_
  simp only [↓XC,XV,XT,Yg,seval,TES,XRE,XR,XRH,Yh,XM]
  exact Wf
 ·have hqp:r.pos<s.length:=by
   simp only [Bool.or_eq_true,beq_iff_eq] at h4
   rcases h4 with h | h
   ·exact zy h (by decide)
   ·exact zy h (by decide)
  have e:boR s sb r (⟨ha,an,tg,pe⟩:Pp)=qtR s r (⟨ha,an,tg,pe⟩:Pp):=by unfold boR scR;rw [if_neg h1,if_neg h2,if_neg h3,if_pos (show zff (byt s r.pos)=true from h4)]
  rw [e]
  refine Wb (zsd s r fr la ha an tg pf pe ⟨hs,by omega,ho.dn,ho.bs,ho.cd,hqp⟩) ?_
  simp only [↓XC,XV,XT,Yg,seval,TES,XRE,XR,XRH,Yh,XM]
  exact Wf
 have h4':¬zff (byt s r.pos)=true:=by unfold zff;simpa using h4
 refine ⟨by decide +kernel,Chk.mk hs fun _=>⟨fun h5=>?_,fun h5=>⟨fun h6=>?_,fun h6=>?_⟩⟩⟩
 ·have e:boR s sb r (⟨ha,an,tg,pe⟩:Pp)=plR s r (⟨ha,an,tg,pe⟩:Pp) (-1) true:=by unfold boR scR;rw [if_neg h1,if_neg h2,if_neg h3,if_neg h4',if_pos h5]
  rw [e]
  refine Wb (zwv s r fr la ha an tg pf pe (-1) true ⟨hs,by omega,ho.dn,ho.bs,ho.pos⟩) ?_
  simp only [↓XC,XV,XT,Yg,seval,TES,XRE,XR,XRH,Yh,XM]
  simp only [plR,atR,y5,zn,List.length_append,List.length_cons,List.length_nil,Nat.zero_add]
  exact Wf (by simp only [↓XC,XV,XT,Yg,seval];try simp [Yf,hcd])
 ·have e:boR s sb r (⟨ha,an,tg,pe⟩:Pp)=y5 r 1 [] an tg:=by unfold boR scR;rw [if_neg h1,if_neg h2,if_neg h3,if_neg h4',if_neg (by simpa using h5),if_pos (by simpa [or_assoc] using h6)]
  rw [e]
  refine Wb (zg5 s r fr la 1 [] ha an tg pf pe ⟨by omega,ho.dn,ho.bs⟩) ?_
  simp only [↓XC,XV,XT,Yg,seval,TES,XRE,XR,XRH,Yh,XM]
  exact Wf (by simp only [↓XC,XV,XT,Yg,seval];try simp [Yf,hcd])
 ·have e:boR s sb r (⟨ha,an,tg,pe⟩:Pp)=flt r 10 r.pos:=by unfold boR scR;rw [if_neg h1,if_neg h2,if_neg h3,if_neg h4',if_neg (by simpa using h5),if_neg (by simpa [or_assoc,and_assoc] using h6)]
  rw [e]
  refine Wm (wg s r fr la 10 r.pos hcd) ?_
  simp only [↓XC,XV,XT,Yg,seval,TES,XRE,XR,XRH,Yh,XM]
  exact Wf
theorem znq (s:Bs) (r:Rd) (fr:Bool) (la:Int) (sb:Rd→Rd) (HB:∀ (r1:Rd) (ha:Bool) (an tg:Bs) (pf:Int) (pe:Nat),Ok s r1→r1.dp=r.dp→zc0 Tryz.prog 318 s fr la [.agg [.b ha,.s an,.s tg,.i .i64 pf,.i .i64 (pe:Nat)]] r1 (boR s sb r1 (⟨ha,an,tg,pe⟩:Pp))) (hp:s.length≤1048576∧Ok s r):FnK Tryz.prog 356 1 [.ptr 0 0 0] [some (.blk false [.s s,.i .i64 ((r).pos:Nat),.slc 1 0 (r).ev.length,.slc 2 0 (r).ev.length,.mp 3,.slc 4 0 (r).hd.length,.i .i64 ((r).dp:Nat),.i .i64 (r).cd,.i .i64 ((r).pl:Nat),.b fr,.i .i64 la]),some (.row false 8 (r).ev.length (zg evc evz (r).ev)),some (.row false 1 (r).ev.length (zg qy false (r).dn)),some (.mapS (nmI (r).ev (r).bs)),some (.row false 2 (r).hd.length (zg hdc hdz (r).hd))] (fun z c=>z=.b (decide ((noR s sb r).cd=0))∧c=[some (.blk false [.s s,.i .i64 ((noR s sb r).pos:Nat),.slc 1 0 (noR s sb r).ev.length,.slc 2 0 (noR s sb r).ev.length,.mp 3,.slc 4 0 (noR s sb r).hd.length,.i .i64 ((noR s sb r).dp:Nat),.i .i64 (noR s sb r).cd,.i .i64 ((noR s sb r).pl:Nat),.b fr,.i .i64 la]),some (.row false 8 (noR s sb r).ev.length (zg evc evz (noR s sb r).ev)),some (.row false 1 (noR s sb r).ev.length (zg qy false (noR s sb r).dn)),some (.mapS (nmI (noR s sb r).ev (noR s sb r).bs)),some (.row false 2 (noR s sb r).hd.length (zg hdc hdz (noR s sb r).hd))]):=by
 refine FnK.ofE (cf:=zk Tryz.prog te [] 24 1 false (fun i=>i==2) (kp [(0,[0]),(1,[0,3,4]),(2,[0,3,20]),(3,[2]),(4,[2])]) [] []) (zf te_ok (l:=[]) (trivial) zc) Tryz.func356 rfl rfl rfl (by simp [zk]) (by simp [zk]) (rs:=[.tmp 2]) rfl 100000 ?_
 simp only [↓XC,XV,XT,Yg,seval,TES,XRE,XR,XRH,Yh]
 obtain ⟨hs,ho⟩:=hp
 have hsz:=ho.size hs
 have hcd:=ho.cd
 obtain ⟨q,hq⟩:∃ q,q=prR s true r:=⟨_,rfl⟩
 obtain ⟨p,hpp⟩:∃ p,p=prP s true r:=⟨_,rfl⟩
 refine Wm (znn s r fr la true ⟨hs,hcd,ho.pos,ho.hd,ho.pf⟩) ?_
 simp only [↓XC,XV,XT,Yg,seval,TES,XRE,XR,XRH,Yh,XM]
 rw [←hq,←hpp]
 by_cases hqz:q.cd=0
 ·obtain ⟨a9,e9,l9,l10,_⟩:=vo (fl:=true) ho.pos hcd (by rw [←hq];exact hqz)
  rw [←hq] at e9
  have hqo:Ok s q:=by rw [e9];exact ho.at l9 l10
  have hqd:q.dp=r.dp:=by rw [e9];rfl
  simp only [decide_eq_true hqz]
  cases hh:p.has
  ·have hF:prF s r=q:=by unfold prF;rw [←hq,←hpp,if_neg (by rw [hh];simp)]
   have hFo:=hqo
   have hFd:=hqd
   have hFz:=hqz
   rw [←hh]
   simp only [↓XC,XV,XT,Yg,seval,TES,XRE,XR,XRH,Yh,↓Ya,Yb,hh]
   have hN:=HB q false p.an p.tg (r.pos:Nat) p.en hFo hFd
   unfold zc0 rdC at hN
   refine Wb (hN) ?_
   simp only [↓XC,XV,XT,Yg,seval,TES,XRE,XR,XRH,Yh,XM]
   have e:noR s sb r=boR s sb q (⟨false,p.an,p.tg,p.en⟩:Pp):=by unfold noR;rw [hF,if_neg (by simpa using hFz),←hpp,←hh]
   rw [e]
   exact Wf
  ·simp only [↓XC,XV,XT,Yg,seval,TES,XRE,XR,XRH,Yh,↓Ya,Yb]
   obtain ⟨g,hg⟩:∃ g,g=kw s q:=⟨_,rfl⟩
   have hF:prF s r=g:=by unfold prF;rw [←hq,←hpp,if_pos ⟨hqz,hh⟩,hg]
   refine Wm (rgoes s q fr la ⟨hs,hqz,hqo.pos⟩) ?_
   simp only [↓XC,XV,XT,Yg,seval,TES,XRE,XR,XRH,Yh,XM]
   rw [←hg]
   by_cases hFz:g.cd=0
   ·simp only [decide_eq_true hFz]
    have eg:g=q:=by rw [hg];exact (zlj (by rw [←hg];exact hFz)).1
    have hFo:Ok s g:=by rw [eg];exact hqo
    have hFd:g.dp=r.dp:=by rw [eg];exact hqd
    simp only [↓XC,XV,XT,Yg,seval,TES,XRE,XR,XRH,Yh,↓Ya,Yb]
    have hN:=HB g true p.an p.tg (r.pos:Nat) p.en hFo hFd
    unfold zc0 rdC at hN
    refine Wb (hN) ?_
    simp only [↓XC,XV,XT,Yg,seval,TES,XRE,XR,XRH,Yh,XM]
    have e:noR s sb r=boR s sb g (⟨true,p.an,p.tg,p.en⟩:Pp):=by unfold noR;rw [hF,if_neg (by simpa using hFz),←hpp,←hh]
    rw [e]
    exact Wf
   ·simp only [decide_eq_false hFz]
    simp only [↓XC,XV,XT,Yg,seval,TES,XRE,XR,XRH,Yh,↓Ya,Yb]
    have e:noR s sb r=g:=by unfold noR;rw [hF,if_pos hFz]
    rw [e,decide_eq_false hFz]
    exact Wf
 ·simp only [decide_eq_false hqz]
  simp only [↓XC,XV,XT,Yg,seval,TES,XRE,XR,XRH,Yh,↓Ya,Yb]
  have e:noR s sb r=q:=by
   have hF:prF s r=q:=by unfold prF;rw [←hq,if_neg (fun h=>hqz h.1)]
   unfold noR;rw [hF,if_pos hqz]
  rw [e,decide_eq_false hqz]
  exact Wf
theorem znp (s:Bs) (r:Rd) (fr:Bool) (la:Int) (sb:Rd→Rd) (HS:∀ r1:Rd,Ok s r1→r1.dp=r.dp→zc0 Tryz.prog 356 s fr la [] r1 (sb r1)) (hp:s.length≤1048576∧Ok s r):FnK Tryz.prog 358 1 [.ptr 0 0 0] [some (.blk false [.s s,.i .i64 ((r).pos:Nat),.slc 1 0 (r).ev.length,.slc 2 0 (r).ev.length,.mp 3,.slc 4 0 (r).hd.length,.i .i64 ((r).dp:Nat),.i .i64 (r).cd,.i .i64 ((r).pl:Nat),.b fr,.i .i64 la]),some (.row false 8 (r).ev.length (zg evc evz (r).ev)),some (.row false 1 (r).ev.length (zg qy false (r).dn)),some (.mapS (nmI (r).ev (r).bs)),some (.row false 2 (r).hd.length (zg hdc hdz (r).hd))] (fun z c=>z=.b (decide ((paR s sb r).cd=0))∧c=[some (.blk false [.s s,.i .i64 ((paR s sb r).pos:Nat),.slc 1 0 (paR s sb r).ev.length,.slc 2 0 (paR s sb r).ev.length,.mp 3,.slc 4 0 (paR s sb r).hd.length,.i .i64 ((paR s sb r).dp:Nat),.i .i64 (paR s sb r).cd,.i .i64 ((paR s sb r).pl:Nat),.b fr,.i .i64 la]),some (.row false 8 (paR s sb r).ev.length (zg evc evz (paR s sb r).ev)),some (.row false 1 (paR s sb r).ev.length (zg qy false (paR s sb r).dn)),some (.mapS (nmI (paR s sb r).ev (paR s sb r).bs)),some (.row false 2 (paR s sb r).hd.length (zg hdc hdz (paR s sb r).hd))]):=by
 refine FnK.ofE (cf:=zk Tryz.prog te [(107,zm),(191,wn),(101,y4),(108,qn),(183,wu)] 163 1 false (fun i=>i==2||i==14) (kp [(0,[0]),(1,[0,3,4]),(2,[0,3,4,23]),(3,[2]),(4,[0,3,4,5]),(5,[2]),(6,[0,3,4,5,39]),(7,[0,4,5]),(8,[0,3,4,5,45]),(9,[0,4,5]),(10,[0,3,4,5,51]),(11,[0,4,5]),(12,[0,3,4,5,64]),(13,[0,4,5]),(14,[0,5,88]),(15,[2]),(16,[0,6]),(17,[0,129]),(18,[]),(19,[2]),(20,[0]),(21,[0,142]),(22,[2]),(23,[0,7]),(24,[0,157]),(25,[]),(26,[2]),(27,[2])]) [4,14] [(4,[],[],.q1 0 (.q1 1 (.q1 2 (.q1 4 (.q1 5 (.q1 6 (.q0 3 [3] (.q0 7 [7] (.alt 8 (.q1 9 (.fin)) (.fin)))))))))),(10,[],[],.q1 0 (.q1 1 (.q1 2 (.q1 4 (.q1 5 (.q1 6 (.q0 3 [3] (.q0 7 [7] (.alt 8 (.q1 9 (.fin)) (.fin)))))))))),(16,[],[],.q1 0 (.q1 1 (.q1 2 (.q1 4 (.q1 5 (.q1 6 (.q0 3 [3] (.q0 7 [7] (.q1 8 (.alt 9 (.q1 10 (.q1 11 (.q1 12 (.q1 13 (.q1 15 (.q1 16 (.q1 17 (.q0 14 [14] (.q0 18 [18] (.q1 19 (.alt 20 (.alt 21 (.q1 22 (.q1 23 (.q1 24 (.alt 25 (.q1 26 (.q1 27 (.fin))) (.fin))))) (.fin)) (.fin)))))))))))) (.fin))))))))))),(17,[],[],.q1 0 (.q1 1 (.q1 2 (.q1 4 (.q1 5 (.q1 6 (.q0 3 [3] (.q0 7 [7] (.q1 8 (.q1 9 (.q1 10 (.q1 11 (.q1 12 (.q1 13 (.fin))))))))))))))),(23,[],[],.q1 0 (.q1 1 (.q1 2 (.q1 4 (.q1 5 (.q1 6 (.q0 3 [3] (.q0 7 [7] (.q1 8 (.q1 9 (.fin)))))))))))]) (zf te_ok (l:=[(107,zm),(191,wn),(101,y4),(108,qn),(183,wu)]) (⟨z6,ve,ww,w5,j5,trivial⟩) zc) Tryz.func358 rfl rfl rfl (by simp [zk]) (by simp [zk]) (rs:=[.tmp 2]) rfl 100000 ?_
 simp only [↓XC,XV,XT,Yg,seval,TES,zd,yj,zq,zz,yb,XRE,XR,XRH,Yh,yo]
 obtain ⟨hs,ho⟩:=hp
 have hsz:=ho.size hs
 have hcd:=ho.cd
 obtain ⟨q,hq⟩:∃ q,q=prR s true r:=⟨_,rfl⟩
 obtain ⟨p,hpp⟩:∃ p,p=prP s true r:=⟨_,rfl⟩
 refine zj.mut (znn s r fr la true ⟨hs,hcd,ho.pos,ho.hd,ho.pf⟩) rfl [0,1,2,3,4] (by simp [Yf]) (by simp only [Ye];exact ⟨by omega,za (by simp [Yf,Yh,yo]),by omega,zb fun _=>rfl,by omega,zb fun _=>rfl,by omega,zl,by omega,zb fun _=>rfl⟩) (by decide) ?_
 simp only [↓XC,XV,XT,Yg,seval,TES,XRE,XR,XRH,Yh,yo,XM]
 rw [←hq,←hpp]
 refine zgl.of (ι:={x:Rd // x=prF s r∧x.cd=0}) (fun x=>⟨[(0,.ptr 0 0 0),(3,.ptr 5 0 0),(4,.b true)],[some (.blk false [.s s,.i .i64 ((x.1).pos:Nat),.slc 1 0 (x.1).ev.length,.slc 2 0 (x.1).ev.length,.mp 3,.slc 4 0 (x.1).hd.length,.i .i64 ((x.1).dp:Nat),.i .i64 (x.1).cd,.i .i64 ((x.1).pl:Nat),.b fr,.i .i64 la]),some (.row false 8 (x.1).ev.length (zg evc evz (x.1).ev)),some (.row false 1 (x.1).ev.length (zg qy false (x.1).dn)),some (.mapS (nmI (x.1).ev (x.1).bs)),some (.row false 2 (x.1).hd.length (zg hdc hdz (x.1).hd)),some (.blk false [.b p.has,.s p.an,.s p.tg,.i .i64 (r.pos:Nat),.i .i64 (p.en:Nat)])]⟩) ?_ ?_
 ·by_cases hqz:q.cd=0
  ·obtain ⟨a9,e9,l9,l10,_⟩:=vo (fl:=true) ho.pos hcd (by rw [←hq];exact hqz)
   rw [←hq] at e9
   have hqo:Ok s q:=by rw [e9];exact ho.at l9 l10
   simp only [decide_eq_true hqz]
   cases hh:p.has
   ·have hF:q=prF s r:=by unfold prF;rw [←hq,←hpp,if_neg (by rw [hh];simp)]
    simp only [↓XC,XV,XT,Yg,seval,TES,XRE,XR,XRH,Yh,yo,↓Ya,Yb]
    exact ⟨⟨q,hF,hqz⟩,(Ent.ren1 [0,1,2,3,4,5] (by decide) (by simp only [Yd];exact ⟨za (by simp [Yf,Yh]),zb fun _=>rfl,zb fun _=>rfl,zl,zb fun _=>rfl,za (by simp [Yf])⟩) (by simp [zi,Vg.look,SV.mapH,muL]))⟩
   ·simp only [↓XC,XV,XT,Yg,seval,TES,XRE,XR,XRH,Yh,yo,↓Ya,Yb]
    obtain ⟨g,hg⟩:∃ g,g=kw s q:=⟨_,rfl⟩
    have hF:g=prF s r:=by unfold prF;rw [←hq,←hpp,if_pos ⟨hqz,hh⟩,hg]
    refine Wm (rgoes s q fr la ⟨hs,hqz,hqo.pos⟩) ?_
    simp only [↓XC,XV,XT,Yg,seval,TES,XRE,XR,XRH,Yh,yo,XM]
    rw [←hg]
    by_cases hFz:g.cd=0
    ·simp only [decide_eq_true hFz]
     simp only [↓XC,XV,XT,Yg,seval,TES,XRE,XR,XRH,Yh,yo,↓Ya,Yb]
     exact ⟨⟨g,hF,hFz⟩,(Ent.ren1 [0,1,2,3,4,5] (by decide) (by simp only [Yd];exact ⟨za (by simp [Yf,Yh]),zb fun _=>rfl,zb fun _=>rfl,zl,zb fun _=>rfl,za (by simp [Yf])⟩) (by simp [zi,Vg.look,SV.mapH,muL]))⟩
    ·simp only [decide_eq_false hFz]
     simp only [↓XC,XV,XT,Yg,seval,TES,XRE,XR,XRH,Yh,yo,↓Ya,Yb]
     have e:paR s sb r=g:=by unfold paR;rw [←hF,if_pos hFz]
     rw [e,decide_eq_false hFz]
     exact Wf
  ·simp only [decide_eq_false hqz]
   simp only [↓XC,XV,XT,Yg,seval,TES,XRE,XR,XRH,Yh,yo,↓Ya,Yb]
   have e:paR s sb r=q:=by
    have hF:prF s r=q:=by unfold prF;rw [←hq,if_neg (fun h=>hqz h.1)]
    unfold paR;rw [hF,if_pos hqz]
   rw [e,decide_eq_false hqz]
   exact Wf
 rintro ⟨F,hF,hFz⟩
 have hFo:Ok s F:=by rw [hF];exact ho.prF (by rw [←hF];exact hFz)
 have hFd:F.dp=r.dp:=by
  obtain ⟨q9,e9,_⟩:=zfs ho.pos hcd (show (prF s r).cd=0 by rw [←hF];exact hFz)
  rw [hF,e9];rfl
 have hFsz:=hFo.size hs
 simp only [↓XC,XV,XT,Yg,seval,TES,zd,yj,zq,zz,yb,XRE,XR,XRH,Yh,yo]
 rw [zu s hFo.pos]
 refine ⟨by decide +kernel,Chk.mk hs fun _=>?_⟩
 refine zgl.of (ι:={x:Rd // x=scR s F p 125 58}) (fun x=>⟨[(0,.ptr 0 0 0),(4,.b (decide (x.1.cd=0))),(5,.i .i64 (byt s F.pos))],[some (.blk false [.s s,.i .i64 ((x.1).pos:Nat),.slc 1 0 (x.1).ev.length,.slc 2 0 (x.1).ev.length,.mp 3,.slc 4 0 (x.1).hd.length,.i .i64 ((x.1).dp:Nat),.i .i64 (x.1).cd,.i .i64 ((x.1).pl:Nat),.b fr,.i .i64 la]),some (.row false 8 (x.1).ev.length (zg evc evz (x.1).ev)),some (.row false 1 (x.1).ev.length (zg qy false (x.1).dn)),some (.mapS (nmI (x.1).ev (x.1).bs)),some (.row false 2 (x.1).hd.length (zg hdc hdz (x.1).hd))]⟩) ?_ ?_
 ·simp only [↓XC,XV,XT,Yg,seval,TES,zd,yj,zq,zz,yb,XRE,XR,XRH,Yh,yo]
  refine ⟨fun h3=>?_,fun h3=>⟨fun h4=>?_,fun h4=>⟨by decide +kernel,Chk.mk hs fun _=>?_⟩⟩⟩
  ·have e:scR s F p 125 58=alR s F p.has:=by unfold scR;rw [if_pos h3]
   refine Wb (zsq s F fr la p.has p.an p.tg (r.pos:Nat) p.en ⟨hs,by omega,hFo.dn,hFo.bs,hFz,hFo.pos⟩) ?_
   simp only [↓XC,XV,XT,Yg,seval,TES,zd,yj,zq,zz,yb,XRE,XR,XRH,Yh,yo,XM]
   exact ⟨⟨alR s F p.has,e.symm⟩,(Ent.ren1 [0,1,2,3,4] (by decide) (by simp only [Yd];exact ⟨za (by simp [Yf,Yh]),zb fun _=>rfl,zb fun _=>rfl,zl,zb fun _=>rfl⟩) (by simp [zi,Vg.look,SV.mapH,muL]))⟩
  ·have hqp:F.pos<s.length:=by
    simp only [Bool.or_eq_true,beq_iff_eq] at h4
    rcases h4 with h | h
    ·exact zy h (by decide)
    ·exact zy h (by decide)
   have e:scR s F p 125 58=qtR s F p:=by unfold scR;rw [if_neg h3,if_pos (show zff (byt s F.pos)=true from h4)]
   refine Wb (zsd s F fr la p.has p.an p.tg (r.pos:Nat) p.en ⟨hs,by omega,hFo.dn,hFo.bs,hFz,hqp⟩) ?_
   simp only [↓XC,XV,XT,Yg,seval,TES,zd,yj,zq,zz,yb,XRE,XR,XRH,Yh,yo,XM]
   exact ⟨⟨qtR s F p,e.symm⟩,(Ent.ren1 [0,1,2,3,4] (by decide) (by simp only [Yd];exact ⟨za (by simp [Yf,Yh]),zb fun _=>rfl,zb fun _=>rfl,zl,zb fun _=>rfl⟩) (by simp [zi,Vg.look,SV.mapH,muL]))⟩
  rw [zu s hFo.pos]
  have h4':¬zff (byt s F.pos)=true:=by unfold zff;simpa using h4
  refine ⟨fun h5=>?_,fun h5=>⟨fun h6=>?_,fun h6=>?_⟩⟩
  ·have e:scR s F p 125 58=plR s F p (-1) true:=by unfold scR;rw [if_neg h3,if_neg h4',if_pos h5]
   refine Wb (zwv s F fr la p.has p.an p.tg (r.pos:Nat) p.en (-1) true ⟨hs,by omega,hFo.dn,hFo.bs,hFo.pos⟩) ?_
   simp only [↓XC,XV,XT,Yg,seval,TES,zd,yj,zq,zz,yb,XRE,XR,XRH,Yh,yo,XM]
   exact ⟨⟨plR s F p (-1) true,e.symm⟩,(Ent.ren1 [0,1,2,3,4] (by decide) (by simp only [Yd];exact ⟨za (by simp [Yf,Yh]),zb fun _=>rfl,zb fun _=>rfl,zl,zb fun _=>rfl⟩) (by simp [zi,Vg.look,SV.mapH,muL,hFz,plR,atR,y5,zn]))⟩
  ·have e:scR s F p 125 58=y5 F 1 [] p.an p.tg:=by unfold scR;rw [if_neg h3,if_neg h4',if_neg (by simpa using h5),if_pos (by simpa [or_assoc] using h6)]
   refine Wb (zg5 s F fr la 1 [] p.has p.an p.tg (r.pos:Nat) p.en ⟨by omega,hFo.dn,hFo.bs⟩) ?_
   simp only [↓XC,XV,XT,Yg,seval,TES,zd,yj,zq,zz,yb,XRE,XR,XRH,Yh,yo,XM]
   refine ⟨⟨y5 F 1 [] p.an p.tg,e.symm⟩, ?_⟩
   simp only [y5,zn,List.length_append,List.length_cons,List.length_nil,Nat.zero_add]
   exact (Ent.ren1 [0,1,2,3,4] (by decide) (by simp only [Yd];exact ⟨za (by simp [Yf,Yh]),zb fun _=>rfl,zb fun _=>rfl,zl,zb fun _=>rfl⟩) (by simp [zi,Vg.look,SV.mapH,muL,hFz]))
  ·have e:paR s sb r=flt F 10 F.pos:=by
    have e2:scR s F p 125 58=flt F 10 F.pos:=by unfold scR;rw [if_neg h3,if_neg h4',if_neg (by simpa using h5),if_neg (by simpa [or_assoc,and_assoc] using h6)]
    unfold paR
    rw [←hF,←hpp,if_neg (by simpa using hFz),e2,if_pos (by simp [flt])]
   rw [e]
   refine Wm (wg s F fr la 10 F.pos hFz) ?_
   simp only [↓XC,XV,XT,Yg,seval,TES,XRE,XR,XRH,Yh,yo,XM]
   exact Wf
 rintro ⟨x,hx⟩
 have e0:paR s sb r=if x.cd≠0 then x else if (yr s x).cd≠0 then yr s x else paK s sb (zff (byt s F.pos)) (yr s x):=by
  unfold paR
  rw [←hF,←hpp,←hx,if_neg (by simpa using hFz)]
 simp only [↓XC,XV,XT,Yg,seval,TES,zd,yj,zq,zz,yb,XRE,XR,XRH,Yh,yo]
 by_cases hxz:x.cd=0
 ·have hst:=zxx ho hF hFz (by rw [hx,hpp]) hxz
  have hxo:=hst.ok
  simp only [decide_eq_true hxz]
  simp only [↓XC,XV,XT,Yg,seval,TES,zd,yj,zq,zz,yb,XRE,XR,XRH,Yh,yo,↓Ya,Yb]
  obtain ⟨g,hg⟩:∃ g,g=yr s x:=⟨_,rfl⟩
  refine Wm (rgap s x fr la ⟨hs,hxz,hxo.pos⟩) ?_
  simp only [↓XC,XV,XT,Yg,seval,TES,zd,yj,zq,zz,yb,XRE,XR,XRH,Yh,yo,XM]
  rw [←hg]
  rw [if_neg (by simpa using hxz),←hg] at e0
  by_cases hgz:g.cd=0
  ·simp only [decide_eq_true hgz]
   simp only [↓XC,XV,XT,Yg,seval,TES,zd,yj,zq,zz,yb,XRE,XR,XRH,Yh,yo,↓Ya,Yb]
   have hgo:Ok s g:=by rw [hg];exact hxo.gap (by rw [←hg];exact hgz)
   have hgd:g.dp=r.dp:=by
    obtain ⟨e9,h9⟩:=ka (s:=s) (r:=x) (by rw [←hg];exact hgz)
    rw [hg,e9];exact hst.dp
   have hgp:g.pos<s.length:=by
    obtain ⟨e9,h9⟩:=ka (s:=s) (r:=x) (by rw [←hg];exact hgz)
    rw [hg,e9];exact h9
   have hgsz:=hgo.size hs
   rw [if_neg (by simpa using hgz)] at e0
   have ep:((g.pos:Int)+1).toNat=g.pos+1:=by omega
   have es:byt s (spot s ((g.pos:Int)+1))=byt s (g.pos+1):=by rw [vj (by omega)];rfl
   rw [es,ep,←kv hgp]
   have hQ:(!decide (byt s g.pos=58)||!(gap s (g.pos+1)||flw (byt s (g.pos+1))||(byt s F.pos==39||byt s F.pos==34)))=!decide (byt s g.pos=58∧(gap s (g.pos+1)||flw (byt s (g.pos+1))||zff (byt s F.pos))=true):=by
    rw [Bool.decide_and,Bool.not_and,Bool.decide_eq_true];rfl
   rw [hQ]
   refine ⟨by decide +kernel,Chk.mk (by simp only [inR];omega) fun _=>Chk.mk ⟨hs,by omega⟩ fun _=>Chk.mk (fun _=>(by simp only [inR];omega)) fun _=>Chk.mk (fun h=>⟨⟨h,h⟩,hs⟩) fun _=>⟨by decide +kernel,Chk.mk (by omega) fun _=>⟨fun hc=>?_,fun hc=>Chk.mk (by simp only [inR];omega) fun _=>?_⟩⟩⟩
   ·have hc':=of_decide_eq_false (by simpa only [Bool.not_eq_true'] using hc)
    rw [e0,paK,if_neg hc']
    refine Wb (zg5 s g fr la 1 [] false [] [] 0 0 ⟨by omega,hgo.dn,hgo.bs⟩) ?_
    simp only [↓XC,XV,XT,Yg,seval,TES,zd,yj,zq,zz,yb,XRE,XR,XRH,Yh,yo,XM]
    try simp only [y5,zn,List.length_append,List.length_cons,List.length_nil,Nat.zero_add]
    exact Wf (by simp only [↓XC,XV,XT,Yg,seval];try simp [Yf,hgz])
   ·obtain ⟨h,hh⟩:∃ h,h=yr s (atR g (g.pos+1)):=⟨_,rfl⟩
    have hc':=of_decide_eq_true (by simpa only [Bool.not_eq_false'] using hc)
    rw [paK,if_pos hc',paV,←hh] at e0
    refine Wm (rgap s (atR g (g.pos+1)) fr la ⟨hs,hgz,hgp⟩) ?_
    simp only [↓XC,XV,XT,Yg,seval,TES,zd,yj,zq,zz,yb,XRE,XR,XRH,flt,zn,y5,yo,XM]
    rw [←hh]
    refine ⟨fun hz=>?_,fun hz=>?_⟩
    ·have hz':¬h.cd=0:=by simpa using hz
     rw [e0,if_pos hz',decide_eq_false hz']
     exact Wf
    ·have hz':h.cd=0:=by simpa using hz
     obtain ⟨e9,h9⟩:=ka (s:=s) (r:=atR g (g.pos+1)) (by rw [←hh];exact hz')
     rw [←hh] at e9
     have hho:Ok s h:=by rw [hh];exact (hgo.at (q:=g.pos+1) (by omega) hgp).gap (by rw [←hh];exact hz')
     have hhd:h.dp=r.dp:=by rw [e9];exact hgd
     have hhp:h.pos<s.length:=by rw [e9];exact h9
     have hhsz:=hho.size hs
     rw [if_neg (by simpa using hz')] at e0
     rw [←kv hhp,←Bool.decide_or]
     refine ⟨by decide +kernel,Chk.mk (by omega) fun _=>⟨fun hb=>?_,fun hb=>?_⟩⟩
     ·rw [e0,if_pos (of_decide_eq_true hb)]
      refine Wb (zg5 s h fr la 1 [] false [] [] 0 0 ⟨by omega,hho.dn,hho.bs⟩) ?_
      simp only [↓XC,XV,XT,Yg,seval,TES,zd,yj,zq,zz,yb,XRE,XR,XRH,Yh,yo,XM]
      try simp only [y5,zn,List.length_append,List.length_cons,List.length_nil,Nat.zero_add]
      exact Wf (by simp only [↓XC,XV,XT,Yg,seval];try simp [Yf,hz'])
     ·rw [e0,if_neg (of_decide_eq_false hb)]
      have hN:=HS h hho hhd
      unfold zc0 rdC at hN
      refine Wb (hN) ?_
      simp only [↓XC,XV,XT,Yg,seval,TES,zd,yj,zq,zz,yb,XRE,XR,XRH,Yh,yo,XM]
      exact Wf
  ·simp only [decide_eq_false hgz]
   simp only [↓XC,XV,XT,Yg,seval,TES,zd,yj,zq,zz,yb,XRE,XR,XRH,Yh,yo,↓Ya,Yb]
   rw [e0,if_pos hgz,decide_eq_false hgz]
   exact Wf
 ·simp only [decide_eq_false hxz]
  simp only [↓XC,XV,XT,Yg,seval,TES,zd,yj,zq,zz,yb,XRE,XR,XRH,Yh,yo,↓Ya,Yb]
  rw [e0,if_pos hxz,decide_eq_false hxz]
  exact Wf
end Go.T
end
section
set_option linter.unusedVariables false
set_option linter.unusedSimpArgs false
set_option linter.unusedSectionVars false
set_option linter.unnecessarySimpa false
namespace Go.T
variable [Go.Vg.Glob] [Go.Vg.GlobTabs 0 1]
open Go.Proofs Go.Vg Go.RowKit Go.TT Go.Pl
set_option maxRecDepth 10000
set_option maxHeartbeats 4000000
theorem rnode (s:Bs) (fr:Bool) (la:Int) (hs:s.length≤1048576):∀ (d:Nat) (r:Rd),Ok s r→r.dp+d=40→zc0 Tryz.prog 356 s fr la [] r (noF s d r):=by
 intro d
 induction d with
 | zero=>
  intro r ho hd
  refine znq s r fr la id (fun r1 ha an tg pf pe h1 h2=>?_) ⟨hs,ho⟩
  refine zdt s r1 fr la id ha an tg pf pe (fun hb=>?_) (fun hb=>?_) ⟨hs,h1⟩
  ·exact zds s r1 fr la id ha an tg pf pe (fun h=>by omega) ⟨hs,h1,zy hb (by decide)⟩
  ·exact zgo s r1 fr la (paR s id) ha an tg pf pe (fun h=>by omega) ⟨hs,h1,zy hb (by decide)⟩
 | succ d ih=>
  intro r ho hd
  have hit:zf8 s (r.dp+1) (noF s d):=fun r1 h1 h2 h3=>zhs d r1 h1 (by omega) h3
  refine znq s r fr la (noF s d) (fun r1 ha an tg pf pe h1 h2=>?_) ⟨hs,ho⟩
  refine zdt s r1 fr la (noF s d) ha an tg pf pe (fun hb=>?_) (fun hb=>?_) ⟨hs,h1⟩
  ·exact zds s r1 fr la (noF s d) ha an tg pf pe (fun h=>by rw [h2];exact ⟨hit,fun r2 k1 k2=>ih r2 k1 (by omega)⟩) ⟨hs,h1,zy hb (by decide)⟩
  ·exact zgo s r1 fr la (paR s (noF s d)) ha an tg pf pe (fun h=>by rw [h2];exact ⟨fun r2 k1 k2 k3=>zhm k1 (by rw [k2];exact hit) k3,fun r2 k1 k2=>znp s r2 fr la (noF s d) (fun r3 m1 m2=>ih r3 m1 (by omega)) ⟨hs,k1⟩⟩) ⟨hs,h1,zy hb (by decide)⟩
theorem zmd (s:Bs) (p:Int) (hp:s.length≤1048576):FnK Tryz.prog 69 0 [.s s,.i .i64 p] [] (fun z c=>z=.ptr 0 0 0∧c=[some (.blk false [.s s,.i .i64 (((rdz (spot s p))).pos:Nat),.slc 1 0 ((rdz (spot s p))).ev.length,.slc 2 0 ((rdz (spot s p))).ev.length,.mp 3,.slc 4 0 ((rdz (spot s p))).hd.length,.i .i64 (((rdz (spot s p))).dp:Nat),.i .i64 ((rdz (spot s p))).cd,.i .i64 (((rdz (spot s p))).pl:Nat),.b false,.i .i64 0]),some (.row false 8 ((rdz (spot s p))).ev.length (zg evc evz ((rdz (spot s p))).ev)),some (.row false 1 ((rdz (spot s p))).ev.length (zg qy false ((rdz (spot s p))).dn)),some (.mapS (nmI ((rdz (spot s p))).ev ((rdz (spot s p))).bs)),some (.row false 2 ((rdz (spot s p))).hd.length (zg hdc hdz ((rdz (spot s p))).hd))]):=by
 refine FnK.ofX (cf:=zk Tryz.prog te [(100,zx)] 12 0 false (fun _=>false) (kp [(0,[0,1]),(1,[4])]) [] []) (zf te_ok (l:=[(100,zx)]) (⟨ym,trivial⟩) zc) Tryz.func69 rfl rfl rfl (by simp [zk]) (by simp [zk]) (rs:=[.tmp 4]) rfl 100000 ?_
 simp only [↓XC,XV,XT,Yg,seval,TES,yn,XRE,XR,XRH,Yh]
 exact ⟨_,Ent.nl (env':=[(4,.ptr 1 0 0)]) (d:=[some (.mapS []),some (.blk false [.s s,.i .i64 (spot s p:Nat),.slc 2 0 0,.slc 3 0 0,.mp 0,.slc 4 0 0,.i .i64 0,.i .i64 0,.i .i64 0,.b false,.i .i64 0])]) [(8,zg evc evz []),(1,zg qy false []),(2,zg hdc hdz [])] (by simp [nlE,nlV,Vg.look]) (by simp [nlC,nlO,nlL,nlV]),⟨[1,2,3,0,4],by decide,by simp only [Yd];exact ⟨za (by simp [Yf,rdz]),zb fun _=>rfl,zb fun _=>rfl,zl,zb fun _=>rfl⟩,by simp only [↓XC,XV,XT,Yg,seval];try first | rfl | simp [Yf],by simp [zw,SO.ro],by simp⟩⟩
end Go.T
end
section
set_option linter.unusedVariables false
set_option linter.unusedSimpArgs false
set_option linter.unusedSectionVars false
set_option linter.unnecessarySimpa false
namespace Go.T
variable [Go.Vg.Glob]
open Go.Proofs Go.Vg Go.RowKit Go.TT Go.Pl
set_option maxRecDepth 10000
set_option maxHeartbeats 4000000
theorem zfl (s:Bs) (p:Int) (hp:s.length≤1048576):FnK Tryz.prog 249 0 [.s s,.i .i64 p] [] (fun z c=>z=.tup [.slc 0 0 (zi9 s (en s (spot s p)) (spot s p)).length,.i .i64 (en s (spot s p):Nat)]∧c=[some (.row false 1 (zi9 s (en s (spot s p)) (spot s p)).length (zg zbi [] (zi9 s (en s (spot s p)) (spot s p))))]):=by
 refine FnK.ofE (cf:=zk Tryz.prog te [(100,zx),(187,qz),(106,yp),(108,qn)] 45 0 false (fun _=>false) (kp [(0,[0,1]),(1,[0,1]),(2,[0,1,6]),(3,[0,1,6,7]),(4,[0,1,6,7]),(5,[0,1,6,7,27]),(6,[4,5]),(7,[0,1,6,7,8]),(8,[0,1,6,7,8,34]),(9,[0,1,6,7,8]),(10,[0,6,7,8]),(11,[0,1,6,7])]) [] []) (zf te_ok (l:=[(100,zx),(187,qz),(106,yp),(108,qn)]) (⟨ym,ji,qi,w5,trivial⟩) zc) Tryz.func249 rfl rfl rfl (by simp [zk]) (by simp [zk]) (rs:=[.tmp 4,.tmp 5]) rfl 100000 ?_
 simp only [↓XC,XV,XT,Yg,seval,TES,yn,qg,yc,zz]
 refine Chk.mk hp fun _=>?_
 rw [zu s (q8 s p)]
 have hi0:=q8 s p
 generalize spot s p=i0 at *
 have he:=zcd s i0 hi0
 refine yv.of (ι:={x:Nat×List Bs // i0≤x.1∧x.1≤s.length∧x.2.length≤x.1∧x.2++zi9 s (en s i0) x.1=zi9 s (en s i0) i0}) (fun x=>⟨[(0,.s s),(1,.i .i64 (x.1.1:Nat)),(6,.i .i64 (en s i0:Nat)),(7,.slc 0 0 x.1.2.length)],[some (.row false 1 x.1.2.length (zg zbi [] x.1.2))]⟩) (fun x=>s.length-x.1.1) ⟨(i0,[]),Nat.le_refl _,hi0,Nat.zero_le _,rfl⟩ (Ent.ren1 [0] (by decide) (by simp only [Yd];exact zh fun i hi=>by simp at hi) (by simp [zi,Vg.look,SV.mapH,muL])) ?_
 rintro ⟨⟨q0,out⟩,hq0,hq,hol,hd⟩
 simp only [↓XC,XV,XT,Yg,seval,TES,yc,zz]
 simp only at hq0 hq hol hd
 rw [zu s hq]
 have hw1:=vl s q0
 have hw2:=vk s q0 hq
 have hdd:zi9 s (en s i0) q0=if wh s q0<en s i0∧byt s (wh s q0)≠35∧gap s (wh s q0)=false then sub s (wh s q0) (gp s (wh s q0))::zi9 s (en s i0) (gp s (wh s q0)) else []:=by
  rw [zi9];simp only [dite_eq_ite]
 refine Chk.mk hp fun _=>Chk.mk (fun h=>?_) fun _=>⟨fun h=>?_,fun h=>?_⟩
 ·simp only [Yi] at h;omega
 ·have hx:zi9 s (en s i0) q0=[]:=by
   rw [hdd,if_neg]
   rintro ⟨h1,h2,_⟩
   rw [kv (by omega)] at h2
   simp only [Yi] at h
   omega
  rw [hx,List.append_nil] at hd
  subst hd
  exact ⟨[0],by decide,by simp only [Yd];exact zb fun _=>rfl,by simp only [↓XC,XV,XT,Yg,seval];try simp [Yf],by simp [zw,SO.ro],by simp⟩
 have hlt:wh s q0<en s i0∧byt s (wh s q0)≠35:=by
  simp only [Yi] at h
  exact ⟨by omega,by rw [kv (by omega)];omega⟩
 have hg:gap s (wh s q0)=false:=by
  unfold gap
  rw [wh_not,en_lt (by omega) hlt.1];rfl
 rw [if_pos ⟨hlt.1,hlt.2,hg⟩] at hdd
 refine yv.of (ι:={x:Nat // wh s q0≤x∧x≤s.length∧gp s x=gp s (wh s q0)}) (fun x=>⟨[(0,.s s),(1,.i .i64 (wh s q0:Nat)),(6,.i .i64 (en s i0:Nat)),(7,.slc 0 0 out.length),(8,.i .i64 (x.1:Nat))],[some (.row false 1 out.length (zg zbi [] out))]⟩) (fun x=>s.length-x.1) ⟨wh s q0,Nat.le_refl _,hw2,rfl⟩ (Ent.refl _ _) ?_
 rintro ⟨q,h1,h2,h3⟩
 simp only [↓XC,XV,XT,Yg,seval,TES,zz]
 refine Chk.mk ⟨hp,by omega⟩ fun _=>⟨fun hg1=>Chk.mk (by simp only [inR];omega) fun _=>?_,fun hg1=>Chk.mk (by omega) fun _=>⟨qo rfl rfl,Chk.mk (by omega) fun _=>?_⟩⟩
 ·have hg2:gap s q=false:=by simpa using hg1
  have:=ut hg2
  exact ⟨⟨q+1,by omega,by omega,by rw [←gp_t hg2];exact h3⟩,by simp only;omega,(by first | exact Ent.refl _ _ | (simp only [Int.natCast_add,Int.natCast_one];exact Ent.refl _ _))⟩
 ·have hg2:gap s q=true:=by simpa using hg1
  rw [gp_f hg2] at h3
  have hq1:wh s q0≠q:=by intro e;rw [e] at hg;rw [hg] at hg2;cases hg2
  refine ⟨⟨(q,out++[sub s (wh s q0) q]),by simp only;omega,h2,by simp only [List.length_append,List.length_singleton];omega, ?_⟩,by simp only;omega,(Ent.ren1 [2] (by decide) (by simp only [Yd];exact jo (y:=sub s (wh s q0) q) (fun _=>rfl) rfl (fun _ _=>rfl) rfl) (by simp [zi,Vg.look,SV.mapH,muL]))⟩
  simp only
  rw [List.append_assoc,←hd,hdd,←h3]
  rfl
theorem zmy (s:Bs) (p:Int) (hp:s.length≤1048576):PF Tryz.prog 249 [.s s,.i .i64 p] (.tup [.fs 1 ((zi9 s (en s (spot s p)) (spot s p)).map zbi),.i .i64 (en s (spot s p):Nat)]):=PF.ofOwn (zfl s p hp) rfl rfl (by simp only [xw,jr,zdi,vm,ye,and_true];exact ⟨⟨by omega,fun j hj=>⟨rfl,rfl⟩⟩,by rw [w8 rfl]⟩)
noncomputable def jw:PE:=peR (fun (x:Bs×Int)=>match x with | (s,p)=>[.s s,.i .i64 p]) (fun (x:Bs×Int)=>match x with | (s,p)=>s.length≤1048576) (fun (x:Bs×Int)=>match x with | (s,p)=>.tup [.fs 1 ((zi9 s (en s (spot s p)) (spot s p)).map zbi),.i .i64 (en s (spot s p):Nat)])
theorem zt {s:Bs} {p:Int}:jw [.s s,.i .i64 p]=some (s.length≤1048576,.tup [.fs 1 ((zi9 s (en s (spot s p)) (spot s p)).map zbi),.i .i64 (en s (spot s p):Nat)]):=yh (by rintro ⟨a0,a1⟩ ⟨b0,b1⟩ h;simp_all []) (s,p)
theorem zdb:PE1 Tryz.prog 249 jw:=yl (by rintro ⟨s,p⟩ hp;exact zmy s p hp)
end Go.T
end
section
set_option linter.unusedVariables false
set_option linter.unusedSimpArgs false
set_option linter.unusedSectionVars false
set_option linter.unnecessarySimpa false
namespace Go.T
variable [Go.Vg.Glob] [Go.Vg.GlobTabs 0 1]
open Go.Proofs Go.Vg Go.RowKit Go.TT Go.Pl Go.TSh
set_option maxRecDepth 10000
set_option maxHeartbeats 4000000
theorem keyEnd (s:Bs) (p:Int) (hp:s.length≤1048576∧0≤p∧p≤s.length):PF Tryz.prog 105 [.s s,.i .i64 p] (.tup [.i .i64 (keE s p.toNat).1,.b (keE s p.toNat).2]):=by
 refine ⟨rfl,rfl,FnK.of (cf:=zk Tryz.prog te [(107,zm),(190,k9),(191,wn),(192,jf),(193,jj),(194,zl1),(101,y4),(102,wx)] 70 0 false (fun _=>false) (kp [(0,[0,1]),(1,[0,1,6]),(2,[0,1,6,17]),(3,[8,9]),(4,[4,5]),(5,[0,1,6,29]),(6,[0,1,6,11,12]),(7,[0,1,11,12,40]),(8,[0,1,11,12]),(9,[4,5]),(10,[0,1,59]),(11,[1,13]),(12,[4,5]),(13,[4,5])]) [] []) (zf te_ok (l:=[(107,zm),(190,k9),(191,wn),(192,jf),(193,jj),(194,zl1),(101,y4),(102,wx)]) (⟨z6,zad,ve,zbm,zbq,zu2,ww,xo,trivial⟩) zc) Tryz.func105 rfl rfl rfl (by simp [zk]) (by simp [zk]) (rs:=[.tmp 4,.tmp 5]) rfl 100000 ?_⟩
 simp only [↓XC,XV,XT,Yg,seval,TES,zd,zae,yj,zbn,zbr,zu3,zq,ws]
 obtain ⟨q,rfl⟩:∃ q:Nat,p=q:=⟨p.toNat,by omega⟩
 have hq:q≤s.length:=by omega
 have h2:=zg4 hq
 have h3:=zik hq
 have hp0:=hp.1
 rw [zu s hq,Int.toNat_natCast]
 have hm:∀ e:Nat,q≤e→e≤s.length→decide ((10:UInt8)∈List.drop q (List.take e s))=!oneL s q e:=fun e h1 h2=>mem_sub h1 h2
 refine Chk.mk hp0 fun _=>⟨fun h42=>Chk.mk hp0 fun _=>?_,fun h42=>⟨fun hQ=>Chk.mk hp0 fun _=>⟨fun h34=>Chk.mk hp0 fun _=>Chk.mk (fun h=>by omega) fun _=>?_,fun h34=>Chk.mk (fun h=>by omega) fun _=>?_⟩,fun hQ=>Chk.mk hp0 fun _=>⟨fun hf=>Chk.mk hp0 fun _=>?_,fun hf=>?_⟩⟩⟩
 ·unfold keE;rw [if_pos h42]
 ·unfold keE;rw [if_neg h42,if_neg (by omega),if_pos h34,hm _ h3.1 h3.2.1,Bool.not_not]
 ·have h39:byt s q=39:=by simpa [h34] using hQ
  unfold keE;rw [if_neg h42,if_pos h39,hm _ h2.1 h2.2.1,Bool.not_not]
 ·have h39:¬byt s q=39∧¬byt s q=34:=by simpa using hQ
  unfold keE;rw [if_neg h42,if_neg h39.1,if_neg h39.2,if_pos hf]
  simp only [gt_iff_lt,Int.ofNat_lt]
 ·have h39:¬byt s q=39∧¬byt s q=34:=by simpa using hQ
  unfold keE;rw [if_neg h42,if_neg h39.1,if_neg h39.2,if_neg (by rw [hf];simp)]
noncomputable def zdx:PE:=peR (fun (x:Bs×Int)=>match x with | (s,p)=>[.s s,.i .i64 p]) (fun (x:Bs×Int)=>match x with | (s,p)=>s.length≤1048576∧0≤p∧p≤s.length) (fun (x:Bs×Int)=>match x with | (s,p)=>.tup [.i .i64 (keE s p.toNat).1,.b (keE s p.toNat).2])
theorem zn3 {s:Bs} {p:Int}:zdx [.s s,.i .i64 p]=some (s.length≤1048576∧0≤p∧p≤s.length,.tup [.i .i64 (keE s p.toNat).1,.b (keE s p.toNat).2]):=yh (by rintro ⟨a0,a1⟩ ⟨b0,b1⟩ h;simp_all []) (s,p)
theorem zn2:PE1 Tryz.prog 105 zdx:=yl (by rintro ⟨s,p⟩ hp;exact keyEnd s p hp)
theorem KeyAt_i (s:Bs) (p:Int) (hp:s.length≤1048576):PF Tryz.prog 32 [.s s,.i .i64 p] (.tup [.i .i64 (kyA s (spot s p)).1,.i .i64 (kyA s (spot s p)).2.1,.b (kyA s (spot s p)).2.2]):=by
 refine ⟨rfl,rfl,FnK.of (cf:=zk Tryz.prog te [(100,zx),(105,zdx),(106,yp),(107,zm),(108,qn)] 43 0 false (fun _=>false) (kp [(0,[0,1]),(1,[0,1]),(2,[0,1,7,8]),(3,[0,7,26]),(4,[4,5,6]),(5,[0,7,9]),(6,[7,9,40]),(7,[4,5,6]),(8,[4,5,6])]) [] []) (zf te_ok (l:=[(100,zx),(105,zdx),(106,yp),(107,zm),(108,qn)]) (⟨ym,zn2,qi,z6,w5,trivial⟩) zc) Tryz.func32 rfl rfl rfl (by simp [zk]) (by simp [zk]) (rs:=[.tmp 4,.tmp 5,.tmp 6]) rfl 100000 ?_⟩
 simp only [↓XC,XV,XT,Yg,seval,TES,yn,zn3,yc,zd,zz]
 have h0:=q8 s p
 generalize spot s p=q at *
 have h1:=zou h0
 obtain ⟨e,he⟩:∃ e:Nat,(keE s q).1=e:=⟨(keE s q).1.toNat,by omega⟩
 rw [he] at h1 ⊢
 have hel:e≤s.length:=by omega
 rw [zu s hel]
 have hwl:=vk s e hel
 rw [zu s hwl]
 have e1:((wh s e:Nat)+1:Int).toNat=wh s e+1:=by omega
 rw [e1]
 have hN:(keE s q).1.toNat=e:=by omega
 refine Chk.mk ⟨hp,by omega,by omega⟩ fun _=>Chk.mk (fun _=>by simp only [inR];omega) fun _=>⟨fun h=>?_,fun h=>Chk.mk hp fun _=>Chk.mk hp fun _=>Chk.mk (fun _=>by simp only [inR];omega) fun _=>Chk.mk (fun h=>⟨⟨h,h⟩,hp,by omega⟩) fun _=>⟨fun h4=>?_,fun h4=>?_⟩⟩
 ·rw [kyA_f];rintro ⟨h2,h3,_⟩;rw [he] at h3;rw [h2,decide_eq_false (by omega)] at h;cases h
 ·rw [kyA_f];rintro ⟨_,_,h2,h3⟩;rw [hN] at h2 h3;rw [h2,h3] at h4;simp at h4
 ·have h5:(keE s q).2=true∧¬(e:Int)-q>1000:=by simpa using h
  have h6:byt s (wh s e)=58∧gap s (wh s e+1)=true:=by simpa using h4
  rw [kyA_t ⟨h5.1,by rw [he];omega,by rw [hN];exact h6.1,by rw [hN];exact h6.2⟩,he,Int.toNat_natCast]
noncomputable def j7:PE:=peR (fun (x:Bs×Int)=>match x with | (s,p)=>[.s s,.i .i64 p]) (fun (x:Bs×Int)=>match x with | (s,p)=>s.length≤1048576) (fun (x:Bs×Int)=>match x with | (s,p)=>.tup [.i .i64 (kyA s (spot s p)).1,.i .i64 (kyA s (spot s p)).2.1,.b (kyA s (spot s p)).2.2])
theorem qa {s:Bs} {p:Int}:j7 [.s s,.i .i64 p]=some (s.length≤1048576,.tup [.i .i64 (kyA s (spot s p)).1,.i .i64 (kyA s (spot s p)).2.1,.b (kyA s (spot s p)).2.2]):=yh (by rintro ⟨a0,a1⟩ ⟨b0,b1⟩ h;simp_all []) (s,p)
theorem za5:PE1 Tryz.prog 32 j7:=yl (by rintro ⟨s,p⟩ hp;exact KeyAt_i s p hp)
end Go.T
end
