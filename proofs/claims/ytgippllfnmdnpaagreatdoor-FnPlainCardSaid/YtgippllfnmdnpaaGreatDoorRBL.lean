/- Own text: part RBL. -/
import Derived.Test.YtgippllfnmdnpaaGreatDoorRBK
import Derived.Test.YtgippllfnmdnpaaGreatDoorRBH
import Derived.Test.YtgippllfnmdnpaaGreatDoorRAO
import Derived.Test.YtgippllfnmdnpaaGreatDoorRBC
section
set_option linter.unusedVariables false
set_option linter.unusedSimpArgs false
set_option linter.unusedSectionVars false
set_option linter.unnecessarySimpa false
namespace Go.T
variable [Go.Vg.Glob] [Go.Vg.GlobTabs 0 1]
open Go.Proofs Go.Vg Go.RowKit Go.TT Go.Pl
set_option maxRecDepth 10000
set_option maxHeartbeats 4000000
theorem zci (s:Bs) (r:Rd) (fr:Bool) (la:Int) (sb:Rd→Rd) (ha:Bool) (an tg:Bs) (pf:Int) (pe:Nat) (HL:byt s r.pos=91→zbp Tryz.prog 348 s fr la [.agg [.b ha,.s an,.s tg,.i .i64 pf,.i .i64 (pe:Nat)]] r (coR s sb 93 3 r (⟨ha,an,tg,pe⟩:Pp))) (HM:byt s r.pos=123→zbp Tryz.prog 349 s fr la [.agg [.b ha,.s an,.s tg,.i .i64 pf,.i .i64 (pe:Nat)]] r (coR s (paR s sb) 125 4 r (⟨ha,an,tg,pe⟩:Pp))) (hp:s.length≤1048576∧Ok s r):FnK Tryz.prog 318 1 [.ptr 0 0 0,.agg [.b ha,.s an,.s tg,.i .i64 pf,.i .i64 (pe:Nat)]] [some (.blk false [.s s,.i .i64 ((r).pos:Nat),.slc 1 0 (r).ev.length,.slc 2 0 (r).ev.length,.mp 3,.slc 4 0 (r).hd.length,.i .i64 ((r).dp:Nat),.i .i64 (r).cd,.i .i64 ((r).pl:Nat),.b fr,.i .i64 la]),some (.row false 8 (r).ev.length (zg evc evz (r).ev)),some (.row false 1 (r).ev.length (zg qf false (r).dn)),some (.mapS (nmI (r).ev (r).bs)),some (.row false 2 (r).hd.length (zg hdc hdz (r).hd))] (fun z c=>z=.b (decide ((boR s sb r (⟨ha,an,tg,pe⟩:Pp)).cd=0))∧c=[some (.blk false [.s s,.i .i64 ((boR s sb r (⟨ha,an,tg,pe⟩:Pp)).pos:Nat),.slc 1 0 (boR s sb r (⟨ha,an,tg,pe⟩:Pp)).ev.length,.slc 2 0 (boR s sb r (⟨ha,an,tg,pe⟩:Pp)).ev.length,.mp 3,.slc 4 0 (boR s sb r (⟨ha,an,tg,pe⟩:Pp)).hd.length,.i .i64 ((boR s sb r (⟨ha,an,tg,pe⟩:Pp)).dp:Nat),.i .i64 (boR s sb r (⟨ha,an,tg,pe⟩:Pp)).cd,.i .i64 ((boR s sb r (⟨ha,an,tg,pe⟩:Pp)).pl:Nat),.b fr,.i .i64 la]),some (.row false 8 (boR s sb r (⟨ha,an,tg,pe⟩:Pp)).ev.length (zg evc evz (boR s sb r (⟨ha,an,tg,pe⟩:Pp)).ev)),some (.row false 1 (boR s sb r (⟨ha,an,tg,pe⟩:Pp)).ev.length (zg qf false (boR s sb r (⟨ha,an,tg,pe⟩:Pp)).dn)),some (.mapS (nmI (boR s sb r (⟨ha,an,tg,pe⟩:Pp)).ev (boR s sb r (⟨ha,an,tg,pe⟩:Pp)).bs)),some (.row false 2 (boR s sb r (⟨ha,an,tg,pe⟩:Pp)).hd.length (zg hdc hdz (boR s sb r (⟨ha,an,tg,pe⟩:Pp)).hd))]):=by
 refine FnK.ofE (cf:=zk Tryz.prog te [(107,zl),(191,qy),(101,yn)] 76 1 false (fun _=>false) (kp [(0,[0,3]),(1,[0,3,5]),(2,[0,3,5,15]),(3,[4]),(4,[0,3,5,21]),(5,[4]),(6,[0,3,5,27]),(7,[4]),(8,[0,3,5,33]),(9,[4]),(10,[0,3,5,39]),(11,[4]),(12,[0,3,52]),(13,[]),(14,[4]),(15,[4])]) [] [(1,[],[],.q1 0 (.q1 1 (.q1 2 (.q1 4 (.q1 5 (.q1 6 (.q0 3 [3] (.q0 7 [7] (.alt 8 (.q1 9 (.fin)) (.fin)))))))))),(10,[],[],.q1 0 (.q1 1 (.q1 2 (.q1 4 (.q1 5 (.q1 6 (.q0 3 [3] (.q0 7 [7] (.alt 8 (.q1 9 (.fin)) (.fin))))))))))]) (zf te_ok (l:=[(107,zl),(191,qy),(101,yn)]) (⟨zu,jr,wc,trivial⟩) zd) Tryz.func318 rfl rfl rfl (by simp [zk]) (by simp [zk]) (rs:=[.tmp 4]) rfl 100000 ?_
 simp only [↓XC,XV,XT,Yg,seval,TES,zc,ya,zn,XRE,XR,XRH,Yh]
 obtain ⟨hs,ho⟩:=hp
 have hsz:=ho.size hs
 have hcd:=ho.cd
 rw [zq s ho.pos]
 refine ⟨by decide +kernel,Chk.mk hs fun _=>⟨fun h1=>?_,fun h1=>⟨fun h2=>?_,fun h2=>⟨fun h3=>?_,fun h3=>⟨fun h4=>?_,fun h4=>?_⟩⟩⟩⟩⟩
 ·have e:boR s sb r (⟨ha,an,tg,pe⟩:Pp)=coR s sb 93 3 r (⟨ha,an,tg,pe⟩:Pp):=by unfold boR;rw [if_pos h1]
  rw [e]
  have hN:=HL h1
  unfold zbp rdC at hN
  refine Wb (hN) ?_
  simp only [↓XC,XV,XT,Yg,seval,TES,XRE,XR,XRH,Yh,XM]
  exact Wf
 ·have e:boR s sb r (⟨ha,an,tg,pe⟩:Pp)=coR s (paR s sb) 125 4 r (⟨ha,an,tg,pe⟩:Pp):=by unfold boR;rw [if_neg h1,if_pos h2]
  rw [e]
  have hN:=HM h2
  unfold zbp rdC at hN
  refine Wb (hN) ?_
  simp only [↓XC,XV,XT,Yg,seval,TES,XRE,XR,XRH,Yh,XM]
  exact Wf
 ·have e:boR s sb r (⟨ha,an,tg,pe⟩:Pp)=alR s r ha:=by unfold boR scR;rw [if_neg h1,if_neg h2,if_pos h3]
  rw [e]
  refine Wb (zqs s r fr la ha an tg pf pe ⟨hs,by omega,ho.dn,ho.bs,ho.cd,ho.pos⟩) ?_
  simp only [↓XC,XV,XT,Yg,seval,TES,XRE,XR,XRH,Yh,XM]
  exact Wf
 ·have hqp:r.pos<s.length:=by
   simp only [Bool.or_eq_true,beq_iff_eq] at h4
   rcases h4 with h | h
   ·exact z2 h (by decide)
   ·exact z2 h (by decide)
  have e:boR s sb r (⟨ha,an,tg,pe⟩:Pp)=qtR s r (⟨ha,an,tg,pe⟩:Pp):=by unfold boR scR;rw [if_neg h1,if_neg h2,if_neg h3,if_pos (show ze9 (byt s r.pos)=true from h4)]
  rw [e]
  refine Wb (zqf s r fr la ha an tg pf pe ⟨hs,by omega,ho.dn,ho.bs,ho.cd,hqp⟩) ?_
  simp only [↓XC,XV,XT,Yg,seval,TES,XRE,XR,XRH,Yh,XM]
  exact Wf
 have h4':¬ze9 (byt s r.pos)=true:=by unfold ze9;simpa using h4
 refine ⟨by decide +kernel,Chk.mk hs fun _=>⟨fun h5=>?_,fun h5=>⟨fun h6=>?_,fun h6=>?_⟩⟩⟩
 ·have e:boR s sb r (⟨ha,an,tg,pe⟩:Pp)=plR s r (⟨ha,an,tg,pe⟩:Pp) (-1) true:=by unfold boR scR;rw [if_neg h1,if_neg h2,if_neg h3,if_neg h4',if_pos h5]
  rw [e]
  refine Wb (zu5 s r fr la ha an tg pf pe (-1) true ⟨hs,by omega,ho.dn,ho.bs,ho.pos⟩) ?_
  simp only [↓XC,XV,XT,Yg,seval,TES,XRE,XR,XRH,Yh,XM]
  simp only [plR,atR,yx,zo,List.length_append,List.length_cons,List.length_nil,Nat.zero_add]
  exact Wf (by simp only [↓XC,XV,XT,Yg,seval];try simp [Yf,hcd])
 ·have e:boR s sb r (⟨ha,an,tg,pe⟩:Pp)=yx r 1 [] an tg:=by unfold boR scR;rw [if_neg h1,if_neg h2,if_neg h3,if_neg h4',if_neg (by simpa using h5),if_pos (by simpa [or_assoc] using h6)]
  rw [e]
  refine Wb (zfj s r fr la 1 [] ha an tg pf pe ⟨by omega,ho.dn,ho.bs⟩) ?_
  simp only [↓XC,XV,XT,Yg,seval,TES,XRE,XR,XRH,Yh,XM]
  exact Wf (by simp only [↓XC,XV,XT,Yg,seval];try simp [Yf,hcd])
 ·have e:boR s sb r (⟨ha,an,tg,pe⟩:Pp)=flt r 10 r.pos:=by unfold boR scR;rw [if_neg h1,if_neg h2,if_neg h3,if_neg h4',if_neg (by simpa using h5),if_neg (by simpa [or_assoc,and_assoc] using h6)]
  rw [e]
  refine Wm (qr s r fr la 10 r.pos hcd) ?_
  simp only [↓XC,XV,XT,Yg,seval,TES,XRE,XR,XRH,Yh,XM]
  exact Wf
theorem zlz (s:Bs) (r:Rd) (fr:Bool) (la:Int) (sb:Rd→Rd) (HB:∀ (r1:Rd) (ha:Bool) (an tg:Bs) (pf:Int) (pe:Nat),Ok s r1→r1.dp=r.dp→zbp Tryz.prog 318 s fr la [.agg [.b ha,.s an,.s tg,.i .i64 pf,.i .i64 (pe:Nat)]] r1 (boR s sb r1 (⟨ha,an,tg,pe⟩:Pp))) (hp:s.length≤1048576∧Ok s r):FnK Tryz.prog 356 1 [.ptr 0 0 0] [some (.blk false [.s s,.i .i64 ((r).pos:Nat),.slc 1 0 (r).ev.length,.slc 2 0 (r).ev.length,.mp 3,.slc 4 0 (r).hd.length,.i .i64 ((r).dp:Nat),.i .i64 (r).cd,.i .i64 ((r).pl:Nat),.b fr,.i .i64 la]),some (.row false 8 (r).ev.length (zg evc evz (r).ev)),some (.row false 1 (r).ev.length (zg qf false (r).dn)),some (.mapS (nmI (r).ev (r).bs)),some (.row false 2 (r).hd.length (zg hdc hdz (r).hd))] (fun z c=>z=.b (decide ((noR s sb r).cd=0))∧c=[some (.blk false [.s s,.i .i64 ((noR s sb r).pos:Nat),.slc 1 0 (noR s sb r).ev.length,.slc 2 0 (noR s sb r).ev.length,.mp 3,.slc 4 0 (noR s sb r).hd.length,.i .i64 ((noR s sb r).dp:Nat),.i .i64 (noR s sb r).cd,.i .i64 ((noR s sb r).pl:Nat),.b fr,.i .i64 la]),some (.row false 8 (noR s sb r).ev.length (zg evc evz (noR s sb r).ev)),some (.row false 1 (noR s sb r).ev.length (zg qf false (noR s sb r).dn)),some (.mapS (nmI (noR s sb r).ev (noR s sb r).bs)),some (.row false 2 (noR s sb r).hd.length (zg hdc hdz (noR s sb r).hd))]):=by
 refine FnK.ofE (cf:=zk Tryz.prog te [] 24 1 false (fun i=>i==2) (kp [(0,[0]),(1,[0,3,4]),(2,[0,3,20]),(3,[2]),(4,[2])]) [] []) (zf te_ok (l:=[]) (trivial) zd) Tryz.func356 rfl rfl rfl (by simp [zk]) (by simp [zk]) (rs:=[.tmp 2]) rfl 100000 ?_
 simp only [↓XC,XV,XT,Yg,seval,TES,XRE,XR,XRH,Yh]
 obtain ⟨hs,ho⟩:=hp
 have hsz:=ho.size hs
 have hcd:=ho.cd
 obtain ⟨q,hq⟩:∃ q,q=prR s true r:=⟨_,rfl⟩
 obtain ⟨p,hpp⟩:∃ p,p=prP s true r:=⟨_,rfl⟩
 refine Wm (zlw s r fr la true ⟨hs,hcd,ho.pos,ho.hd,ho.pf⟩) ?_
 simp only [↓XC,XV,XT,Yg,seval,TES,XRE,XR,XRH,Yh,XM]
 rw [←hq,←hpp]
 by_cases hqz:q.cd=0
 ·obtain ⟨a9,e9,l9,l10,_⟩:=ug (fl:=true) ho.pos hcd (by rw [←hq];exact hqz)
  rw [←hq] at e9
  have hqo:Ok s q:=by rw [e9];exact ho.at l9 l10
  have hqd:q.dp=r.dp:=by rw [e9];rfl
  simp only [decide_eq_true hqz]
  cases hh:p.has
  ·have hF:prF s r=q:=by unfold prF;rw [←hq,←hpp,if_neg (by rw [hh];simp)]
   have hFo:=hqo
   have hFd:=hqd
   have hFz:=hqz
   rw [←hh]
   simp only [↓XC,XV,XT,Yg,seval,TES,XRE,XR,XRH,Yh,↓Ya,Yb,hh]
   have hN:=HB q false p.an p.tg (r.pos:Nat) p.en hFo hFd
   unfold zbp rdC at hN
   refine Wb (hN) ?_
   simp only [↓XC,XV,XT,Yg,seval,TES,XRE,XR,XRH,Yh,XM]
   have e:noR s sb r=boR s sb q (⟨false,p.an,p.tg,p.en⟩:Pp):=by unfold noR;rw [hF,if_neg (by simpa using hFz),←hpp,←hh]
   rw [e]
   exact Wf
  ·simp only [↓XC,XV,XT,Yg,seval,TES,XRE,XR,XRH,Yh,↓Ya,Yb]
   obtain ⟨g,hg⟩:∃ g,g=ky s q:=⟨_,rfl⟩
   have hF:prF s r=g:=by unfold prF;rw [←hq,←hpp,if_pos ⟨hqz,hh⟩,hg]
   refine Wm (rgoes s q fr la ⟨hs,hqz,hqo.pos⟩) ?_
   simp only [↓XC,XV,XT,Yg,seval,TES,XRE,XR,XRH,Yh,XM]
   rw [←hg]
   by_cases hFz:g.cd=0
   ·simp only [decide_eq_true hFz]
    have eg:g=q:=by rw [hg];exact (zj0 (by rw [←hg];exact hFz)).1
    have hFo:Ok s g:=by rw [eg];exact hqo
    have hFd:g.dp=r.dp:=by rw [eg];exact hqd
    simp only [↓XC,XV,XT,Yg,seval,TES,XRE,XR,XRH,Yh,↓Ya,Yb]
    have hN:=HB g true p.an p.tg (r.pos:Nat) p.en hFo hFd
    unfold zbp rdC at hN
    refine Wb (hN) ?_
    simp only [↓XC,XV,XT,Yg,seval,TES,XRE,XR,XRH,Yh,XM]
    have e:noR s sb r=boR s sb g (⟨true,p.an,p.tg,p.en⟩:Pp):=by unfold noR;rw [hF,if_neg (by simpa using hFz),←hpp,←hh]
    rw [e]
    exact Wf
   ·simp only [decide_eq_false hFz]
    simp only [↓XC,XV,XT,Yg,seval,TES,XRE,XR,XRH,Yh,↓Ya,Yb]
    have e:noR s sb r=g:=by unfold noR;rw [hF,if_pos hFz]
    rw [e,decide_eq_false hFz]
    exact Wf
 ·simp only [decide_eq_false hqz]
  simp only [↓XC,XV,XT,Yg,seval,TES,XRE,XR,XRH,Yh,↓Ya,Yb]
  have e:noR s sb r=q:=by
   have hF:prF s r=q:=by unfold prF;rw [←hq,if_neg (fun h=>hqz h.1)]
   unfold noR;rw [hF,if_pos hqz]
  rw [e,decide_eq_false hqz]
  exact Wf
theorem zly (s:Bs) (r:Rd) (fr:Bool) (la:Int) (sb:Rd→Rd) (HS:∀ r1:Rd,Ok s r1→r1.dp=r.dp→zbp Tryz.prog 356 s fr la [] r1 (sb r1)) (hp:s.length≤1048576∧Ok s r):FnK Tryz.prog 358 1 [.ptr 0 0 0] [some (.blk false [.s s,.i .i64 ((r).pos:Nat),.slc 1 0 (r).ev.length,.slc 2 0 (r).ev.length,.mp 3,.slc 4 0 (r).hd.length,.i .i64 ((r).dp:Nat),.i .i64 (r).cd,.i .i64 ((r).pl:Nat),.b fr,.i .i64 la]),some (.row false 8 (r).ev.length (zg evc evz (r).ev)),some (.row false 1 (r).ev.length (zg qf false (r).dn)),some (.mapS (nmI (r).ev (r).bs)),some (.row false 2 (r).hd.length (zg hdc hdz (r).hd))] (fun z c=>z=.b (decide ((paR s sb r).cd=0))∧c=[some (.blk false [.s s,.i .i64 ((paR s sb r).pos:Nat),.slc 1 0 (paR s sb r).ev.length,.slc 2 0 (paR s sb r).ev.length,.mp 3,.slc 4 0 (paR s sb r).hd.length,.i .i64 ((paR s sb r).dp:Nat),.i .i64 (paR s sb r).cd,.i .i64 ((paR s sb r).pl:Nat),.b fr,.i .i64 la]),some (.row false 8 (paR s sb r).ev.length (zg evc evz (paR s sb r).ev)),some (.row false 1 (paR s sb r).ev.length (zg qf false (paR s sb r).dn)),some (.mapS (nmI (paR s sb r).ev (paR s sb r).bs)),some (.row false 2 (paR s sb r).hd.length (zg hdc hdz (paR s sb r).hd))]):=by
 refine FnK.ofE (cf:=zk Tryz.prog te [(107,zl),(191,qy),(101,yn),(108,qa),(183,wa)] 163 1 false (fun i=>i==2||i==14) (kp [(0,[0]),(1,[0,3,4]),(2,[0,3,4,23]),(3,[2]),(4,[0,3,4,5]),(5,[2]),(6,[0,3,4,5,39]),(7,[0,4,5]),(8,[0,3,4,5,45]),(9,[0,4,5]),(10,[0,3,4,5,51]),(11,[0,4,5]),(12,[0,3,4,5,64]),(13,[0,4,5]),(14,[0,5,88]),(15,[2]),(16,[0,6]),(17,[0,129]),(18,[]),(19,[2]),(20,[0]),(21,[0,142]),(22,[2]),(23,[0,7]),(24,[0,157]),(25,[]),(26,[2]),(27,[2])]) [4,14] [(4,[],[],.q1 0 (.q1 1 (.q1 2 (.q1 4 (.q1 5 (.q1 6 (.q0 3 [3] (.q0 7 [7] (.alt 8 (.q1 9 (.fin)) (.fin)))))))))),(10,[],[],.q1 0 (.q1 1 (.q1 2 (.q1 4 (.q1 5 (.q1 6 (.q0 3 [3] (.q0 7 [7] (.alt 8 (.q1 9 (.fin)) (.fin)))))))))),(16,[],[],.q1 0 (.q1 1 (.q1 2 (.q1 4 (.q1 5 (.q1 6 (.q0 3 [3] (.q0 7 [7] (.q1 8 (.alt 9 (.q1 10 (.q1 11 (.q1 12 (.q1 13 (.q1 15 (.q1 16 (.q1 17 (.q0 14 [14] (.q0 18 [18] (.q1 19 (.alt 20 (.alt 21 (.q1 22 (.q1 23 (.q1 24 (.alt 25 (.q1 26 (.q1 27 (.fin))) (.fin))))) (.fin)) (.fin)))))))))))) (.fin))))))))))),(17,[],[],.q1 0 (.q1 1 (.q1 2 (.q1 4 (.q1 5 (.q1 6 (.q0 3 [3] (.q0 7 [7] (.q1 8 (.q1 9 (.q1 10 (.q1 11 (.q1 12 (.q1 13 (.fin))))))))))))))),(23,[],[],.q1 0 (.q1 1 (.q1 2 (.q1 4 (.q1 5 (.q1 6 (.q0 3 [3] (.q0 7 [7] (.q1 8 (.q1 9 (.fin)))))))))))]) (zf te_ok (l:=[(107,zl),(191,qy),(101,yn),(108,qa),(183,wa)]) (⟨zu,jr,wc,wj,jj,trivial⟩) zd) Tryz.func358 rfl rfl rfl (by simp [zk]) (by simp [zk]) (rs:=[.tmp 2]) rfl 100000 ?_
 simp only [↓XC,XV,XT,Yg,seval,TES,zc,ya,zn,zt,zy,XRE,XR,XRH,Yh,yf]
 obtain ⟨hs,ho⟩:=hp
 have hsz:=ho.size hs
 have hcd:=ho.cd
 obtain ⟨q,hq⟩:∃ q,q=prR s true r:=⟨_,rfl⟩
 obtain ⟨p,hpp⟩:∃ p,p=prP s true r:=⟨_,rfl⟩
 refine yq.mut (zlw s r fr la true ⟨hs,hcd,ho.pos,ho.hd,ho.pf⟩) rfl [0,1,2,3,4] (by simp [Yf]) (by simp only [Ye];exact ⟨by omega,zb (by simp [Yf,Yh,yf]),by omega,za fun _=>rfl,by omega,za fun _=>rfl,by omega,zi,by omega,za fun _=>rfl⟩) (by decide) ?_
 simp only [↓XC,XV,XT,Yg,seval,TES,XRE,XR,XRH,Yh,yf,XM]
 rw [←hq,←hpp]
 refine ze1.of (ι:={x:Rd // x=prF s r∧x.cd=0}) (fun x=>⟨[(0,.ptr 0 0 0),(3,.ptr 5 0 0),(4,.b true)],[some (.blk false [.s s,.i .i64 ((x.1).pos:Nat),.slc 1 0 (x.1).ev.length,.slc 2 0 (x.1).ev.length,.mp 3,.slc 4 0 (x.1).hd.length,.i .i64 ((x.1).dp:Nat),.i .i64 (x.1).cd,.i .i64 ((x.1).pl:Nat),.b fr,.i .i64 la]),some (.row false 8 (x.1).ev.length (zg evc evz (x.1).ev)),some (.row false 1 (x.1).ev.length (zg qf false (x.1).dn)),some (.mapS (nmI (x.1).ev (x.1).bs)),some (.row false 2 (x.1).hd.length (zg hdc hdz (x.1).hd)),some (.blk false [.b p.has,.s p.an,.s p.tg,.i .i64 (r.pos:Nat),.i .i64 (p.en:Nat)])]⟩) ?_ ?_
 ·by_cases hqz:q.cd=0
  ·obtain ⟨a9,e9,l9,l10,_⟩:=ug (fl:=true) ho.pos hcd (by rw [←hq];exact hqz)
   rw [←hq] at e9
   have hqo:Ok s q:=by rw [e9];exact ho.at l9 l10
   simp only [decide_eq_true hqz]
   cases hh:p.has
   ·have hF:q=prF s r:=by unfold prF;rw [←hq,←hpp,if_neg (by rw [hh];simp)]
    simp only [↓XC,XV,XT,Yg,seval,TES,XRE,XR,XRH,Yh,yf,↓Ya,Yb]
    exact ⟨⟨q,hF,hqz⟩,(Ent.ren1 [0,1,2,3,4,5] (by decide) (by simp only [Yd];exact ⟨zb (by simp [Yf,Yh]),za fun _=>rfl,za fun _=>rfl,zi,za fun _=>rfl,zb (by simp [Yf])⟩) (by simp [zj,Vg.look,SV.mapH,muL]))⟩
   ·simp only [↓XC,XV,XT,Yg,seval,TES,XRE,XR,XRH,Yh,yf,↓Ya,Yb]
    obtain ⟨g,hg⟩:∃ g,g=ky s q:=⟨_,rfl⟩
    have hF:g=prF s r:=by unfold prF;rw [←hq,←hpp,if_pos ⟨hqz,hh⟩,hg]
    refine Wm (rgoes s q fr la ⟨hs,hqz,hqo.pos⟩) ?_
    simp only [↓XC,XV,XT,Yg,seval,TES,XRE,XR,XRH,Yh,yf,XM]
    rw [←hg]
    by_cases hFz:g.cd=0
    ·simp only [decide_eq_true hFz]
     simp only [↓XC,XV,XT,Yg,seval,TES,XRE,XR,XRH,Yh,yf,↓Ya,Yb]
     exact ⟨⟨g,hF,hFz⟩,(Ent.ren1 [0,1,2,3,4,5] (by decide) (by simp only [Yd];exact ⟨zb (by simp [Yf,Yh]),za fun _=>rfl,za fun _=>rfl,zi,za fun _=>rfl,zb (by simp [Yf])⟩) (by simp [zj,Vg.look,SV.mapH,muL]))⟩
    ·simp only [decide_eq_false hFz]
     simp only [↓XC,XV,XT,Yg,seval,TES,XRE,XR,XRH,Yh,yf,↓Ya,Yb]
     have e:paR s sb r=g:=by unfold paR;rw [←hF,if_pos hFz]
     rw [e,decide_eq_false hFz]
     exact Wf
  ·simp only [decide_eq_false hqz]
   simp only [↓XC,XV,XT,Yg,seval,TES,XRE,XR,XRH,Yh,yf,↓Ya,Yb]
   have e:paR s sb r=q:=by
    have hF:prF s r=q:=by unfold prF;rw [←hq,if_neg (fun h=>hqz h.1)]
    unfold paR;rw [hF,if_pos hqz]
   rw [e,decide_eq_false hqz]
   exact Wf
 rintro ⟨F,hF,hFz⟩
 have hFo:Ok s F:=by rw [hF];exact ho.prF (by rw [←hF];exact hFz)
 have hFd:F.dp=r.dp:=by
  obtain ⟨q9,e9,_⟩:=zie ho.pos hcd (show (prF s r).cd=0 by rw [←hF];exact hFz)
  rw [hF,e9];rfl
 have hFsz:=hFo.size hs
 simp only [↓XC,XV,XT,Yg,seval,TES,zc,ya,zn,zt,zy,XRE,XR,XRH,Yh,yf]
 rw [zq s hFo.pos]
 refine ⟨by decide +kernel,Chk.mk hs fun _=>?_⟩
 refine ze1.of (ι:={x:Rd // x=scR s F p 125 58}) (fun x=>⟨[(0,.ptr 0 0 0),(4,.b (decide (x.1.cd=0))),(5,.i .i64 (byt s F.pos))],[some (.blk false [.s s,.i .i64 ((x.1).pos:Nat),.slc 1 0 (x.1).ev.length,.slc 2 0 (x.1).ev.length,.mp 3,.slc 4 0 (x.1).hd.length,.i .i64 ((x.1).dp:Nat),.i .i64 (x.1).cd,.i .i64 ((x.1).pl:Nat),.b fr,.i .i64 la]),some (.row false 8 (x.1).ev.length (zg evc evz (x.1).ev)),some (.row false 1 (x.1).ev.length (zg qf false (x.1).dn)),some (.mapS (nmI (x.1).ev (x.1).bs)),some (.row false 2 (x.1).hd.length (zg hdc hdz (x.1).hd))]⟩) ?_ ?_
 ·simp only [↓XC,XV,XT,Yg,seval,TES,zc,ya,zn,zt,zy,XRE,XR,XRH,Yh,yf]
  refine ⟨fun h3=>?_,fun h3=>⟨fun h4=>?_,fun h4=>⟨by decide +kernel,Chk.mk hs fun _=>?_⟩⟩⟩
  ·have e:scR s F p 125 58=alR s F p.has:=by unfold scR;rw [if_pos h3]
   refine Wb (zqs s F fr la p.has p.an p.tg (r.pos:Nat) p.en ⟨hs,by omega,hFo.dn,hFo.bs,hFz,hFo.pos⟩) ?_
   simp only [↓XC,XV,XT,Yg,seval,TES,zc,ya,zn,zt,zy,XRE,XR,XRH,Yh,yf,XM]
   exact ⟨⟨alR s F p.has,e.symm⟩,(Ent.ren1 [0,1,2,3,4] (by decide) (by simp only [Yd];exact ⟨zb (by simp [Yf,Yh]),za fun _=>rfl,za fun _=>rfl,zi,za fun _=>rfl⟩) (by simp [zj,Vg.look,SV.mapH,muL]))⟩
  ·have hqp:F.pos<s.length:=by
    simp only [Bool.or_eq_true,beq_iff_eq] at h4
    rcases h4 with h | h
    ·exact z2 h (by decide)
    ·exact z2 h (by decide)
   have e:scR s F p 125 58=qtR s F p:=by unfold scR;rw [if_neg h3,if_pos (show ze9 (byt s F.pos)=true from h4)]
   refine Wb (zqf s F fr la p.has p.an p.tg (r.pos:Nat) p.en ⟨hs,by omega,hFo.dn,hFo.bs,hFz,hqp⟩) ?_
   simp only [↓XC,XV,XT,Yg,seval,TES,zc,ya,zn,zt,zy,XRE,XR,XRH,Yh,yf,XM]
   exact ⟨⟨qtR s F p,e.symm⟩,(Ent.ren1 [0,1,2,3,4] (by decide) (by simp only [Yd];exact ⟨zb (by simp [Yf,Yh]),za fun _=>rfl,za fun _=>rfl,zi,za fun _=>rfl⟩) (by simp [zj,Vg.look,SV.mapH,muL]))⟩
  rw [zq s hFo.pos]
  have h4':¬ze9 (byt s F.pos)=true:=by unfold ze9;simpa using h4
  refine ⟨fun h5=>?_,fun h5=>⟨fun h6=>?_,fun h6=>?_⟩⟩
  ·have e:scR s F p 125 58=plR s F p (-1) true:=by unfold scR;rw [if_neg h3,if_neg h4',if_pos h5]
   refine Wb (zu5 s F fr la p.has p.an p.tg (r.pos:Nat) p.en (-1) true ⟨hs,by omega,hFo.dn,hFo.bs,hFo.pos⟩) ?_
   simp only [↓XC,XV,XT,Yg,seval,TES,zc,ya,zn,zt,zy,XRE,XR,XRH,Yh,yf,XM]
   exact ⟨⟨plR s F p (-1) true,e.symm⟩,(Ent.ren1 [0,1,2,3,4] (by decide) (by simp only [Yd];exact ⟨zb (by simp [Yf,Yh]),za fun _=>rfl,za fun _=>rfl,zi,za fun _=>rfl⟩) (by simp [zj,Vg.look,SV.mapH,muL,hFz,plR,atR,yx,zo]))⟩
  ·have e:scR s F p 125 58=yx F 1 [] p.an p.tg:=by unfold scR;rw [if_neg h3,if_neg h4',if_neg (by simpa using h5),if_pos (by simpa [or_assoc] using h6)]
   refine Wb (zfj s F fr la 1 [] p.has p.an p.tg (r.pos:Nat) p.en ⟨by omega,hFo.dn,hFo.bs⟩) ?_
   simp only [↓XC,XV,XT,Yg,seval,TES,zc,ya,zn,zt,zy,XRE,XR,XRH,Yh,yf,XM]
   refine ⟨⟨yx F 1 [] p.an p.tg,e.symm⟩, ?_⟩
   simp only [yx,zo,List.length_append,List.length_cons,List.length_nil,Nat.zero_add]
   exact (Ent.ren1 [0,1,2,3,4] (by decide) (by simp only [Yd];exact ⟨zb (by simp [Yf,Yh]),za fun _=>rfl,za fun _=>rfl,zi,za fun _=>rfl⟩) (by simp [zj,Vg.look,SV.mapH,muL,hFz]))
  ·have e:paR s sb r=flt F 10 F.pos:=by
    have e2:scR s F p 125 58=flt F 10 F.pos:=by unfold scR;rw [if_neg h3,if_neg h4',if_neg (by simpa using h5),if_neg (by simpa [or_assoc,and_assoc] using h6)]
    unfold paR
    rw [←hF,←hpp,if_neg (by simpa using hFz),e2,if_pos (by simp [flt])]
   rw [e]
   refine Wm (qr s F fr la 10 F.pos hFz) ?_
   simp only [↓XC,XV,XT,Yg,seval,TES,XRE,XR,XRH,Yh,yf,XM]
   exact Wf
 rintro ⟨x,hx⟩
 have e0:paR s sb r=if x.cd≠0 then x else if (yo s x).cd≠0 then yo s x else paK s sb (ze9 (byt s F.pos)) (yo s x):=by
  unfold paR
  rw [←hF,←hpp,←hx,if_neg (by simpa using hFz)]
 simp only [↓XC,XV,XT,Yg,seval,TES,zc,ya,zn,zt,zy,XRE,XR,XRH,Yh,yf]
 by_cases hxz:x.cd=0
 ·have hst:=pa_key ho hF hFz (by rw [hx,hpp]) hxz
  have hxo:=hst.ok
  simp only [decide_eq_true hxz]
  simp only [↓XC,XV,XT,Yg,seval,TES,zc,ya,zn,zt,zy,XRE,XR,XRH,Yh,yf,↓Ya,Yb]
  obtain ⟨g,hg⟩:∃ g,g=yo s x:=⟨_,rfl⟩
  refine Wm (rgap s x fr la ⟨hs,hxz,hxo.pos⟩) ?_
  simp only [↓XC,XV,XT,Yg,seval,TES,zc,ya,zn,zt,zy,XRE,XR,XRH,Yh,yf,XM]
  rw [←hg]
  rw [if_neg (by simpa using hxz),←hg] at e0
  by_cases hgz:g.cd=0
  ·simp only [decide_eq_true hgz]
   simp only [↓XC,XV,XT,Yg,seval,TES,zc,ya,zn,zt,zy,XRE,XR,XRH,Yh,yf,↓Ya,Yb]
   have hgo:Ok s g:=by rw [hg];exact hxo.gap (by rw [←hg];exact hgz)
   have hgd:g.dp=r.dp:=by
    obtain ⟨e9,h9⟩:=kf (s:=s) (r:=x) (by rw [←hg];exact hgz)
    rw [hg,e9];exact hst.dp
   have hgp:g.pos<s.length:=by
    obtain ⟨e9,h9⟩:=kf (s:=s) (r:=x) (by rw [←hg];exact hgz)
    rw [hg,e9];exact h9
   have hgsz:=hgo.size hs
   rw [if_neg (by simpa using hgz)] at e0
   have ep:((g.pos:Int)+1).toNat=g.pos+1:=by omega
   have es:byt s (spot s ((g.pos:Int)+1))=byt s (g.pos+1):=by rw [jx (by omega)];rfl
   rw [es,ep,←kw hgp]
   have hQ:(!decide (byt s g.pos=58)||!(gap s (g.pos+1)||flw (byt s (g.pos+1))||(byt s F.pos==39||byt s F.pos==34)))=!decide (byt s g.pos=58∧(gap s (g.pos+1)||flw (byt s (g.pos+1))||ze9 (byt s F.pos))=true):=by
    rw [Bool.decide_and,Bool.not_and,Bool.decide_eq_true];rfl
   rw [hQ]
   refine ⟨by decide +kernel,Chk.mk (by simp only [inR];omega) fun _=>Chk.mk ⟨hs,by omega⟩ fun _=>Chk.mk (fun _=>(by simp only [inR];omega)) fun _=>Chk.mk (fun h=>⟨⟨h,h⟩,hs⟩) fun _=>⟨by decide +kernel,Chk.mk (by omega) fun _=>⟨fun hc=>?_,fun hc=>Chk.mk (by simp only [inR];omega) fun _=>?_⟩⟩⟩
   ·have hc':=of_decide_eq_false (by simpa only [Bool.not_eq_true'] using hc)
    rw [e0,paK,if_neg hc']
    refine Wb (zfj s g fr la 1 [] false [] [] 0 0 ⟨by omega,hgo.dn,hgo.bs⟩) ?_
    simp only [↓XC,XV,XT,Yg,seval,TES,zc,ya,zn,zt,zy,XRE,XR,XRH,Yh,yf,XM]
    try simp only [yx,zo,List.length_append,List.length_cons,List.length_nil,Nat.zero_add]
    exact Wf (by simp only [↓XC,XV,XT,Yg,seval];try simp [Yf,hgz])
   ·obtain ⟨h,hh⟩:∃ h,h=yo s (atR g (g.pos+1)):=⟨_,rfl⟩
    have hc':=of_decide_eq_true (by simpa only [Bool.not_eq_false'] using hc)
    rw [paK,if_pos hc',paV,←hh] at e0
    refine Wm (rgap s (atR g (g.pos+1)) fr la ⟨hs,hgz,hgp⟩) ?_
    simp only [↓XC,XV,XT,Yg,seval,TES,zc,ya,zn,zt,zy,XRE,XR,XRH,flt,zo,yx,yf,XM]
    rw [←hh]
    refine ⟨fun hz=>?_,fun hz=>?_⟩
    ·have hz':¬h.cd=0:=by simpa using hz
     rw [e0,if_pos hz',decide_eq_false hz']
     exact Wf
    ·have hz':h.cd=0:=by simpa using hz
     obtain ⟨e9,h9⟩:=kf (s:=s) (r:=atR g (g.pos+1)) (by rw [←hh];exact hz')
     rw [←hh] at e9
     have hho:Ok s h:=by rw [hh];exact (hgo.at (q:=g.pos+1) (by omega) hgp).gap (by rw [←hh];exact hz')
     have hhd:h.dp=r.dp:=by rw [e9];exact hgd
     have hhp:h.pos<s.length:=by rw [e9];exact h9
     have hhsz:=hho.size hs
     rw [if_neg (by simpa using hz')] at e0
     rw [←kw hhp,←Bool.decide_or]
     refine ⟨by decide +kernel,Chk.mk (by omega) fun _=>⟨fun hb=>?_,fun hb=>?_⟩⟩
     ·rw [e0,if_pos (of_decide_eq_true hb)]
      refine Wb (zfj s h fr la 1 [] false [] [] 0 0 ⟨by omega,hho.dn,hho.bs⟩) ?_
      simp only [↓XC,XV,XT,Yg,seval,TES,zc,ya,zn,zt,zy,XRE,XR,XRH,Yh,yf,XM]
      try simp only [yx,zo,List.length_append,List.length_cons,List.length_nil,Nat.zero_add]
      exact Wf (by simp only [↓XC,XV,XT,Yg,seval];try simp [Yf,hz'])
     ·rw [e0,if_neg (of_decide_eq_false hb)]
      have hN:=HS h hho hhd
      unfold zbp rdC at hN
      refine Wb (hN) ?_
      simp only [↓XC,XV,XT,Yg,seval,TES,zc,ya,zn,zt,zy,XRE,XR,XRH,Yh,yf,XM]
      exact Wf
  ·simp only [decide_eq_false hgz]
   simp only [↓XC,XV,XT,Yg,seval,TES,zc,ya,zn,zt,zy,XRE,XR,XRH,Yh,yf,↓Ya,Yb]
   rw [e0,if_pos hgz,decide_eq_false hgz]
   exact Wf
 ·simp only [decide_eq_false hxz]
  simp only [↓XC,XV,XT,Yg,seval,TES,zc,ya,zn,zt,zy,XRE,XR,XRH,Yh,yf,↓Ya,Yb]
  rw [e0,if_pos hxz,decide_eq_false hxz]
  exact Wf
end Go.T
end
section
set_option linter.unusedVariables false
set_option linter.unusedSimpArgs false
set_option linter.unusedSectionVars false
set_option linter.unnecessarySimpa false
namespace Go.T
variable [Go.Vg.Glob] [Go.Vg.GlobTabs 0 1]
open Go.Proofs Go.Vg Go.RowKit Go.TT Go.Pl
set_option maxRecDepth 10000
set_option maxHeartbeats 4000000
theorem rnode (s:Bs) (fr:Bool) (la:Int) (hs:s.length≤1048576):∀ (d:Nat) (r:Rd),Ok s r→r.dp+d=40→zbp Tryz.prog 356 s fr la [] r (noF s d r):=by
 intro d
 induction d with
 | zero=>
  intro r ho hd
  refine zlz s r fr la id (fun r1 ha an tg pf pe h1 h2=>?_) ⟨hs,ho⟩
  refine zci s r1 fr la id ha an tg pf pe (fun hb=>?_) (fun hb=>?_) ⟨hs,h1⟩
  ·exact zch s r1 fr la id ha an tg pf pe (fun h=>by omega) ⟨hs,h1,z2 hb (by decide)⟩
  ·exact ze4 s r1 fr la (paR s id) ha an tg pf pe (fun h=>by omega) ⟨hs,h1,z2 hb (by decide)⟩
 | succ d ih=>
  intro r ho hd
  have hit:zn9 s (r.dp+1) (noF s d):=fun r1 h1 h2 h3=>zin d r1 h1 (by omega) h3
  refine zlz s r fr la (noF s d) (fun r1 ha an tg pf pe h1 h2=>?_) ⟨hs,ho⟩
  refine zci s r1 fr la (noF s d) ha an tg pf pe (fun hb=>?_) (fun hb=>?_) ⟨hs,h1⟩
  ·exact zch s r1 fr la (noF s d) ha an tg pf pe (fun h=>by rw [h2];exact ⟨hit,fun r2 k1 k2=>ih r2 k1 (by omega)⟩) ⟨hs,h1,z2 hb (by decide)⟩
  ·exact ze4 s r1 fr la (paR s (noF s d)) ha an tg pf pe (fun h=>by rw [h2];exact ⟨fun r2 k1 k2 k3=>zii k1 (by rw [k2];exact hit) k3,fun r2 k1 k2=>zly s r2 fr la (noF s d) (fun r3 m1 m2=>ih r3 m1 (by omega)) ⟨hs,k1⟩⟩) ⟨hs,h1,z2 hb (by decide)⟩
theorem zkp (s:Bs) (p:Int) (hp:s.length≤1048576):FnK Tryz.prog 69 0 [.s s,.i .i64 p] [] (fun z c=>z=.ptr 0 0 0∧c=[some (.blk false [.s s,.i .i64 (((rdz (spot s p))).pos:Nat),.slc 1 0 ((rdz (spot s p))).ev.length,.slc 2 0 ((rdz (spot s p))).ev.length,.mp 3,.slc 4 0 ((rdz (spot s p))).hd.length,.i .i64 (((rdz (spot s p))).dp:Nat),.i .i64 ((rdz (spot s p))).cd,.i .i64 (((rdz (spot s p))).pl:Nat),.b false,.i .i64 0]),some (.row false 8 ((rdz (spot s p))).ev.length (zg evc evz ((rdz (spot s p))).ev)),some (.row false 1 ((rdz (spot s p))).ev.length (zg qf false ((rdz (spot s p))).dn)),some (.mapS (nmI ((rdz (spot s p))).ev ((rdz (spot s p))).bs)),some (.row false 2 ((rdz (spot s p))).hd.length (zg hdc hdz ((rdz (spot s p))).hd))]):=by
 refine FnK.ofX (cf:=zk Tryz.prog te [(100,zr)] 12 0 false (fun _=>false) (kp [(0,[0,1]),(1,[4])]) [] []) (zf te_ok (l:=[(100,zr)]) (⟨yc,trivial⟩) zd) Tryz.func69 rfl rfl rfl (by simp [zk]) (by simp [zk]) (rs:=[.tmp 4]) rfl 100000 ?_
 simp only [↓XC,XV,XT,Yg,seval,TES,yd,XRE,XR,XRH,Yh]
 exact ⟨_,Ent.nl (env':=[(4,.ptr 1 0 0)]) (d:=[some (.mapS []),some (.blk false [.s s,.i .i64 (spot s p:Nat),.slc 2 0 0,.slc 3 0 0,.mp 0,.slc 4 0 0,.i .i64 0,.i .i64 0,.i .i64 0,.b false,.i .i64 0])]) [(8,zg evc evz []),(1,zg qf false []),(2,zg hdc hdz [])] (by simp [nlE,nlV,Vg.look]) (by simp [nlC,nlO,nlL,nlV]),⟨[1,2,3,0,4],by decide,by simp only [Yd];exact ⟨zb (by simp [Yf,rdz]),za fun _=>rfl,za fun _=>rfl,zi,za fun _=>rfl⟩,by simp only [↓XC,XV,XT,Yg,seval];try first | rfl | simp [Yf],by simp [ye,SO.ro],by simp⟩⟩
end Go.T
end
section
set_option linter.unusedVariables false
set_option linter.unusedSimpArgs false
set_option linter.unusedSectionVars false
set_option linter.unnecessarySimpa false
namespace Go.T
variable [Go.Vg.Glob]
open Go.Proofs Go.Vg Go.RowKit Go.TT Go.Pl
set_option maxRecDepth 10000
set_option maxHeartbeats 4000000
theorem zd9 (s:Bs) (p:Int) (hp:s.length≤1048576):FnK Tryz.prog 249 0 [.s s,.i .i64 p] [] (fun z c=>z=.tup [.slc 0 0 (zhi s (en s (spot s p)) (spot s p)).length,.i .i64 (en s (spot s p):Nat)]∧c=[some (.row false 1 (zhi s (en s (spot s p)) (spot s p)).length (zg zao [] (zhi s (en s (spot s p)) (spot s p))))]):=by
 refine FnK.ofE (cf:=zk Tryz.prog te [(100,zr),(187,qg),(106,yg),(108,qa)] 45 0 false (fun _=>false) (kp [(0,[0,1]),(1,[0,1]),(2,[0,1,6]),(3,[0,1,6,7]),(4,[0,1,6,7]),(5,[0,1,6,7,27]),(6,[4,5]),(7,[0,1,6,7,8]),(8,[0,1,6,7,8,34]),(9,[0,1,6,7,8]),(10,[0,6,7,8]),(11,[0,1,6,7])]) [] []) (zf te_ok (l:=[(100,zr),(187,qg),(106,yg),(108,qa)]) (⟨yc,km,y7,wj,trivial⟩) zd) Tryz.func249 rfl rfl rfl (by simp [zk]) (by simp [zk]) (rs:=[.tmp 4,.tmp 5]) rfl 100000 ?_
 simp only [↓XC,XV,XT,Yg,seval,TES,yd,y6,zz,zt]
 refine Chk.mk hp fun _=>?_
 rw [zq s (ql s p)]
 have hi0:=ql s p
 generalize spot s p=i0 at *
 have he:=zd3 s i0 hi0
 refine yv.of (ι:={x:Nat×List Bs // i0≤x.1∧x.1≤s.length∧x.2.length≤x.1∧x.2++zhi s (en s i0) x.1=zhi s (en s i0) i0}) (fun x=>⟨[(0,.s s),(1,.i .i64 (x.1.1:Nat)),(6,.i .i64 (en s i0:Nat)),(7,.slc 0 0 x.1.2.length)],[some (.row false 1 x.1.2.length (zg zao [] x.1.2))]⟩) (fun x=>s.length-x.1.1) ⟨(i0,[]),Nat.le_refl _,hi0,Nat.zero_le _,rfl⟩ (Ent.ren1 [0] (by decide) (by simp only [Yd];exact zh fun i hi=>by simp at hi) (by simp [zj,Vg.look,SV.mapH,muL])) ?_
 rintro ⟨⟨q0,out⟩,hq0,hq,hol,hd⟩
 simp only [↓XC,XV,XT,Yg,seval,TES,zz,zt]
 simp only at hq0 hq hol hd
 rw [zq s hq]
 have hw1:=xa s q0
 have hw2:=xo s q0 hq
 have hdd:zhi s (en s i0) q0=if wh s q0<en s i0∧byt s (wh s q0)≠35∧gap s (wh s q0)=false then sub s (wh s q0) (gp s (wh s q0))::zhi s (en s i0) (gp s (wh s q0)) else []:=by
  rw [zhi];simp only [dite_eq_ite]
 refine Chk.mk hp fun _=>Chk.mk (fun h=>?_) fun _=>⟨fun h=>?_,fun h=>?_⟩
 ·simp only [Yi] at h;omega
 ·have hx:zhi s (en s i0) q0=[]:=by
   rw [hdd,if_neg]
   rintro ⟨h1,h2,_⟩
   rw [kw (by omega)] at h2
   simp only [Yi] at h
   omega
  rw [hx,List.append_nil] at hd
  subst hd
  exact ⟨[0],by decide,by simp only [Yd];exact za fun _=>rfl,by simp only [↓XC,XV,XT,Yg,seval];try simp [Yf],by simp [ye,SO.ro],by simp⟩
 have hlt:wh s q0<en s i0∧byt s (wh s q0)≠35:=by
  simp only [Yi] at h
  exact ⟨by omega,by rw [kw (by omega)];omega⟩
 have hg:gap s (wh s q0)=false:=by
  unfold gap
  rw [wh_not,en_lt (by omega) hlt.1];rfl
 rw [if_pos ⟨hlt.1,hlt.2,hg⟩] at hdd
 refine yv.of (ι:={x:Nat // wh s q0≤x∧x≤s.length∧gp s x=gp s (wh s q0)}) (fun x=>⟨[(0,.s s),(1,.i .i64 (wh s q0:Nat)),(6,.i .i64 (en s i0:Nat)),(7,.slc 0 0 out.length),(8,.i .i64 (x.1:Nat))],[some (.row false 1 out.length (zg zao [] out))]⟩) (fun x=>s.length-x.1) ⟨wh s q0,Nat.le_refl _,hw2,rfl⟩ (Ent.refl _ _) ?_
 rintro ⟨q,h1,h2,h3⟩
 simp only [↓XC,XV,XT,Yg,seval,TES,zt]
 refine Chk.mk ⟨hp,by omega⟩ fun _=>⟨fun hg1=>Chk.mk (by simp only [inR];omega) fun _=>?_,fun hg1=>Chk.mk (by omega) fun _=>⟨qi rfl rfl,Chk.mk (by omega) fun _=>?_⟩⟩
 ·have hg2:gap s q=false:=by simpa using hg1
  have:=x8 hg2
  exact ⟨⟨q+1,by omega,by omega,by rw [←gp_t hg2];exact h3⟩,by simp only;omega,(by first | exact Ent.refl _ _ | (simp only [Int.natCast_add,Int.natCast_one];exact Ent.refl _ _))⟩
 ·have hg2:gap s q=true:=by simpa using hg1
  rw [gp_f hg2] at h3
  have hq1:wh s q0≠q:=by intro e;rw [e] at hg;rw [hg] at hg2;cases hg2
  refine ⟨⟨(q,out++[sub s (wh s q0) q]),by simp only;omega,h2,by simp only [List.length_append,List.length_singleton];omega, ?_⟩,by simp only;omega,(Ent.ren1 [2] (by decide) (by simp only [Yd];exact xb (y:=sub s (wh s q0) q) (fun _=>rfl) rfl (fun _ _=>rfl) rfl) (by simp [zj,Vg.look,SV.mapH,muL]))⟩
  simp only
  rw [List.append_assoc,←hd,hdd,←h3]
  rfl
theorem zk6 (s:Bs) (p:Int) (hp:s.length≤1048576):PF Tryz.prog 249 [.s s,.i .i64 p] (.tup [.fs 1 ((zhi s (en s (spot s p)) (spot s p)).map zao),.i .i64 (en s (spot s p):Nat)]):=PF.ofOwn (zd9 s p hp) rfl rfl (by simp only [vk,kv,zb9,ju,z7,and_true];exact ⟨⟨by omega,fun j hj=>⟨rfl,rfl⟩⟩,by rw [wy rfl]⟩)
noncomputable def jb:PE:=peR (fun (x:Bs×Int)=>match x with | (s,p)=>[.s s,.i .i64 p]) (fun (x:Bs×Int)=>match x with | (s,p)=>s.length≤1048576) (fun (x:Bs×Int)=>match x with | (s,p)=>.tup [.fs 1 ((zhi s (en s (spot s p)) (spot s p)).map zao),.i .i64 (en s (spot s p):Nat)])
theorem zp {s:Bs} {p:Int}:jb [.s s,.i .i64 p]=some (s.length≤1048576,.tup [.fs 1 ((zhi s (en s (spot s p)) (spot s p)).map zao),.i .i64 (en s (spot s p):Nat)]):=z6 (by rintro ⟨a0,a1⟩ ⟨b0,b1⟩ h;simp_all []) (s,p)
theorem zb5:PE1 Tryz.prog 249 jb:=yb (by rintro ⟨s,p⟩ hp;exact zk6 s p hp)
end Go.T
end
section
set_option linter.unusedVariables false
set_option linter.unusedSimpArgs false
set_option linter.unusedSectionVars false
set_option linter.unnecessarySimpa false
namespace Go.T
variable [Go.Vg.Glob] [Go.Vg.GlobTabs 0 1]
open Go.Proofs Go.Vg Go.RowKit Go.TT Go.Pl
set_option maxRecDepth 10000
set_option maxHeartbeats 4000000
theorem Rest_i (s:Bs) (p:Int) (hp:s.length≤1048576):PF Tryz.prog 210 [.s s,.i .i64 p] (.tup [.i .i64 ((rsA s (spot s p)).1:Nat),.b (rsA s (spot s p)).2]):=by
 refine ⟨rfl,rfl,FnK.of (cf:=zk Tryz.prog te [(100,zr),(106,yg),(107,zl),(184,qz),(209,y3),(187,qg)] 39 0 false (fun _=>false) (kp [(0,[0,1]),(1,[0,1]),(2,[0,1,6]),(3,[0,1,6,7]),(4,[0,6,34]),(5,[4,5]),(6,[4,5])]) [] []) (zf te_ok (l:=[(100,zr),(106,yg),(107,zl),(184,qz),(209,y3),(187,qg)]) (⟨yc,y7,zu,jt,wk,km,trivial⟩) zd) Tryz.func210 rfl rfl rfl (by simp [zk]) (by simp [zk]) (rs:=[.tmp 4,.tmp 5]) rfl 100000 ?_⟩
 simp only [↓XC,XV,XT,Yg,seval,TES,yd,zz,zc,wv,qm,y6]
 have h0:=ql s p
 generalize spot s p=q at *
 have hw:=xo s q h0
 simp only [zq s h0,zq s hw]
 have hC:(byt s (wh s q)==10||decide (byt s (wh s q)<0)||decide (byt s (wh s q)=35)&&(!decide ((wh s q:Int)=q)||decide ((la s q:Int)=q)))=decide (isB s (wh s q)=true∨(byt s (wh s q)=35∧(wh s q≠q∨la s q=q))):=by
  rw [Bool.eq_iff_iff]
  simp only [isB,Bool.or_eq_true,Bool.and_eq_true,decide_eq_true_eq,Bool.not_eq_true',decide_eq_false_iff_not,Int.natCast_inj,ne_eq]
 rw [hC]
 refine Chk.mk hp fun _=>Chk.mk hp fun _=>Chk.mk (fun h=>⟨⟨h,h⟩,hp⟩) fun _=>⟨fun h=>Chk.mk hp fun _=>?_,fun h=>?_⟩
 ·unfold rsA;rw [if_pos (of_decide_eq_true h)]
 ·unfold rsA;rw [if_neg (of_decide_eq_false h)]
noncomputable def wb:PE:=peR (fun (x:Bs×Int)=>match x with | (s,p)=>[.s s,.i .i64 p]) (fun (x:Bs×Int)=>match x with | (s,p)=>s.length≤1048576) (fun (x:Bs×Int)=>match x with | (s,p)=>.tup [.i .i64 ((rsA s (spot s p)).1:Nat),.b (rsA s (spot s p)).2])
theorem ym {s:Bs} {p:Int}:wb [.s s,.i .i64 p]=some (s.length≤1048576,.tup [.i .i64 ((rsA s (spot s p)).1:Nat),.b (rsA s (spot s p)).2]):=z6 (by rintro ⟨a0,a1⟩ ⟨b0,b1⟩ h;simp_all []) (s,p)
theorem jk:PE1 Tryz.prog 210 wb:=yb (by rintro ⟨s,p⟩ hp;exact Rest_i s p hp)
theorem Col_i (s:Bs) (p:Int) (hp:s.length≤1048576):PF Tryz.prog 248 [.s s,.i .i64 p] (.i .i64 (coA s (spot s p):Nat)):=by
 refine ⟨rfl,rfl,FnK.of (cf:=zk Tryz.prog te [(100,zr),(209,y3)] 12 0 false (fun _=>false) (kp [(0,[0,1]),(1,[4])]) [] []) (zf te_ok (l:=[(100,zr),(209,y3)]) (⟨yc,wk,trivial⟩) zd) Tryz.func248 rfl rfl rfl (by simp [zk]) (by simp [zk]) (rs:=[.tmp 4]) rfl 100000 ?_⟩
 simp only [↓XC,XV,XT,Yg,seval,TES,yd,qm]
 have h0:=ql s p
 have hl:=zo4 s (spot s p)
 exact Chk.mk hp fun _=>Chk.mk (by simp only [inR];omega) fun _=>by unfold coA;rw [Int.ofNat_sub hl]
noncomputable def va:PE:=peR (fun (x:Bs×Int)=>match x with | (s,p)=>[.s s,.i .i64 p]) (fun (x:Bs×Int)=>match x with | (s,p)=>s.length≤1048576) (fun (x:Bs×Int)=>match x with | (s,p)=>.i .i64 (coA s (spot s p):Nat))
theorem qt {s:Bs} {p:Int}:va [.s s,.i .i64 p]=some (s.length≤1048576,.i .i64 (coA s (spot s p):Nat)):=z6 (by rintro ⟨a0,a1⟩ ⟨b0,b1⟩ h;simp_all []) (s,p)
theorem u2:PE1 Tryz.prog 248 va:=yb (by rintro ⟨s,p⟩ hp;exact Col_i s p hp)
theorem isDash (s:Bs) (p:Int) (hp:s.length≤1048576∧0≤p∧p≤s.length):PF Tryz.prog 281 [.s s,.i .i64 p] (.b (zod s p.toNat)):=by
 refine ⟨rfl,rfl,FnK.of (cf:=zk Tryz.prog te [(107,zl),(108,qa)] 15 0 false (fun _=>false) (kp [(0,[0,1]),(1,[4])]) [] []) (zf te_ok (l:=[(107,zl),(108,qa)]) (⟨zu,wj,trivial⟩) zd) Tryz.func281 rfl rfl rfl (by simp [zk]) (by simp [zk]) (rs:=[.tmp 4]) rfl 100000 ?_⟩
 simp only [↓XC,XV,XT,Yg,seval,TES,zc,zt]
 have e1:spot s p=p.toNat:=by unfold spot;omega
 have e2:(p+1).toNat=p.toNat+1:=by omega
 rw [e1,e2]
 exact Chk.mk hp.1 fun _=>Chk.mk (fun _=>by simp only [inR];omega) fun _=>Chk.mk (fun h=>⟨⟨h,h⟩,hp.1,by omega⟩) fun _=>rfl
noncomputable def vd:PE:=peR (fun (x:Bs×Int)=>match x with | (s,p)=>[.s s,.i .i64 p]) (fun (x:Bs×Int)=>match x with | (s,p)=>s.length≤1048576∧0≤p∧p≤s.length) (fun (x:Bs×Int)=>match x with | (s,p)=>.b (zod s p.toNat))
theorem yp {s:Bs} {p:Int}:vd [.s s,.i .i64 p]=some (s.length≤1048576∧0≤p∧p≤s.length,.b (zod s p.toNat)):=z6 (by rintro ⟨a0,a1⟩ ⟨b0,b1⟩ h;simp_all []) (s,p)
theorem zax:PE1 Tryz.prog 281 vd:=yb (by rintro ⟨s,p⟩ hp;exact isDash s p hp)
theorem HeadAt_i (s:Bs) (p:Int) (hp:s.length≤1048576):PF Tryz.prog 344 [.s s,.i .i64 p] (.tup [.i .i64 (hdA s (spot s p)).1,.i .i64 (hdA s (spot s p)).2.1,.i .i64 ((hdA s (spot s p)).2.2.1:Nat),.i .i64 (hdA s (spot s p)).2.2.2]):=by
 refine ⟨rfl,rfl,FnK.of (cf:=zk Tryz.prog te [(100,zr),(107,zl),(147,qj),(210,wb)] 71 0 false (fun _=>false) (kp [(0,[0,1]),(1,[0,1]),(2,[0,1,8]),(3,[0,1,26]),(4,[4,5,6,7]),(5,[0,1,9,10,11]),(6,[0,9,10,11,12]),(7,[0,8,9,10,11,12]),(8,[9,10,13,14]),(9,[9,10,13,40]),(10,[4,5,6,7]),(11,[4,5,6,7]),(12,[0,8,9,10,11,12,45]),(13,[0,9,10,11,12]),(14,[0,8,9,10,11,12,54]),(15,[0,8,9,11,12]),(16,[0,8,9,10,11,12]),(17,[0,9,10,11,12,68]),(18,[0,9,10,11,12]),(19,[0,9,10,11,12])]) [] []) (zf te_ok (l:=[(100,zr),(107,zl),(147,qj),(210,wb)]) (⟨yc,zu,w8,jk,trivial⟩) zd) Tryz.func344 rfl rfl rfl (by simp [zk]) (by simp [zk]) (rs:=[.tmp 4,.tmp 5,.tmp 6,.tmp 7]) rfl 100000 ?_⟩
 simp only [↓XC,XV,XT,Yg,seval,TES,yd,zc,q7,ym]
 have h0:=ql s p
 generalize spot s p=q0 at *
 rw [zq s h0]
 refine Chk.mk hp fun _=>⟨fun h=>?_,fun h=>Chk.mk (by simp only [inR];omega) fun _=>?_⟩
 ·unfold hdA;rw [if_neg (by simp at h;omega)]
 have h':byt s q0=124∨byt s q0=62:=by simp at h;omega
 have hl:q0<s.length:=by
  rcases h' with h | h
  ·exact z2 h (by decide)
  ·exact z2 h (by decide)
 unfold hdA
 rw [if_pos h']
 refine yv.of (ι:={x:(Nat×Int)×Int×Bool // x.1.1≤s.length∧hdS s x.1.1 x.1.2 x.2.1 x.2.2=hdS s (q0+1) 0 0 false}) (fun x=>⟨[(0,.s s),(9,.i .i64 x.1.1.2),(10,.i .i64 x.1.2.1),(11,.i .i64 (if x.1.2.2=true then 1 else 0)),(12,.i .i64 (x.1.1.1:Nat))],[]⟩) (fun x=>s.length-x.1.1.1) ⟨((q0+1,0),0,false),by simp only;omega,rfl⟩ (Ent.refl _ _) ?_
 rintro ⟨⟨⟨q,dg⟩,ch,sg⟩,hq,hw⟩
 simp only [↓XC,XV,XT,Yg,seval,TES,zc,q7,ym]
 simp only at hq hw
 rw [zq s hq]
 have hA:(decide (49≤byt s q)&&decide (byt s q≤57)&&decide (dg=0))=decide ((49≤byt s q∧byt s q≤57)∧dg=0):=by rw [Bool.decide_and,Bool.decide_and]
 have hB:((decide (byt s q=43)||decide (byt s q=45))&&decide ((if sg=true then (1:Int) else 0)=0))=decide ((byt s q=43∨byt s q=45)∧sg=false):=by
  rw [Bool.decide_and,Bool.decide_or];cases sg<;>rfl
 rw [hA,hB]
 refine Chk.mk hp fun _=>⟨fun h1=>Chk.mk (by have:=za7 s q;simp only [inR];omega) fun _=>Chk.mk (by simp only [inR];omega) fun _=>?_,fun h1=>⟨fun h2=>Chk.mk (by simp only [inR];split<;>omega) fun _=>?_,fun h2=>Chk.mk hp fun _=>?_⟩⟩
 ·have h1':=of_decide_eq_true h1
  have hl2:q<s.length:=z2 (b:=byt s q) rfl (by omega)
  exact ⟨⟨((q+1,byt s q-48),ch,sg),by simp only;omega,by simp only;rw [←hdS_d h1'];exact hw⟩,by simp only;omega,(by first | exact Ent.refl _ _ | (simp only [Int.natCast_add,Int.natCast_one];exact Ent.refl _ _))⟩
 ·have h1':=of_decide_eq_false h1
  have h2':=of_decide_eq_true h2
  have hl2:q<s.length:=z2 (b:=byt s q) rfl (by omega)
  have hsg:=h2'.2
  subst hsg
  refine ⟨fun h3=>Chk.mk (by simp only [inR];omega) fun _=>?_,fun h3=>Chk.mk (by simp only [inR];omega) fun _=>?_⟩
  ·exact ⟨⟨((q+1,dg),1,true),by simp only;omega,by simp only;rw [←hw,hdS_c h1' h2',chv,if_pos h3]⟩,by simp only;omega,(by first | exact Ent.refl _ _ | (simp only [Int.natCast_add,Int.natCast_one];exact Ent.refl _ _))⟩
  ·exact ⟨⟨((q+1,dg),2,true),by simp only;omega,by simp only;rw [←hw,hdS_c h1' h2',chv,if_neg h3]⟩,by simp only;omega,(by first | exact Ent.refl _ _ | (simp only [Int.natCast_add,Int.natCast_one];exact Ent.refl _ _))⟩
 ·rw [←hw,hdS_r (of_decide_eq_false h1) (of_decide_eq_false h2)]
  refine ⟨fun h3=>?_,fun h3=>?_⟩
  ·rw [if_neg (by simpa using h3)]
  ·rw [if_pos (by simpa using h3)]
noncomputable def u1:PE:=peR (fun (x:Bs×Int)=>match x with | (s,p)=>[.s s,.i .i64 p]) (fun (x:Bs×Int)=>match x with | (s,p)=>s.length≤1048576) (fun (x:Bs×Int)=>match x with | (s,p)=>.tup [.i .i64 (hdA s (spot s p)).1,.i .i64 (hdA s (spot s p)).2.1,.i .i64 ((hdA s (spot s p)).2.2.1:Nat),.i .i64 (hdA s (spot s p)).2.2.2])
theorem zhh {s:Bs} {p:Int}:u1 [.s s,.i .i64 p]=some (s.length≤1048576,.tup [.i .i64 (hdA s (spot s p)).1,.i .i64 (hdA s (spot s p)).2.1,.i .i64 ((hdA s (spot s p)).2.2.1:Nat),.i .i64 (hdA s (spot s p)).2.2.2]):=z6 (by rintro ⟨a0,a1⟩ ⟨b0,b1⟩ h;simp_all []) (s,p)
theorem zhg:PE1 Tryz.prog 344 u1:=yb (by rintro ⟨s,p⟩ hp;exact HeadAt_i s p hp)
theorem ztv (s:Bs) (e:Int) (hp:s.length≤1048576∧0≤e∧e≤s.length):PF Tryz.prog 345 [.s s,.i .i64 e] (.i .i64 (bhL s e.toNat:Nat)):=by
 refine ⟨rfl,rfl,FnK.of (cf:=zk Tryz.prog te [] 10 0 false (fun _=>false) (kp [(0,[0,1]),(1,[4])]) [] []) (zf te_ok (l:=[]) (trivial) zd) Tryz.func345 rfl rfl rfl (by simp [zk]) (by simp [zk]) (rs:=[.tmp 4]) rfl 100000 ?_⟩
 simp only [↓XC,XV,XT,Yg,seval,TES]
 exact Chk.mk (by simp only [inR];omega) fun _=>by unfold bhL;congr 1;split<;>omega
noncomputable def kh:PE:=peR (fun (x:Bs×Int)=>match x with | (s,e)=>[.s s,.i .i64 e]) (fun (x:Bs×Int)=>match x with | (s,e)=>s.length≤1048576∧0≤e∧e≤s.length) (fun (x:Bs×Int)=>match x with | (s,e)=>.i .i64 (bhL s e.toNat:Nat))
theorem q5 {s:Bs} {e:Int}:kh [.s s,.i .i64 e]=some (s.length≤1048576∧0≤e∧e≤s.length,.i .i64 (bhL s e.toNat:Nat)):=z6 (by rintro ⟨a0,a1⟩ ⟨b0,b1⟩ h;simp_all []) (s,e)
theorem zae:PE1 Tryz.prog 345 kh:=yb (by rintro ⟨s,e⟩ hp;exact ztv s e hp)
theorem ztk (s:Bs) (a n:Int) (hp:s.length≤1048576∧0≤a∧a≤s.length):PF Tryz.prog 346 [.s s,.i .i64 a,.i .i64 n] (.tup [.i .i64 ((ltC s a.toNat n).1:Nat),.i .i64 ((ltC s a.toNat n).2:Nat)]):=by
 refine ⟨rfl,rfl,FnK.of (cf:=zk Tryz.prog te [(144,yj),(186,ve),(188,we),(187,qg),(345,kh)] 38 0 false (fun _=>false) (kp [(0,[0,1,2]),(1,[0,1,2,17]),(2,[0,1,2,21]),(3,[0,1,26]),(4,[6,7]),(5,[0,1,2]),(6,[6,7])]) [] []) (zf te_ok (l:=[(144,yj),(186,ve),(188,we),(187,qg),(345,kh)]) (⟨qd,za0,vh,km,zae,trivial⟩) zd) Tryz.func346 rfl rfl rfl (by simp [zk]) (by simp [zk]) (rs:=[.tmp 6,.tmp 7]) rfl 100000 ?_⟩
 simp only [↓XC,XV,XT,Yg,seval,TES,ze,wm,y8,y6,q5]
 obtain ⟨a,rfl⟩:∃ k:Nat,a=k:=⟨a.toNat,by omega⟩
 rw [Int.toNat_natCast]
 refine yv.of (ι:={q:Nat // q≤s.length∧ltC s q n=ltC s a n}) (fun x=>⟨[(0,.s s),(1,.i .i64 (x.1:Nat)),(2,.i .i64 n)],[]⟩) (fun x=>s.length-x.1) ⟨a,by omega,rfl⟩ (Ent.refl _ _) ?_
 rintro ⟨q,hq,hw⟩
 simp only [↓XC,XV,XT,Yg,seval,TES,ze,wm,y8,y6,q5]
 rw [zq s hq]
 have hb:=zgs s (en s q)
 have he:=zd3 s q hq
 have hA:(decide ((q:Int)<(s.length:Nat))&&decide (mkA s q=0))=decide (q<s.length∧mkA s q=0):=by rw [Bool.decide_and,decide_eq_decide.2 (Int.ofNat_lt)]
 rw [hA]
 refine Chk.mk (fun h=>⟨⟨h,h⟩,hp.1⟩) fun _=>⟨fun h1=>Chk.mk hp.1 fun _=>⟨fun h2=>Chk.mk hp.1 fun _=>⟨fun h3=>Chk.mk hp.1 fun _=>?_,fun h3=>?_⟩,fun h2=>Chk.mk hp.1 fun _=>Chk.mk ⟨hp.1,by omega,by omega⟩ fun _=>?_⟩,fun h1=>?_⟩
 ·rw [←hw,ltC_l (of_decide_eq_true h1) (by simpa using h2),if_pos h3]
 ·rw [←hw,ltC_l (of_decide_eq_true h1) (by simpa using h2),if_neg h3];rfl
 ·have h4:=zgt (of_decide_eq_true h1).1
  exact ⟨⟨bhL s (en s q),hb,by rw [←ltC_n (of_decide_eq_true h1) (by simpa using h2)];exact hw⟩,by simp only;omega,Ent.refl _ _⟩
 ·rw [←hw,ltC_e (of_decide_eq_false h1)];rfl
noncomputable def vn:PE:=peR (fun (x:Bs×Int×Int)=>match x with | (s,a,n)=>[.s s,.i .i64 a,.i .i64 n]) (fun (x:Bs×Int×Int)=>match x with | (s,a,n)=>s.length≤1048576∧0≤a∧a≤s.length) (fun (x:Bs×Int×Int)=>match x with | (s,a,n)=>.tup [.i .i64 ((ltC s a.toNat n).1:Nat),.i .i64 ((ltC s a.toNat n).2:Nat)])
theorem zet {s:Bs} {a n:Int}:vn [.s s,.i .i64 a,.i .i64 n]=some (s.length≤1048576∧0≤a∧a≤s.length,.tup [.i .i64 ((ltC s a.toNat n).1:Nat),.i .i64 ((ltC s a.toNat n).2:Nat)]):=z6 (by rintro ⟨a0,a1,a2⟩ ⟨b0,b1,b2⟩ h;simp_all []) (s,a,n)
theorem zes:PE1 Tryz.prog 346 vn:=yb (by rintro ⟨s,a,n⟩ hp;exact ztk s a n hp)
end Go.T
end
