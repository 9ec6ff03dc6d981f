/- Own text: part TBI. -/
import Derived.Test.YtgippllfnmdnpaaGreatDoorTBH
section
set_option linter.unusedVariables false
set_option linter.unusedSimpArgs false
set_option linter.unusedSectionVars false
set_option linter.unnecessarySimpa false
namespace Go.T
variable [Go.Vg.Glob] [Go.Vg.GlobTabs 0 1]
open Go.Proofs Go.Vg Go.RowKit Go.TT Go.Pl
set_option maxRecDepth 10000
set_option maxHeartbeats 4000000
theorem zg5 (s:Bs) (r:Rd) (fr:Bool) (la:Int) (st:Int) (t:Bs) (ha:Bool) (an tg:Bs) (pf:Int) (pe:Nat) (hp:r.ev.length≤16777216∧r.dn.length=r.ev.length∧r.bs≤r.ev.length):FnK Tryz.prog 284 1 [.ptr 0 0 0,.i .i64 st,.s t,.agg [.b ha,.s an,.s tg,.i .i64 pf,.i .i64 (pe:Nat)]] [some (.blk false [.s s,.i .i64 ((r).pos:Nat),.slc 1 0 (r).ev.length,.slc 2 0 (r).ev.length,.mp 3,.slc 4 0 (r).hd.length,.i .i64 ((r).dp:Nat),.i .i64 (r).cd,.i .i64 ((r).pl:Nat),.b fr,.i .i64 la]),some (.row false 8 (r).ev.length (zg evc evz (r).ev)),some (.row false 1 (r).ev.length (zg qy false (r).dn)),some (.mapS (nmI (r).ev (r).bs)),some (.row false 2 (r).hd.length (zg hdc hdz (r).hd))] (fun z c=>z=.tup []∧c=[some (.blk false [.s s,.i .i64 ((y5 r st t an tg).pos:Nat),.slc 1 0 (y5 r st t an tg).ev.length,.slc 2 0 (y5 r st t an tg).ev.length,.mp 3,.slc 4 0 (y5 r st t an tg).hd.length,.i .i64 ((y5 r st t an tg).dp:Nat),.i .i64 (y5 r st t an tg).cd,.i .i64 ((y5 r st t an tg).pl:Nat),.b fr,.i .i64 la]),some (.row false 8 (y5 r st t an tg).ev.length (zg evc evz (y5 r st t an tg).ev)),some (.row false 1 (y5 r st t an tg).ev.length (zg qy false (y5 r st t an tg).dn)),some (.mapS (nmI (y5 r st t an tg).ev (y5 r st t an tg).bs)),some (.row false 2 (y5 r st t an tg).hd.length (zg hdc hdz (y5 r st t an tg).hd))]):=by
 refine FnK.ofE (cf:=zk Tryz.prog te [] 17 1 false (fun _=>false) (kp [(0,[0,1,2,7]),(1,[])]) [] []) (zf te_ok (l:=[]) (trivial) zc) Tryz.func284 rfl rfl rfl (by simp [zk]) (by simp [zk]) (rs:=[]) rfl 100000 ?_
 simp only [↓XC,XV,XT,Yg,seval,TES,XRE,XR,XRH,Yh,evT]
 refine Wb (zi0 s r fr la 5 st false t an tg 0 0 hp) ?_
 simp only [↓XC,XV,XT,Yg,seval,TES,XRE,XR,XRH,Yh,XM]
 exact ⟨[0,1,2,3,4],by decide,by simp only [Yd];exact ⟨za (by simp [Yf]),zb fun _=>rfl,zb fun _=>rfl,zl,zb fun _=>rfl⟩,by simp only [↓XC,XV,XT,Yg,seval];try first | rfl | simp [Yf],by simp [zw,SO.ro],by simp⟩
theorem zwu (s:Bs) (r:Rd) (fr:Bool) (la:Int) (fl:Bool) (ha:Bool) (an tg:Bs) (pf:Int) (pe:Nat) (hp:s.length≤1048576∧r.cd=0∧r.pos≤s.length∧zv1 s r.pos=true∧(r.hd.length≤1048576∧∀ h∈r.hd,h.pre.length≤1048576)):FnK Tryz.prog 312 6 [.ptr 0 0 0,.ptr 5 0 0,.b fl] [some (.blk false [.s s,.i .i64 ((r).pos:Nat),.slc 1 0 (r).ev.length,.slc 2 0 (r).ev.length,.mp 3,.slc 4 0 (r).hd.length,.i .i64 ((r).dp:Nat),.i .i64 (r).cd,.i .i64 ((r).pl:Nat),.b fr,.i .i64 la]),some (.row false 8 (r).ev.length (zg evc evz (r).ev)),some (.row false 1 (r).ev.length (zg qy false (r).dn)),some (.mapS (nmI (r).ev (r).bs)),some (.row false 2 (r).hd.length (zg hdc hdz (r).hd)),some (.blk false [.b ((⟨ha,an,tg,pe⟩:Pp)).has,.s ((⟨ha,an,tg,pe⟩:Pp)).an,.s ((⟨ha,an,tg,pe⟩:Pp)).tg,.i .i64 pf,.i .i64 (((⟨ha,an,tg,pe⟩:Pp)).en:Nat)])] (fun z c=>z=.b (decide ((pr1 s fl r (⟨ha,an,tg,pe⟩:Pp)).cd=0))∧c=[some (.blk false [.s s,.i .i64 ((pr1 s fl r (⟨ha,an,tg,pe⟩:Pp)).pos:Nat),.slc 1 0 (pr1 s fl r (⟨ha,an,tg,pe⟩:Pp)).ev.length,.slc 2 0 (pr1 s fl r (⟨ha,an,tg,pe⟩:Pp)).ev.length,.mp 3,.slc 4 0 (pr1 s fl r (⟨ha,an,tg,pe⟩:Pp)).hd.length,.i .i64 ((pr1 s fl r (⟨ha,an,tg,pe⟩:Pp)).dp:Nat),.i .i64 (pr1 s fl r (⟨ha,an,tg,pe⟩:Pp)).cd,.i .i64 ((pr1 s fl r (⟨ha,an,tg,pe⟩:Pp)).pl:Nat),.b fr,.i .i64 la]),some (.row false 8 (pr1 s fl r (⟨ha,an,tg,pe⟩:Pp)).ev.length (zg evc evz (pr1 s fl r (⟨ha,an,tg,pe⟩:Pp)).ev)),some (.row false 1 (pr1 s fl r (⟨ha,an,tg,pe⟩:Pp)).ev.length (zg qy false (pr1 s fl r (⟨ha,an,tg,pe⟩:Pp)).dn)),some (.mapS (nmI (pr1 s fl r (⟨ha,an,tg,pe⟩:Pp)).ev (pr1 s fl r (⟨ha,an,tg,pe⟩:Pp)).bs)),some (.row false 2 (pr1 s fl r (⟨ha,an,tg,pe⟩:Pp)).hd.length (zg hdc hdz (pr1 s fl r (⟨ha,an,tg,pe⟩:Pp)).hd)),some (.blk false [.b ((prA s r.hd fl r.pos (⟨ha,an,tg,pe⟩:Pp)).1).has,.s ((prA s r.hd fl r.pos (⟨ha,an,tg,pe⟩:Pp)).1).an,.s ((prA s r.hd fl r.pos (⟨ha,an,tg,pe⟩:Pp)).1).tg,.i .i64 pf,.i .i64 (((prA s r.hd fl r.pos (⟨ha,an,tg,pe⟩:Pp)).1).en:Nat)])]):=by
 refine FnK.ofE (cf:=zk Tryz.prog te [(190,k9),(341,zco),(108,qn),(107,zm),(183,wu),(342,u2),(106,yp),(143,jv)] 183 6 false (fun _=>false) (kp [(0,[0,1,2]),(1,[0,1,2]),(2,[0,1,2,25]),(3,[0,1,2,8,9,10]),(4,[0,1,2,8,9,47]),(5,[6]),(6,[0,1,2,7]),(7,[0,1,2,11,12,13]),(8,[0,1,2,11,12,102]),(9,[6]),(10,[0,1,2,12,14,15]),(11,[0,1,2,12,14,119]),(12,[6]),(13,[0,1,2,7]),(14,[0,1,2,7,150]),(15,[6]),(16,[0,1,2,7]),(17,[0,2,7]),(18,[0,2,7]),(19,[0,7,173]),(20,[]),(21,[6])]) [] [(2,[],[],.q1 0 (.q1 1 (.q1 2 (.q1 4 (.q1 5 (.q1 6 (.q0 3 [3] (.q0 7 [7] (.q1 8 (.q1 9 (.fin))))))))))),(3,[],[],.q1 0 (.q1 1 (.q1 2 (.q1 4 (.q1 5 (.q1 6 (.q0 3 [3] (.q0 7 [7] (.alt 8 (.q1 9 (.q1 10 (.q1 11 (.q1 12 (.q1 13 (.q1 14 (.q1 15 (.fin)))))))) (.fin)))))))))),(7,[],[],.q1 0 (.q1 1 (.q1 2 (.q1 4 (.q1 5 (.q1 6 (.q0 3 [3] (.q0 7 [7] (.alt 8 (.q1 9 (.q1 10 (.q1 11 (.q1 12 (.q1 13 (.q1 14 (.q1 15 (.fin)))))))) (.fin))))))))))]) (zf te_ok (l:=[(190,k9),(341,zco),(108,qn),(107,zm),(183,wu),(342,u2),(106,yp),(143,jv)]) (⟨zad,zl2,w5,z6,j5,zhg,qi,un,trivial⟩) zc) Tryz.func312 rfl rfl rfl (by simp [zk]) (by simp [zk]) (rs:=[.tmp 6]) rfl 100000 ?_
 simp only [↓XC,XV,XT,Yg,seval,TES,zae,zl3,zz,zd,yb,zb3,yc,yd,XRE,XR,XRH,Yh]
 obtain ⟨hs,hcd,hpos,hpr,hh1,hh2⟩:=hp
 have hpl:r.pos<s.length:=zy3 hpr
 rw [zu s hpos,←kv hpl]
 refine ⟨by decide +kernel,Chk.mk (by omega) fun _=>⟨fun h38=>⟨by decide +kernel,Chk.mk hs fun _=>?_⟩,fun h33=>?_⟩⟩
 ·by_cases hA:(nmA s r.pos).2.2=true∧an=[]
  ·have hpc:=za9 hA.1
   have eN:spot s (nmA s r.pos).2.1=(nmA s r.pos).2.1.toNat:=by unfold spot;omega
   have eZ:((nmA s r.pos).2.1.toNat:Int)=(nmA s r.pos).2.1:=by omega
   rw [eN]
   refine ⟨fun hb=>by simp [hA.1,hA.2] at hb,fun _=>Chk.mk ⟨hs,by omega⟩ fun _=>Chk.mk (fun h=>⟨⟨h,h⟩,hs⟩) fun _=>⟨fun hc=>?_,fun hc=>?_⟩⟩
   ·have hB:¬bhd s fl (nmA s r.pos).2.1.toNat=true:=by unfold bhd;rw [zz5 hc];simp
    have e:prA s r.hd fl r.pos (⟨ha,an,tg,pe⟩:Pp)=(⟨ha,(nmA s r.pos).1,tg,pe⟩,7):=by unfold prA;rw [if_pos h38,if_pos hA,if_neg hB]
    refine Wm (wg s r fr la 7 r.pos hcd) ?_
    simp only [↓XC,XV,XT,Yg,seval,TES,XRE,XR,XRH,Yh,XM]
    simp only [pr1,e,Int.reduceEq,reduceIte,atR,flt,decide_eq_true hcd,decide_false]
    exact ⟨[0,1,2,3,4,5],by decide,by simp only [Yd];exact ⟨za (by simp [Yf,Yh]),zb fun _=>rfl,zb fun _=>rfl,zl,zb fun _=>rfl,za (by simp [Yf];try omega)⟩,by simp only [↓XC,XV,XT,Yg,seval];try first | rfl | simp [Yf],by simp [zw,SO.ro],by simp⟩
   ·have hB:bhd s fl (nmA s r.pos).2.1.toNat=true:=by unfold bhd;exact zz4 hc
    have e:prA s r.hd fl r.pos (⟨ha,an,tg,pe⟩:Pp)=(⟨true,(nmA s r.pos).1,tg,(nmA s r.pos).2.1.toNat⟩,0):=by unfold prA;rw [if_pos h38,if_pos hA,if_pos hB]
    simp only [pr1,e,Int.reduceEq,reduceIte,atR,flt,decide_eq_true hcd,decide_false]
    refine Chk.mk hs fun _=>⟨fun hf=>Chk.mk hs fun _=>?_,fun hf=>?_⟩
    ·subst hf
     rw [show nxP s true _=gpE s _ from rfl]
     exact ⟨[0,1,2,3,4,5],by decide,by simp only [Yd];exact ⟨za (by simp [Yf,Yh]),zb fun _=>rfl,zb fun _=>rfl,zl,zb fun _=>rfl,za (by simp [Yf];try omega)⟩,by simp only [↓XC,XV,XT,Yg,seval];try first | rfl | simp [Yf],by simp [zw,SO.ro],by simp⟩
    ·subst hf
     rw [show nxP s false _=wh s _ from rfl]
     exact ⟨[0,1,2,3,4,5],by decide,by simp only [Yd];exact ⟨za (by simp [Yf,Yh]),zb fun _=>rfl,zb fun _=>rfl,zl,zb fun _=>rfl,za (by simp [Yf];try omega)⟩,by simp only [↓XC,XV,XT,Yg,seval];try first | rfl | simp [Yf],by simp [zw,SO.ro],by simp⟩
  ·have e:prA s r.hd fl r.pos (⟨ha,an,tg,pe⟩:Pp)=(⟨ha,an,tg,pe⟩,7):=by unfold prA;rw [if_pos h38,if_neg hA]
   refine ⟨fun hb=>?_,fun hb=>absurd (by simpa using hb) hA⟩
   refine Wm (wg s r fr la 7 r.pos hcd) ?_
   simp only [↓XC,XV,XT,Yg,seval,TES,XRE,XR,XRH,Yh,XM]
   simp only [pr1,e,Int.reduceEq,reduceIte,atR,flt,decide_eq_true hcd,decide_false]
   exact ⟨[0,1,2,3,4,5],by decide,by simp only [Yd];exact ⟨za (by simp [Yf,Yh]),zb fun _=>rfl,zb fun _=>rfl,zl,zb fun _=>rfl,za (by simp [Yf];try omega)⟩,by simp only [↓XC,XV,XT,Yg,seval];try first | rfl | simp [Yf],by simp [zw,SO.ro],by simp⟩
 ·have h33':=isPr_33 hpr h33
  have hnn:=tgA_nn s r.pos
  refine ⟨by decide +kernel,Chk.mk hs fun _=>Chk.mk (fun h=>⟨⟨h,h⟩,hs,hnn⟩) fun _=>Chk.mk (fun h=>⟨⟨h,h⟩,hs⟩) fun _=>?_⟩
  by_cases hA:(tgA s r.pos).2.2=true∧tg=[]∧bhd s fl (tgA s r.pos).2.1.toNat=true
  ·have hpc:=zg3 hA.1
   have hlt:=zwj s r.pos
   have eN:spot s (tgA s r.pos).2.1=(tgA s r.pos).2.1.toNat:=by unfold spot;omega
   have eZ:((tgA s r.pos).2.1.toNat:Int)=(tgA s r.pos).2.1:=by omega
   have hB:=hA.2.2
   unfold bhd at hB
   rw [eN]
   refine ⟨fun hb=>?_,fun _=>?_⟩
   ·simp only [hA.1,hA.2.1,Bool.not_true,decide_true,Bool.false_or] at hb
    rw [zz5 hb] at hB;cases hB
   rw [w8 rfl]
   simp only [↓XC,XV,XT,Yg,seval,TES,zb3,zz,zd,yb,yc,yd,XRE,XR,XRH,Yh]
   refine Chk.mk ⟨Nat.le_refl _,by omega,hh1,hh2⟩ fun _=>⟨fun hc=>?_,fun hc=>?_⟩
   ·have e:prA s r.hd fl r.pos (⟨ha,an,tg,pe⟩:Pp)=(⟨ha,an,tg,pe⟩,15):=by unfold prA;rw [if_neg h33,if_pos hA,if_neg (by simpa using hc)]
    refine Wm (wg s r fr la 15 r.pos hcd) ?_
    simp only [↓XC,XV,XT,Yg,seval,TES,XRE,XR,XRH,Yh,XM]
    simp only [pr1,e,Int.reduceEq,reduceIte,atR,flt,decide_eq_true hcd,decide_false]
    exact ⟨[0,1,2,3,4,5],by decide,by simp only [Yd];exact ⟨za (by simp [Yf,Yh]),zb fun _=>rfl,zb fun _=>rfl,zl,zb fun _=>rfl,za (by simp [Yf];try omega)⟩,by simp only [↓XC,XV,XT,Yg,seval];try first | rfl | simp [Yf],by simp [zw,SO.ro],by simp⟩
   ·have e:prA s r.hd fl r.pos (⟨ha,an,tg,pe⟩:Pp)=(⟨true,an,(trA (tgA s r.pos).1 r.hd).1,(tgA s r.pos).2.1.toNat⟩,0):=by unfold prA;rw [if_neg h33,if_pos hA,if_pos (by simpa using hc)]
    simp only [eN]
    refine Chk.mk ⟨hs,hnn⟩ fun _=>Chk.mk (fun h=>⟨⟨h,h⟩,hs⟩) fun _=>⟨fun hb=>(by rw [zz5 hb] at hB;cases hB),fun _=>?_⟩
    simp only [pr1,e,Int.reduceEq,reduceIte,atR,flt,decide_eq_true hcd,decide_false]
    refine Chk.mk hs fun _=>⟨fun hf=>Chk.mk hs fun _=>?_,fun hf=>?_⟩
    ·subst hf
     rw [show nxP s true _=gpE s _ from rfl]
     exact ⟨[0,1,2,3,4,5],by decide,by simp only [Yd];exact ⟨za (by simp [Yf,Yh]),zb fun _=>rfl,zb fun _=>rfl,zl,zb fun _=>rfl,za (by simp [Yf];try omega)⟩,by simp only [↓XC,XV,XT,Yg,seval];try first | rfl | simp [Yf],by simp [zw,SO.ro],by simp⟩
    ·subst hf
     rw [show nxP s false _=wh s _ from rfl]
     exact ⟨[0,1,2,3,4,5],by decide,by simp only [Yd];exact ⟨za (by simp [Yf,Yh]),zb fun _=>rfl,zb fun _=>rfl,zl,zb fun _=>rfl,za (by simp [Yf];try omega)⟩,by simp only [↓XC,XV,XT,Yg,seval];try first | rfl | simp [Yf],by simp [zw,SO.ro],by simp⟩
  ·have e:prA s r.hd fl r.pos (⟨ha,an,tg,pe⟩:Pp)=(⟨ha,an,tg,pe⟩,7):=by unfold prA;rw [if_neg h33,if_neg hA]
   refine ⟨fun hb=>?_,fun hb=>absurd ?_ hA⟩
   ·refine Wm (wg s r fr la 7 r.pos hcd) ?_
    simp only [↓XC,XV,XT,Yg,seval,TES,XRE,XR,XRH,Yh,XM]
    simp only [pr1,e,Int.reduceEq,reduceIte,atR,flt,decide_eq_true hcd,decide_false]
    exact ⟨[0,1,2,3,4,5],by decide,by simp only [Yd];exact ⟨za (by simp [Yf,Yh]),zb fun _=>rfl,zb fun _=>rfl,zl,zb fun _=>rfl,za (by simp [Yf];try omega)⟩,by simp only [↓XC,XV,XT,Yg,seval];try first | rfl | simp [Yf],by simp [zw,SO.ro],by simp⟩
   ·simp only [Bool.or_eq_false_iff,Bool.not_eq_false',decide_eq_true_eq] at hb
    have hpc:=zg3 hb.1.1
    have eN:spot s (tgA s r.pos).2.1=(tgA s r.pos).2.1.toNat:=by unfold spot;omega
    rw [eN] at hb
    exact ⟨hb.1.1,hb.1.2,by unfold bhd;exact zz4 hb.2⟩
end Go.T
end
section
set_option linter.unusedVariables false
set_option linter.unusedSimpArgs false
set_option linter.unusedSectionVars false
set_option linter.unnecessarySimpa false
namespace Go.T
variable [Go.Vg.Glob] [Go.Vg.GlobTabs 0 1]
open Go.Proofs Go.Vg Go.RowKit Go.TT Go.Pl
set_option maxRecDepth 10000
set_option maxHeartbeats 4000000
theorem znn (s:Bs) (r:Rd) (fr:Bool) (la:Int) (fl:Bool) (hp:s.length≤1048576∧r.cd=0∧r.pos≤s.length∧(r.hd.length≤1048576∧∀ h∈r.hd,h.pre.length≤1048576)):FnK Tryz.prog 278 5 [.ptr 0 0 0,.b fl] [some (.blk false [.s s,.i .i64 ((r).pos:Nat),.slc 1 0 (r).ev.length,.slc 2 0 (r).ev.length,.mp 3,.slc 4 0 (r).hd.length,.i .i64 ((r).dp:Nat),.i .i64 (r).cd,.i .i64 ((r).pl:Nat),.b fr,.i .i64 la]),some (.row false 8 (r).ev.length (zg evc evz (r).ev)),some (.row false 1 (r).ev.length (zg qy false (r).dn)),some (.mapS (nmI (r).ev (r).bs)),some (.row false 2 (r).hd.length (zg hdc hdz (r).hd))] (fun z c=>z=.tup [.agg [.b (prP s fl r).has,.s (prP s fl r).an,.s (prP s fl r).tg,.i .i64 (r.pos:Nat),.i .i64 ((prP s fl r).en:Nat)],.b (decide ((prR s fl r).cd=0))]∧c=[some (.blk false [.s s,.i .i64 ((prR s fl r).pos:Nat),.slc 1 0 (prR s fl r).ev.length,.slc 2 0 (prR s fl r).ev.length,.mp 3,.slc 4 0 (prR s fl r).hd.length,.i .i64 ((prR s fl r).dp:Nat),.i .i64 (prR s fl r).cd,.i .i64 ((prR s fl r).pl:Nat),.b fr,.i .i64 la]),some (.row false 8 (prR s fl r).ev.length (zg evc evz (prR s fl r).ev)),some (.row false 1 (prR s fl r).ev.length (zg qy false (prR s fl r).dn)),some (.mapS (nmI (prR s fl r).ev (prR s fl r).bs)),some (.row false 2 (prR s fl r).hd.length (zg hdc hdz (prR s fl r).hd))]):=by
 refine FnK.ofE (cf:=zk Tryz.prog te [(107,zm)] 38 5 false (fun _=>false) (kp [(0,[0,1,4]),(1,[0,1,4,6]),(2,[0,1,4,6,7]),(3,[0,1,4,6,31]),(4,[4,5]),(5,[0,1,4,6,36]),(6,[4,5])]) [] [(1,[],[],.q1 0 (.q1 1 (.q1 2 (.q1 4 (.q1 5 (.q1 6 (.q0 3 [3] (.q0 7 [7] (.q1 8 (.alt 9 (.alt 10 (.fin) (.fin)) (.fin))))))))))),(2,[],[],.q1 0 (.q1 1 (.q1 2 (.q1 4 (.q1 5 (.q1 6 (.q0 3 [3] (.q0 7 [7] (.alt 8 (.q1 9 (.fin)) (.fin))))))))))]) (zf te_ok (l:=[(107,zm)]) (⟨z6,trivial⟩) zc) Tryz.func278 rfl rfl rfl (by simp [zk]) (by simp [zk]) (rs:=[.cell 4 221,.tmp 5]) rfl 100000 ?_
 simp only [↓XC,XV,XT,Yg,seval,TES,zd,XRE,XR,XRH,Yh]
 obtain ⟨hs,hcd,hpos,hh1,hh2⟩:=hp
 refine ⟨by decide +kernel, ?_⟩
 refine yv.of (ι:={x:Nat×Pp // x.1≤s.length∧prs s r.hd fl x.1 x.2=prs s r.hd fl r.pos (ppz r.pos)}) (fun x=>⟨[(0,.ptr 0 0 0),(1,.b fl),(4,.ptr 5 0 0),(6,.ptr 6 0 0)],[some (.blk false [.s s,.i .i64 (x.1.1:Nat),.slc 1 0 (r).ev.length,.slc 2 0 (r).ev.length,.mp 3,.slc 4 0 (r).hd.length,.i .i64 ((r).dp:Nat),.i .i64 (r).cd,.i .i64 ((r).pl:Nat),.b fr,.i .i64 la]),some (.row false 8 (r).ev.length (zg evc evz (r).ev)),some (.row false 1 (r).ev.length (zg qy false (r).dn)),some (.mapS (nmI (r).ev (r).bs)),some (.row false 2 (r).hd.length (zg hdc hdz (r).hd)),some (.blk false [.b false,.s [],.s [],.i .i64 0,.i .i64 0]),some (.blk false [.b x.1.2.has,.s x.1.2.an,.s x.1.2.tg,.i .i64 (r.pos:Nat),.i .i64 (x.1.2.en:Nat)])]⟩) (fun x=>s.length-x.1.1) ⟨(r.pos,ppz r.pos),hpos,rfl⟩ (Ent.refl _ _) ?_
 rintro ⟨⟨x,p⟩,h1,h2⟩
 simp only [↓XC,XV,XT,Yg,seval,TES,zd,XRE,XR,XRH,Yh]
 simp only at h1 h2
 rw [zu s h1]
 have hI:(!decide (byt s x=38)&&!decide (byt s x=33))=!zv1 s x:=by unfold zv1;rw [Bool.decide_or,Bool.not_or]
 rw [hI]
 refine ⟨by decide +kernel,Chk.mk hs fun _=>⟨fun h=>?_,fun h=>?_⟩⟩
 ·have hz:prs s r.hd fl r.pos (ppz r.pos)=(x,p,0):=by rw [←h2,prs,dif_neg (by rintro ⟨h9,_⟩;rw [h9] at h;cases h),if_neg (by intro h9;rw [h9] at h;cases h)]
  simp only [prR,prP,hz,atR,reduceIte,decide_eq_true hcd]
  exact Wf
 ·have hpr:zv1 s x=true:=by simpa using h
  obtain ⟨ha,an,tg,pe⟩:=p
  refine zj.mut (zwu s (atR r x) fr la fl ha an tg (r.pos:Nat) pe ⟨hs,hcd,h1,hpr,hh1,hh2⟩) rfl [0,1,2,3,4,6] (by simp [Yf]) (by simp only [Ye];exact ⟨by omega,za (by simp [Yf,Yh]),by omega,zb fun _=>rfl,by omega,zb fun _=>rfl,by omega,zl,by omega,zb fun _=>rfl,by omega,za (by simp [Yf])⟩) (by decide) ?_
  simp only [↓XC,XV,XT,Yg,seval,TES,XRE,XR,XRH,Yh,XM]
  by_cases hA:(prA s r.hd fl x (⟨ha,an,tg,pe⟩:Pp)).2=0
  ·simp only [pr1,hA,reduceIte,atR,decide_eq_true hcd,Bool.not_true,Bool.false_eq_true,false_implies,true_and,forall_const]
   have hpc:=zdw h1 hA
   have hnp:=zd2 (s:=s) (fl:=fl) hpc.2.1
   refine ⟨⟨(nxP s fl (prA s r.hd fl x (⟨ha,an,tg,pe⟩:Pp)).1.en,(prA s r.hd fl x (⟨ha,an,tg,pe⟩:Pp)).1),hnp.2, ?_⟩,by simp only;have:=zy3 hpr;omega, ?_⟩
   ·simp only
    rw [←h2]
    conv=>rhs;rw [prs,dif_pos ⟨hpr,hA⟩]
   ·exact (Ent.ren1 [0,1,2,3,4,5,6] (by decide) (by simp only [Yd];exact ⟨za (by simp [Yf,Yh]),zb fun _=>rfl,zb fun _=>rfl,zl,zb fun _=>rfl,za (by simp [Yf]),za (by simp [Yf])⟩) (by simp [zi,Vg.look,SV.mapH,muL]))
  ·simp only [pr1,if_neg hA,reduceIte,atR,flt,decide_eq_false hA,Bool.not_false,Bool.true_eq_false,false_implies,and_true,forall_const]
   have hz:prs s r.hd fl r.pos (ppz r.pos)=(x,(prA s r.hd fl x (⟨ha,an,tg,pe⟩:Pp)).1,(prA s r.hd fl x (⟨ha,an,tg,pe⟩:Pp)).2):=by rw [←h2,prs,dif_neg (fun h9=>hA h9.2),if_pos hpr]
   simp only [prR,prP,hz,atR,flt,if_neg hA,decide_eq_false hA]
   exact Wf
theorem ropen (s:Bs) (r:Rd) (fr:Bool) (la:Int) (k st:Int) (ha:Bool) (an tg:Bs) (pf:Int) (pe:Nat) (sg:Nat) (hp:r.ev.length≤16777216∧r.dn.length=r.ev.length∧r.bs≤r.ev.length∧r.cd=0∧(k=3∨k=4)∧r.dp≤40):FnK Tryz.prog 313 1 [.ptr 0 0 0,.i .i64 k,.i .i64 st,.agg [.b ha,.s an,.s tg,.i .i64 pf,.i .i64 (pe:Nat)],.i .i64 (sg:Nat)] [some (.blk false [.s s,.i .i64 ((r).pos:Nat),.slc 1 0 (r).ev.length,.slc 2 0 (r).ev.length,.mp 3,.slc 4 0 (r).hd.length,.i .i64 ((r).dp:Nat),.i .i64 (r).cd,.i .i64 ((r).pl:Nat),.b fr,.i .i64 la]),some (.row false 8 (r).ev.length (zg evc evz (r).ev)),some (.row false 1 (r).ev.length (zg qy false (r).dn)),some (.mapS (nmI (r).ev (r).bs)),some (.row false 2 (r).hd.length (zg hdc hdz (r).hd))] (fun z c=>z=.tup [.i .i64 (if 40≤r.dp then 0 else r.ev.length:Nat),.b (decide ((opR r k st (⟨ha,an,tg,pe⟩:Pp) sg).cd=0))]∧c=[some (.blk false [.s s,.i .i64 ((opR r k st (⟨ha,an,tg,pe⟩:Pp) sg).pos:Nat),.slc 1 0 (opR r k st (⟨ha,an,tg,pe⟩:Pp) sg).ev.length,.slc 2 0 (opR r k st (⟨ha,an,tg,pe⟩:Pp) sg).ev.length,.mp 3,.slc 4 0 (opR r k st (⟨ha,an,tg,pe⟩:Pp) sg).hd.length,.i .i64 ((opR r k st (⟨ha,an,tg,pe⟩:Pp) sg).dp:Nat),.i .i64 (opR r k st (⟨ha,an,tg,pe⟩:Pp) sg).cd,.i .i64 ((opR r k st (⟨ha,an,tg,pe⟩:Pp) sg).pl:Nat),.b fr,.i .i64 la]),some (.row false 8 (opR r k st (⟨ha,an,tg,pe⟩:Pp) sg).ev.length (zg evc evz (opR r k st (⟨ha,an,tg,pe⟩:Pp) sg).ev)),some (.row false 1 (opR r k st (⟨ha,an,tg,pe⟩:Pp) sg).ev.length (zg qy false (opR r k st (⟨ha,an,tg,pe⟩:Pp) sg).dn)),some (.mapS (nmI (opR r k st (⟨ha,an,tg,pe⟩:Pp) sg).ev (opR r k st (⟨ha,an,tg,pe⟩:Pp) sg).bs)),some (.row false 2 (opR r k st (⟨ha,an,tg,pe⟩:Pp) sg).hd.length (zg hdc hdz (opR r k st (⟨ha,an,tg,pe⟩:Pp) sg).hd))]):=by
 refine FnK.ofE (cf:=zk Tryz.prog te [] 36 1 false (fun _=>false) (kp [(0,[0,1,2,4,8]),(1,[0,1,2,4,8,16]),(2,[10,11]),(3,[0,1,2,8]),(4,[10,11])]) [] []) (zf te_ok (l:=[]) (trivial) zc) Tryz.func313 rfl rfl rfl (by simp [zk]) (by simp [zk]) (rs:=[.tmp 10,.tmp 11]) rfl 100000 ?_
 simp only [↓XC,XV,XT,Yg,seval,TES,XRE,XR,XRH,Yh]
 have hcd:=hp.2.2.2.1
 have hk:(!decide (k=3)&&!decide (k=4))=false:=by rcases hp.2.2.2.2.1 with h | h<;>rw [h]<;>rfl
 refine ⟨fun h=>?_,fun h=>Chk.mk (by simp only [inR];omega) fun _=>?_⟩
 ·have e:opR r k st (⟨ha,an,tg,pe⟩:Pp) sg=flt r 12 sg:=by unfold opR;rw [if_pos (by omega)]
  refine Wm (wg s r fr la 12 sg hcd) ?_
  simp only [↓XC,XV,XT,Yg,seval,TES,XRE,XR,XRH,Yh,XM]
  simp only [e,flt,if_pos (show 40≤r.dp by omega),Int.reduceEq,decide_false]
  exact Wf
 ·have e:opR r k st (⟨ha,an,tg,pe⟩:Pp) sg={ zn r (evO k st an tg) false with dp:=r.dp+1 }:=by unfold opR;rw [if_neg (by omega)]
  refine Wb (zi0 s { r with dp:=r.dp+1 } fr la k st false [] an tg 0 0 ⟨hp.1,hp.2.1,hp.2.2.1⟩) ?_
  simp only [↓XC,XV,XT,Yg,seval,TES,XRE,XR,XRH,Yh,XM]
  simp only [e,zn,evO,if_neg (show ¬40≤r.dp by omega),hk,decide_eq_true hcd,List.length_append,List.length_cons,List.length_nil,Nat.zero_add]
  exact Wf
theorem rshut (s:Bs) (r:Rd) (fr:Bool) (la:Int) (k:Nat) (hp:r.ev.length≤16777216∧r.dn.length=r.ev.length∧r.bs≤r.ev.length∧k<r.ev.length∧0<r.dp∧r.dp≤40):FnK Tryz.prog 343 1 [.ptr 0 0 0,.i .i64 (k:Nat)] [some (.blk false [.s s,.i .i64 ((r).pos:Nat),.slc 1 0 (r).ev.length,.slc 2 0 (r).ev.length,.mp 3,.slc 4 0 (r).hd.length,.i .i64 ((r).dp:Nat),.i .i64 (r).cd,.i .i64 ((r).pl:Nat),.b fr,.i .i64 la]),some (.row false 8 (r).ev.length (zg evc evz (r).ev)),some (.row false 1 (r).ev.length (zg qy false (r).dn)),some (.mapS (nmI (r).ev (r).bs)),some (.row false 2 (r).hd.length (zg hdc hdz (r).hd))] (fun z c=>z=.tup []∧c=[some (.blk false [.s s,.i .i64 ((shR r k).pos:Nat),.slc 1 0 (shR r k).ev.length,.slc 2 0 (shR r k).ev.length,.mp 3,.slc 4 0 (shR r k).hd.length,.i .i64 ((shR r k).dp:Nat),.i .i64 (shR r k).cd,.i .i64 ((shR r k).pl:Nat),.b fr,.i .i64 la]),some (.row false 8 (shR r k).ev.length (zg evc evz (shR r k).ev)),some (.row false 1 (shR r k).ev.length (zg qy false (shR r k).dn)),some (.mapS (nmI (shR r k).ev (shR r k).bs)),some (.row false 2 (shR r k).hd.length (zg hdc hdz (shR r k).hd))]):=by
 refine FnK.ofE (cf:=zk Tryz.prog te [] 20 1 false (fun _=>false) (kp [(0,[0,1]),(1,[0,1]),(2,[])]) [] []) (zf te_ok (l:=[]) (trivial) zc) Tryz.func343 rfl rfl rfl (by simp [zk]) (by simp [zk]) (rs:=[]) rfl 100000 ?_
 simp only [↓XC,XV,XT,Yg,seval,TES,XRE,XR,XRH,Yh]
 refine Chk.mk (by simp only [inR];omega) fun _=>?_
 rw [show (r.dp:Int)-1=((r.dp-1:Nat):Int) by omega]
 refine Wb (zi0 s { r with dp:=r.dp-1 } fr la 7 0 false [] [] [] 0 0 ⟨hp.1,hp.2.1,hp.2.2.1⟩) ?_
 simp only [↓XC,XV,XT,Yg,seval,TES,XRE,XR,XRH,Yh,XM]
 refine Chk.mk (by omega) fun _=>Chk.mk (by omega) fun _=>?_
 simp only [shR,show (!decide ((7:Int)=3)&&!decide ((7:Int)=4))=true from rfl,List.length_append,List.length_cons,List.length_nil,Nat.zero_add]
 exact ⟨[0,1,2,3,4],by decide,by simp only [Yd];exact ⟨za (by simp [Yf]),zb fun _=>rfl,zh fun j hj=>by (simp only [zg,qy,zh9 _ _ _ _ _ (show k<(r.dn++[true]).length by simp;omega)];split<;>rfl),zl,zb fun _=>rfl⟩,by simp only [↓XC,XV,XT,Yg,seval];try first | rfl | simp [Yf],by simp [zw,SO.ro],by simp⟩
theorem zsq (s:Bs) (r:Rd) (fr:Bool) (la:Int) (ha:Bool) (an tg:Bs) (pf:Int) (pe:Nat) (hp:s.length≤1048576∧r.ev.length≤16777216∧r.dn.length=r.ev.length∧r.bs≤r.ev.length∧r.cd=0∧r.pos≤s.length):FnK Tryz.prog 319 1 [.ptr 0 0 0,.agg [.b ha,.s an,.s tg,.i .i64 pf,.i .i64 (pe:Nat)]] [some (.blk false [.s s,.i .i64 ((r).pos:Nat),.slc 1 0 (r).ev.length,.slc 2 0 (r).ev.length,.mp 3,.slc 4 0 (r).hd.length,.i .i64 ((r).dp:Nat),.i .i64 (r).cd,.i .i64 ((r).pl:Nat),.b fr,.i .i64 la]),some (.row false 8 (r).ev.length (zg evc evz (r).ev)),some (.row false 1 (r).ev.length (zg qy false (r).dn)),some (.mapS (nmI (r).ev (r).bs)),some (.row false 2 (r).hd.length (zg hdc hdz (r).hd))] (fun z c=>z=.b (decide ((alR s r ha).cd=0))∧c=[some (.blk false [.s s,.i .i64 ((alR s r ha).pos:Nat),.slc 1 0 (alR s r ha).ev.length,.slc 2 0 (alR s r ha).ev.length,.mp 3,.slc 4 0 (alR s r ha).hd.length,.i .i64 ((alR s r ha).dp:Nat),.i .i64 (alR s r ha).cd,.i .i64 ((alR s r ha).pl:Nat),.b fr,.i .i64 la]),some (.row false 8 (alR s r ha).ev.length (zg evc evz (alR s r ha).ev)),some (.row false 1 (alR s r ha).ev.length (zg qy false (alR s r ha).dn)),some (.mapS (nmI (alR s r ha).ev (alR s r ha).bs)),some (.row false 2 (alR s r ha).hd.length (zg hdc hdz (alR s r ha).hd))]):=by
 refine FnK.ofE (cf:=zk Tryz.prog te [(190,k9)] 76 1 false (fun _=>false) (kp [(0,[0,3]),(1,[0,3,5,6,7]),(2,[0,3,5,6,23]),(3,[4]),(4,[0,5,6,32]),(5,[4]),(6,[0,5,6,8,9]),(7,[0,5,6,61]),(8,[4]),(9,[0,6]),(10,[]),(11,[4])]) [] [(1,[],[],.q1 0 (.q1 1 (.q1 2 (.q1 4 (.q1 5 (.q1 6 (.q0 3 [3] (.q0 7 [7] (.alt 8 (.q1 9 (.q1 10 (.q1 11 (.q1 12 (.q1 13 (.q1 14 (.q1 15 (.fin)))))))) (.fin))))))))))]) (zf te_ok (l:=[(190,k9)]) (⟨zad,trivial⟩) zc) Tryz.func319 rfl rfl rfl (by simp [zk]) (by simp [zk]) (rs:=[.tmp 4]) rfl 100000 ?_
 simp only [↓XC,XV,XT,Yg,seval,TES,zae,XRE,XR,XRH,Yh]
 obtain ⟨hs,ho1,ho2,ho3,hcd,hpos⟩:=hp
 rw [zu s hpos]
 have hlk:=look_al (l:=r.ev) (d:=r.dn) (b:=r.bs) (name:=(nmA s r.pos).1)
 refine ⟨by decide +kernel,Chk.mk hs fun _=>⟨fun h1=>?_,fun h1=>⟨fun h2=>?_,fun h2=>?_⟩⟩⟩
 ·have e:alR s r ha=flt r 7 r.pos:=by unfold alR;rw [if_pos (by simpa using h1)]
  rw [e]
  refine Wm (wg s r fr la 7 r.pos hcd) ?_
  simp only [↓XC,XV,XT,Yg,seval,TES,XRE,XR,XRH,Yh,XM]
  exact Wf
 ·have e:alR s r ha=flt r 16 r.pos:=by unfold alR;rw [if_neg (by simpa using h1),if_pos h2]
  rw [e]
  refine Wm (wg s r fr la 16 r.pos hcd) ?_
  simp only [↓XC,XV,XT,Yg,seval,TES,XRE,XR,XRH,Yh,XM]
  exact Wf
 ·have h1':¬(nmA s r.pos).2.2=false:=by simpa using h1
  have hpc:=za9 (by simpa using h1')
  have eZ:((nmA s r.pos).2.1.toNat:Int)=(nmA s r.pos).2.1:=by omega
  subst h2
  have F14:alD r.ev r.dn r.bs (nmA s r.pos).1=false→alR s r false=flt r 14 r.pos:=fun h=>by unfold alR;rw [if_neg h1',if_neg (by simp),if_neg (by rw [h];simp)]
  rcases hL:lookS (nmI r.ev r.bs) (nmA s r.pos).1 with _ | k
  ·have e:=F14 (hlk.1 hL)
   refine Chk.mk (fun h=>by simp at h) fun _=>Chk.mk (fun h=>by simp at h) fun _=>⟨fun _=>?_,fun h=>by simp at h⟩
   rw [e]
   refine Wm (wg s r fr la 14 r.pos hcd) ?_
   simp only [↓XC,XV,XT,Yg,seval,TES,XRE,XR,XRH,Yh,XM]
   exact Wf
  ·obtain ⟨k0,k1,k2⟩:=hlk.2 k hL
   simp only [Option.getD_some,Option.isSome_some,Bool.not_true,Bool.false_or,←k2]
   refine Chk.mk (fun _=>⟨k0,k1⟩) fun _=>Chk.mk (fun _=>by omega) fun _=>⟨fun h=>?_,fun h=>?_⟩
   ·rw [F14 (by simpa using h)]
    refine Wm (wg s r fr la 14 r.pos hcd) ?_
    simp only [↓XC,XV,XT,Yg,seval,TES,XRE,XR,XRH,Yh,XM]
    exact Wf
   ·have e:alR s r false=atR (zn r (evA (nmA s r.pos).1) true) (nmA s r.pos).2.1.toNat:=by unfold alR;rw [if_neg h1',if_neg (by simp),if_pos (by simpa using h)]
    rw [e]
    refine Wb (zi0 s r fr la 6 0 false (nmA s r.pos).1 [] [] 0 0 ⟨ho1,ho2,ho3⟩) ?_
    simp only [↓XC,XV,XT,Yg,seval,TES,XRE,XR,XRH,Yh,XM]
    simp only [decide_eq_true hcd,atR,zn,evA,eZ,List.length_append,List.length_cons,List.length_nil,Nat.zero_add]
    exact Wf (by simp only [↓XC,XV,XT,Yg,seval];try simp [Yf,hcd])
theorem zsd (s:Bs) (r:Rd) (fr:Bool) (la:Int) (ha:Bool) (an tg:Bs) (pf:Int) (pe:Nat) (hp:s.length≤1048576∧r.ev.length≤16777216∧r.dn.length=r.ev.length∧r.bs≤r.ev.length∧r.cd=0∧r.pos<s.length):FnK Tryz.prog 320 1 [.ptr 0 0 0,.agg [.b ha,.s an,.s tg,.i .i64 pf,.i .i64 (pe:Nat)]] [some (.blk false [.s s,.i .i64 ((r).pos:Nat),.slc 1 0 (r).ev.length,.slc 2 0 (r).ev.length,.mp 3,.slc 4 0 (r).hd.length,.i .i64 ((r).dp:Nat),.i .i64 (r).cd,.i .i64 ((r).pl:Nat),.b fr,.i .i64 la]),some (.row false 8 (r).ev.length (zg evc evz (r).ev)),some (.row false 1 (r).ev.length (zg qy false (r).dn)),some (.mapS (nmI (r).ev (r).bs)),some (.row false 2 (r).hd.length (zg hdc hdz (r).hd))] (fun z c=>z=.b (decide ((qtR s r (⟨ha,an,tg,pe⟩:Pp)).cd=0))∧c=[some (.blk false [.s s,.i .i64 ((qtR s r (⟨ha,an,tg,pe⟩:Pp)).pos:Nat),.slc 1 0 (qtR s r (⟨ha,an,tg,pe⟩:Pp)).ev.length,.slc 2 0 (qtR s r (⟨ha,an,tg,pe⟩:Pp)).ev.length,.mp 3,.slc 4 0 (qtR s r (⟨ha,an,tg,pe⟩:Pp)).hd.length,.i .i64 ((qtR s r (⟨ha,an,tg,pe⟩:Pp)).dp:Nat),.i .i64 (qtR s r (⟨ha,an,tg,pe⟩:Pp)).cd,.i .i64 ((qtR s r (⟨ha,an,tg,pe⟩:Pp)).pl:Nat),.b fr,.i .i64 la]),some (.row false 8 (qtR s r (⟨ha,an,tg,pe⟩:Pp)).ev.length (zg evc evz (qtR s r (⟨ha,an,tg,pe⟩:Pp)).ev)),some (.row false 1 (qtR s r (⟨ha,an,tg,pe⟩:Pp)).ev.length (zg qy false (qtR s r (⟨ha,an,tg,pe⟩:Pp)).dn)),some (.mapS (nmI (qtR s r (⟨ha,an,tg,pe⟩:Pp)).ev (qtR s r (⟨ha,an,tg,pe⟩:Pp)).bs)),some (.row false 2 (qtR s r (⟨ha,an,tg,pe⟩:Pp)).hd.length (zg hdc hdz (qtR s r (⟨ha,an,tg,pe⟩:Pp)).hd))]):=by
 refine FnK.ofE (cf:=zk Tryz.prog te [(192,jf),(193,jj)] 60 1 false (fun _=>false) (kp [(0,[0,3]),(1,[0,3,5]),(2,[0,3,5,6,7,8]),(3,[0,3,5,6,7,8,31]),(4,[0,3,5]),(5,[0,3,5,6,7,8]),(6,[0,3,5,6,7,8,46]),(7,[4]),(8,[0,7]),(9,[]),(10,[4])]) [] [(2,[],[],.q1 0 (.q1 1 (.q1 2 (.q1 4 (.q1 5 (.q1 6 (.q0 3 [3] (.q0 7 [7] (.alt 8 (.q1 9 (.q1 10 (.q1 11 (.q1 12 (.q1 13 (.q1 14 (.q1 15 (.fin)))))))) (.fin)))))))))),(3,[],[],.q1 0 (.q1 1 (.q1 2 (.q1 4 (.q1 5 (.q1 6 (.q0 3 [3] (.q0 7 [7] (.q1 8 (.q1 9 (.fin))))))))))),(5,[],[],.q1 0 (.q1 1 (.q1 2 (.q1 4 (.q1 5 (.q1 6 (.q0 3 [3] (.q0 7 [7] (.alt 8 (.q1 9 (.q1 10 (.q1 11 (.q1 12 (.q1 13 (.q1 14 (.q1 15 (.fin)))))))) (.fin))))))))))]) (zf te_ok (l:=[(192,jf),(193,jj)]) (⟨zbm,zbq,trivial⟩) zc) Tryz.func320 rfl rfl rfl (by simp [zk]) (by simp [zk]) (rs:=[.tmp 4]) rfl 100000 ?_
 simp only [↓XC,XV,XT,Yg,seval,TES,zbn,zbr,XRE,XR,XRH,Yh]
 obtain ⟨hs,ho1,ho2,ho3,hcd,hpos⟩:=hp
 rw [zu s (Nat.le_of_lt hpos),←kv hpos]
 refine ⟨by decide +kernel,Chk.mk hs fun _=>⟨by decide +kernel,Chk.mk (by omega) fun _=>⟨fun h34=>⟨by decide +kernel,Chk.mk hs fun _=>?_⟩,fun h34=>?_⟩⟩⟩
 ·have hq:qtA s r.pos=dbA s r.pos:=by unfold qtA;rw [if_pos h34]
  refine ⟨fun h1=>?_,fun h1=>?_⟩
  ·have e:qtR s r (⟨ha,an,tg,pe⟩:Pp)=flt r (dbA s r.pos).2.2 (dbA s r.pos).2.1:=by unfold qtR;rw [hq,if_pos (by simpa using h1)]
   have hne:¬(dbA s r.pos).2.2=0:=by simpa using h1
   rw [e]
   refine Wm (wg s r fr la (dbA s r.pos).2.2 (dbA s r.pos).2.1 hcd) ?_
   simp only [↓XC,XV,XT,Yg,seval,TES,XRE,XR,XRH,Yh,XM]
   exact Wf (by simp only [↓XC,XV,XT,Yg,seval];try simp [Yf,hne])
  ·have e:qtR s r (⟨ha,an,tg,pe⟩:Pp)=atR (y5 r 3 (dbA s r.pos).1 an tg) (dbA s r.pos).2.1:=by unfold qtR;rw [hq,if_neg (by simpa using h1),if_pos h34]
   rw [e]
   refine Wb (zg5 s r fr la 3 (dbA s r.pos).1 ha an tg pf pe ⟨ho1,ho2,ho3⟩) ?_
   simp only [↓XC,XV,XT,Yg,seval,TES,XRE,XR,XRH,Yh,XM]
   try simp only [atR,y5,zn,List.length_append,List.length_cons,List.length_nil,Nat.zero_add]
   exact Wf (by simp only [↓XC,XV,XT,Yg,seval];try simp [Yf,hcd])
 ·have hq:qtA s r.pos=sgA s r.pos:=by unfold qtA;rw [if_neg h34]
  refine ⟨fun h1=>?_,fun h1=>?_⟩
  ·have e:qtR s r (⟨ha,an,tg,pe⟩:Pp)=flt r (sgA s r.pos).2.2 (sgA s r.pos).2.1:=by unfold qtR;rw [hq,if_pos (by simpa using h1)]
   have hne:¬(sgA s r.pos).2.2=0:=by simpa using h1
   rw [e]
   refine Wm (wg s r fr la (sgA s r.pos).2.2 (sgA s r.pos).2.1 hcd) ?_
   simp only [↓XC,XV,XT,Yg,seval,TES,XRE,XR,XRH,Yh,XM]
   exact Wf (by simp only [↓XC,XV,XT,Yg,seval];try simp [Yf,hne])
  ·have e:qtR s r (⟨ha,an,tg,pe⟩:Pp)=atR (y5 r 2 (sgA s r.pos).1 an tg) (sgA s r.pos).2.1:=by unfold qtR;rw [hq,if_neg (by simpa using h1),if_neg h34]
   rw [e]
   refine Wb (zg5 s r fr la 2 (sgA s r.pos).1 ha an tg pf pe ⟨ho1,ho2,ho3⟩) ?_
   simp only [↓XC,XV,XT,Yg,seval,TES,XRE,XR,XRH,Yh,XM]
   try simp only [atR,y5,zn,List.length_append,List.length_cons,List.length_nil,Nat.zero_add]
   exact Wf (by simp only [↓XC,XV,XT,Yg,seval];try simp [Yf,hcd])
theorem zwv (s:Bs) (r:Rd) (fr:Bool) (la:Int) (ha:Bool) (an tg:Bs) (pf:Int) (pe:Nat) (n:Int) (fl:Bool) (hp:s.length≤1048576∧r.ev.length≤16777216∧r.dn.length=r.ev.length∧r.bs≤r.ev.length∧r.pos≤s.length):FnK Tryz.prog 321 1 [.ptr 0 0 0,.agg [.b ha,.s an,.s tg,.i .i64 pf,.i .i64 (pe:Nat)],.i .i64 n,.b fl] [some (.blk false [.s s,.i .i64 ((r).pos:Nat),.slc 1 0 (r).ev.length,.slc 2 0 (r).ev.length,.mp 3,.slc 4 0 (r).hd.length,.i .i64 ((r).dp:Nat),.i .i64 (r).cd,.i .i64 ((r).pl:Nat),.b fr,.i .i64 la]),some (.row false 8 (r).ev.length (zg evc evz (r).ev)),some (.row false 1 (r).ev.length (zg qy false (r).dn)),some (.mapS (nmI (r).ev (r).bs)),some (.row false 2 (r).hd.length (zg hdc hdz (r).hd))] (fun z c=>z=.b true∧c=[some (.blk false [.s s,.i .i64 ((plR s r (⟨ha,an,tg,pe⟩:Pp) n fl).pos:Nat),.slc 1 0 (plR s r (⟨ha,an,tg,pe⟩:Pp) n fl).ev.length,.slc 2 0 (plR s r (⟨ha,an,tg,pe⟩:Pp) n fl).ev.length,.mp 3,.slc 4 0 (plR s r (⟨ha,an,tg,pe⟩:Pp) n fl).hd.length,.i .i64 ((plR s r (⟨ha,an,tg,pe⟩:Pp) n fl).dp:Nat),.i .i64 (plR s r (⟨ha,an,tg,pe⟩:Pp) n fl).cd,.i .i64 ((plR s r (⟨ha,an,tg,pe⟩:Pp) n fl).pl:Nat),.b fr,.i .i64 la]),some (.row false 8 (plR s r (⟨ha,an,tg,pe⟩:Pp) n fl).ev.length (zg evc evz (plR s r (⟨ha,an,tg,pe⟩:Pp) n fl).ev)),some (.row false 1 (plR s r (⟨ha,an,tg,pe⟩:Pp) n fl).ev.length (zg qy false (plR s r (⟨ha,an,tg,pe⟩:Pp) n fl).dn)),some (.mapS (nmI (plR s r (⟨ha,an,tg,pe⟩:Pp) n fl).ev (plR s r (⟨ha,an,tg,pe⟩:Pp) n fl).bs)),some (.row false 2 (plR s r (⟨ha,an,tg,pe⟩:Pp) n fl).hd.length (zg hdc hdz (plR s r (⟨ha,an,tg,pe⟩:Pp) n fl).hd))]):=by
 refine FnK.ofE (cf:=zk Tryz.prog te [(31,u4)] 35 1 false (fun _=>false) (kp [(0,[0,2,3,5]),(1,[0,5,9,10]),(2,[0,10]),(3,[]),(4,[8])]) [] [(1,[],[],.q1 0 (.q1 1 (.q1 2 (.q1 4 (.q1 5 (.q1 6 (.q1 8 (.q1 9 (.q0 3 [3] (.q0 7 [7] (.alt 10 (.q1 11 (.q1 12 (.q1 13 (.q1 14 (.q1 15 (.q1 16 (.q1 17 (.fin)))))))) (.fin))))))))))))]) (zf te_ok (l:=[(31,u4)]) (⟨zhi,trivial⟩) zc) Tryz.func321 rfl rfl rfl (by simp [zk]) (by simp [zk]) (rs:=[.tmp 8]) rfl 100000 ?_
 simp only [↓XC,XV,XT,Yg,seval,TES,zhj,XRE,XR,XRH,Yh]
 obtain ⟨hs,ho1,ho2,ho3,hpos⟩:=hp
 rw [zu s hpos]
 refine ⟨by decide +kernel,Chk.mk hs fun _=>?_⟩
 refine Wb (zg5 s r fr la 1 (ptA s r.pos n fl).1 ha an tg pf pe ⟨ho1,ho2,ho3⟩) ?_
 simp only [↓XC,XV,XT,Yg,seval,TES,XRE,XR,XRH,Yh,XM]
 simp only [plR,atR,y5,zn,List.length_append,List.length_cons,List.length_nil,Nat.zero_add]
 exact Wf
end Go.T
end
