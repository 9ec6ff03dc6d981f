/- Own text: part RBI. -/
import Derived.Test.YtgippllfnmdnpaaGreatDoorRBE
section
set_option linter.unusedVariables false
set_option linter.unusedSimpArgs false
set_option linter.unusedSectionVars false
set_option linter.unnecessarySimpa false
namespace Go.T
variable [Go.Vg.Glob] [Go.Vg.GlobTabs 0 1]
open Go.Proofs Go.Vg Go.RowKit Go.TT Go.Pl
set_option maxRecDepth 10000
set_option maxHeartbeats 4000000
theorem qr (s:Bs) (r:Rd) (fr:Bool) (la:Int) (cc:Int) (p:Nat) (hp:r.cd=0):FnK Tryz.prog 211 5 [.ptr 0 0 0,.i .i64 cc,.i .i64 (p:Nat)] [some (.blk false [.s s,.i .i64 ((r).pos:Nat),.slc 1 0 (r).ev.length,.slc 2 0 (r).ev.length,.mp 3,.slc 4 0 (r).hd.length,.i .i64 ((r).dp:Nat),.i .i64 (r).cd,.i .i64 ((r).pl:Nat),.b fr,.i .i64 la]),some (.row false 8 (r).ev.length (zg evc evz (r).ev)),some (.row false 1 (r).ev.length (zg qf false (r).dn)),some (.mapS (nmI (r).ev (r).bs)),some (.row false 2 (r).hd.length (zg hdc hdz (r).hd))] (fun z c=>z=.b false∧c=[some (.blk false [.s s,.i .i64 ((flt r cc p).pos:Nat),.slc 1 0 (flt r cc p).ev.length,.slc 2 0 (flt r cc p).ev.length,.mp 3,.slc 4 0 (flt r cc p).hd.length,.i .i64 ((flt r cc p).dp:Nat),.i .i64 (flt r cc p).cd,.i .i64 ((flt r cc p).pl:Nat),.b fr,.i .i64 la]),some (.row false 8 (flt r cc p).ev.length (zg evc evz (flt r cc p).ev)),some (.row false 1 (flt r cc p).ev.length (zg qf false (flt r cc p).dn)),some (.mapS (nmI (flt r cc p).ev (flt r cc p).bs)),some (.row false 2 (flt r cc p).hd.length (zg hdc hdz (flt r cc p).hd))]):=by
 refine FnK.ofE (cf:=zk Tryz.prog te [] 20 5 false (fun _=>false) (kp [(0,[0,1,2]),(1,[0,1,2,11]),(2,[]),(3,[6])]) [] []) (zf te_ok (l:=[]) (trivial) zd) Tryz.func211 rfl rfl rfl (by simp [zk]) (by simp [zk]) (rs:=[.tmp 6]) rfl 100000 ?_
 simp only [↓XC,XV,XT,Yg,seval,TES,XRE,XR,XRH,Yh]
 exact ⟨fun _=>⟨[0,1,2,3,4],by decide,by simp only [Yd];exact ⟨zb (by simp [Yf,Yh]),za fun _=>rfl,za fun _=>rfl,zi,za fun _=>rfl⟩,by simp only [↓XC,XV,XT,Yg,seval];try first | rfl | simp [Yf],by simp [ye,SO.ro],by simp⟩,fun h=>absurd hp h⟩
theorem rgoes (s:Bs) (r:Rd) (fr:Bool) (la:Int) (hp:s.length≤1048576∧r.cd=0∧r.pos≤s.length):FnK Tryz.prog 361 5 [.ptr 0 0 0] [some (.blk false [.s s,.i .i64 ((r).pos:Nat),.slc 1 0 (r).ev.length,.slc 2 0 (r).ev.length,.mp 3,.slc 4 0 (r).hd.length,.i .i64 ((r).dp:Nat),.i .i64 (r).cd,.i .i64 ((r).pl:Nat),.b fr,.i .i64 la]),some (.row false 8 (r).ev.length (zg evc evz (r).ev)),some (.row false 1 (r).ev.length (zg qf false (r).dn)),some (.mapS (nmI (r).ev (r).bs)),some (.row false 2 (r).hd.length (zg hdc hdz (r).hd))] (fun z c=>z=.b (decide ((ky s r).cd=0))∧c=[some (.blk false [.s s,.i .i64 ((ky s r).pos:Nat),.slc 1 0 (ky s r).ev.length,.slc 2 0 (ky s r).ev.length,.mp 3,.slc 4 0 (ky s r).hd.length,.i .i64 ((ky s r).dp:Nat),.i .i64 (ky s r).cd,.i .i64 ((ky s r).pl:Nat),.b fr,.i .i64 la]),some (.row false 8 (ky s r).ev.length (zg evc evz (ky s r).ev)),some (.row false 1 (ky s r).ev.length (zg qf false (ky s r).dn)),some (.mapS (nmI (ky s r).ev (ky s r).bs)),some (.row false 2 (ky s r).hd.length (zg hdc hdz (ky s r).hd))]):=by
 refine FnK.ofE (cf:=zk Tryz.prog te [(144,yj)] 37 5 false (fun _=>false) (kp [(0,[0]),(1,[0,3]),(2,[2]),(3,[0,20]),(4,[2]),(5,[2])]) [] [(1,[],[],.q1 0 (.q1 1 (.q1 2 (.q1 4 (.q1 5 (.q1 6 (.q0 3 [3] (.q0 7 [7] (.q1 8 (.q1 9 (.q1 10 (.fin)))))))))))),(3,[],[],.q1 0 (.q1 1 (.q1 2 (.q1 4 (.q1 5 (.q1 6 (.q0 3 [3] (.q0 7 [7] (.alt 8 (.q1 9 (.q1 10 (.fin))) (.fin))))))))))]) (zf te_ok (l:=[(144,yj)]) (⟨qd,trivial⟩) zd) Tryz.func361 rfl rfl rfl (by simp [zk]) (by simp [zk]) (rs:=[.tmp 2]) rfl 100000 ?_
 simp only [↓XC,XV,XT,Yg,seval,TES,ze,XRE,XR,XRH,Yh]
 rw [zq s hp.2.2]
 refine ⟨by decide +kernel,fun h=>?_,fun h=>⟨by decide +kernel,Chk.mk hp.1 fun _=>⟨fun h2=>?_,fun h2=>?_⟩⟩⟩
 ·have e:ky s r=flt r 3 r.pos:=by unfold ky;rw [if_pos (by omega)]
  rw [e]
  refine Wm (qr s r fr la 3 r.pos hp.2.1) ?_
  simp only [↓XC,XV,XT,Yg,seval,TES,XRE,XR,XRH,Yh,XM]
  exact Wf
 ·have e:ky s r=flt r 4 r.pos:=by unfold ky;rw [if_neg (by omega),if_pos (by simpa using h2)]
  rw [e]
  refine Wm (qr s r fr la 4 r.pos hp.2.1) ?_
  simp only [↓XC,XV,XT,Yg,seval,TES,XRE,XR,XRH,Yh,XM]
  exact Wf
 ·have e:ky s r=r:=by unfold ky;rw [if_neg (by omega),if_neg (by simpa using h2)]
  rw [e,decide_eq_true hp.2.1]
  exact Wf
theorem rgap (s:Bs) (r:Rd) (fr:Bool) (la:Int) (hp:s.length≤1048576∧r.cd=0∧r.pos≤s.length):FnK Tryz.prog 355 5 [.ptr 0 0 0] [some (.blk false [.s s,.i .i64 ((r).pos:Nat),.slc 1 0 (r).ev.length,.slc 2 0 (r).ev.length,.mp 3,.slc 4 0 (r).hd.length,.i .i64 ((r).dp:Nat),.i .i64 (r).cd,.i .i64 ((r).pl:Nat),.b fr,.i .i64 la]),some (.row false 8 (r).ev.length (zg evc evz (r).ev)),some (.row false 1 (r).ev.length (zg qf false (r).dn)),some (.mapS (nmI (r).ev (r).bs)),some (.row false 2 (r).hd.length (zg hdc hdz (r).hd))] (fun z c=>z=.b (decide ((yo s r).cd=0))∧c=[some (.blk false [.s s,.i .i64 ((yo s r).pos:Nat),.slc 1 0 (yo s r).ev.length,.slc 2 0 (yo s r).ev.length,.mp 3,.slc 4 0 (yo s r).hd.length,.i .i64 ((yo s r).dp:Nat),.i .i64 (yo s r).cd,.i .i64 ((yo s r).pl:Nat),.b fr,.i .i64 la]),some (.row false 8 (yo s r).ev.length (zg evc evz (yo s r).ev)),some (.row false 1 (yo s r).ev.length (zg qf false (yo s r).dn)),some (.mapS (nmI (yo s r).ev (yo s r).bs)),some (.row false 2 (yo s r).hd.length (zg hdc hdz (yo s r).hd))]):=by
 refine FnK.ofE (cf:=zk Tryz.prog te [(143,ja)] 17 5 false (fun _=>false) (kp [(0,[0]),(1,[0]),(2,[2])]) [] [(1,[12],[0],.q1 0 (.q1 1 (.q1 2 (.q1 3 (.q1 5 (.q1 6 (.q1 7 (.q0 4 [4,9,10,11,12] (.q0 8 [8,9,10,11,12] (.alt 9 (.q1 10 (.q1 11 (.sw (.alt 12 (.fin) (.fin))))) (.fin)))))))))))]) (zf te_ok (l:=[(143,ja)]) (⟨xh,trivial⟩) zd) Tryz.func355 rfl rfl rfl (by simp [zk]) (by simp [zk]) (rs:=[.tmp 2]) rfl 100000 ?_
 simp only [↓XC,XV,XT,Yg,seval,TES,z1,XRE,XR,XRH,Yh]
 rw [zq s hp.2.2]
 have hg:=wn s r.pos hp.2.2
 refine ⟨by decide +kernel,Chk.mk hp.1 fun _=>?_⟩
 rw [show yo s r=ky s (atR r (gpE s r.pos)) from rfl]
 refine Wm (rgoes s (atR r (gpE s r.pos)) fr la ⟨hp.1,hp.2.1,hg⟩) ?_
 simp only [↓XC,XV,XT,Yg,seval,TES,XRE,XR,XRH,Yh,XM]
 exact Wf
theorem rcomma (s:Bs) (r:Rd) (fr:Bool) (la:Int) (b:UInt8) (hp:s.length≤1048576∧r.cd=0∧r.pos<s.length):FnK Tryz.prog 357 5 [.ptr 0 0 0,.i .u8 (b.toNat:Nat)] [some (.blk false [.s s,.i .i64 ((r).pos:Nat),.slc 1 0 (r).ev.length,.slc 2 0 (r).ev.length,.mp 3,.slc 4 0 (r).hd.length,.i .i64 ((r).dp:Nat),.i .i64 (r).cd,.i .i64 ((r).pl:Nat),.b fr,.i .i64 la]),some (.row false 8 (r).ev.length (zg evc evz (r).ev)),some (.row false 1 (r).ev.length (zg qf false (r).dn)),some (.mapS (nmI (r).ev (r).bs)),some (.row false 2 (r).hd.length (zg hdc hdz (r).hd))] (fun z c=>z=.b (decide ((cmR s r b.toNat).cd=0))∧c=[some (.blk false [.s s,.i .i64 ((cmR s r b.toNat).pos:Nat),.slc 1 0 (cmR s r b.toNat).ev.length,.slc 2 0 (cmR s r b.toNat).ev.length,.mp 3,.slc 4 0 (cmR s r b.toNat).hd.length,.i .i64 ((cmR s r b.toNat).dp:Nat),.i .i64 (cmR s r b.toNat).cd,.i .i64 ((cmR s r b.toNat).pl:Nat),.b fr,.i .i64 la]),some (.row false 8 (cmR s r b.toNat).ev.length (zg evc evz (cmR s r b.toNat).ev)),some (.row false 1 (cmR s r b.toNat).ev.length (zg qf false (cmR s r b.toNat).dn)),some (.mapS (nmI (cmR s r b.toNat).ev (cmR s r b.toNat).bs)),some (.row false 2 (cmR s r b.toNat).hd.length (zg hdc hdz (cmR s r b.toNat).hd))]):=by
 refine FnK.ofE (cf:=zk Tryz.prog te [] 32 5 false (fun _=>false) (kp [(0,[0,1]),(1,[0,1,13]),(2,[4]),(3,[0,1,13,20]),(4,[]),(5,[0,29]),(6,[4])]) [] [(1,[],[],.q1 0 (.q1 1 (.q1 2 (.q1 4 (.q1 5 (.q1 6 (.q0 3 [3] (.q0 7 [7] (.q1 8 (.fin))))))))))]) (zf te_ok (l:=[]) (trivial) zd) Tryz.func357 rfl rfl rfl (by simp [zk]) (by simp [zk]) (rs:=[.tmp 4]) rfl 100000 ?_
 simp only [↓XC,XV,XT,Yg,seval,TES,XRE,XR,XRH,Yh]
 rw [←kw hp.2.2]
 refine ⟨by decide +kernel,Chk.mk (by omega) fun _=>⟨fun h=>Chk.mk (by simp only [inR];omega) fun _=>?_,fun h=>⟨fun h2=>?_,fun h2=>?_⟩⟩⟩
 ·have e:cmR s r b.toNat=atR r (r.pos+1):=by unfold cmR;rw [if_pos h]
  rw [e,decide_eq_true (show (atR r (r.pos+1)).cd=0 from hp.2.1)]
  exact Wf
 ·have e:cmR s r b.toNat=r:=by unfold cmR;rw [if_neg h,if_pos h2]
  rw [e,decide_eq_true hp.2.1]
  exact Wf
 ·have e:cmR s r b.toNat=flt r 11 r.pos:=by unfold cmR;rw [if_neg h,if_neg h2]
  rw [e]
  refine Wm (qr s r fr la 11 r.pos hp.2.1) ?_
  simp only [↓XC,XV,XT,Yg,seval,TES,XRE,XR,XRH,Yh,XM]
  exact Wf
theorem zg5 (s:Bs) (r:Rd) (fr:Bool) (la:Int) (k st:Int) (fl:Bool) (x a g:Bs) (p cc:Int) (hp:r.ev.length≤16777216∧r.dn.length=r.ev.length∧r.bs≤r.ev.length):FnK Tryz.prog 70 1 [.ptr 0 0 0,.agg [.i .i64 k,.i .i64 st,.b fl,.s x,.s a,.s g,.i .i64 p,.i .i64 cc]] [some (.blk false [.s s,.i .i64 ((r).pos:Nat),.slc 1 0 (r).ev.length,.slc 2 0 (r).ev.length,.mp 3,.slc 4 0 (r).hd.length,.i .i64 ((r).dp:Nat),.i .i64 (r).cd,.i .i64 ((r).pl:Nat),.b fr,.i .i64 la]),some (.row false 8 (r).ev.length (zg evc evz (r).ev)),some (.row false 1 (r).ev.length (zg qf false (r).dn)),some (.mapS (nmI (r).ev (r).bs)),some (.row false 2 (r).hd.length (zg hdc hdz (r).hd))] (fun z c=>z=.i .i64 (r.ev.length:Nat)∧c=[some (.blk false [.s s,.i .i64 ((zo r ⟨k,st,fl,x,a,g,p,cc⟩ (!decide (k=3)&&!decide (k=4))).pos:Nat),.slc 1 0 (zo r ⟨k,st,fl,x,a,g,p,cc⟩ (!decide (k=3)&&!decide (k=4))).ev.length,.slc 2 0 (zo r ⟨k,st,fl,x,a,g,p,cc⟩ (!decide (k=3)&&!decide (k=4))).ev.length,.mp 3,.slc 4 0 (zo r ⟨k,st,fl,x,a,g,p,cc⟩ (!decide (k=3)&&!decide (k=4))).hd.length,.i .i64 ((zo r ⟨k,st,fl,x,a,g,p,cc⟩ (!decide (k=3)&&!decide (k=4))).dp:Nat),.i .i64 (zo r ⟨k,st,fl,x,a,g,p,cc⟩ (!decide (k=3)&&!decide (k=4))).cd,.i .i64 ((zo r ⟨k,st,fl,x,a,g,p,cc⟩ (!decide (k=3)&&!decide (k=4))).pl:Nat),.b fr,.i .i64 la]),some (.row false 8 (zo r ⟨k,st,fl,x,a,g,p,cc⟩ (!decide (k=3)&&!decide (k=4))).ev.length (zg evc evz (zo r ⟨k,st,fl,x,a,g,p,cc⟩ (!decide (k=3)&&!decide (k=4))).ev)),some (.row false 1 (zo r ⟨k,st,fl,x,a,g,p,cc⟩ (!decide (k=3)&&!decide (k=4))).ev.length (zg qf false (zo r ⟨k,st,fl,x,a,g,p,cc⟩ (!decide (k=3)&&!decide (k=4))).dn)),some (.mapS (nmI (zo r ⟨k,st,fl,x,a,g,p,cc⟩ (!decide (k=3)&&!decide (k=4))).ev (zo r ⟨k,st,fl,x,a,g,p,cc⟩ (!decide (k=3)&&!decide (k=4))).bs)),some (.row false 2 (zo r ⟨k,st,fl,x,a,g,p,cc⟩ (!decide (k=3)&&!decide (k=4))).hd.length (zg hdc hdz (zo r ⟨k,st,fl,x,a,g,p,cc⟩ (!decide (k=3)&&!decide (k=4))).hd))]):=by
 refine FnK.ofE (cf:=zk Tryz.prog te [] 53 1 false (fun _=>false) (kp [(0,[0,3]),(1,[0,3]),(2,[0,3]),(3,[0,3,34]),(4,[0]),(5,[4])]) [] [(1,[7,10],[0,1],.q1 0 (.q1 1 (.q1 2 (.q1 3 (.q0 4 [4,7,8,9,10] (.q0 5 [5,6,7,8,9,10] (.alt 6 (.sw (.alt 7 (.q1 8 (.q1 9 (.alt 10 (.fin) (.fin)))) (.fin))) (.fin)))))))),(2,[14,17],[0,2],.q1 0 (.q1 1 (.q1 2 (.q1 3 (.q1 5 (.q0 4 [4,14,15,16,17] (.q0 6 [6,7,8,9,10,11,12,13,14,15,16,17] (.q1 7 (.q1 8 (.q1 9 (.q0 10 [10,11,12,13,14,15,16,17] (.q1 11 (.q1 12 (.alt 13 (.sw (.alt 14 (.q1 15 (.q1 16 (.alt 17 (.fin) (.fin)))) (.fin))) (.fin))))))))))))))),(4,[12],[3],.q1 0 (.q1 1 (.q1 2 (.q1 4 (.q1 6 (.q1 7 (.q1 8 (.q0 3 [3,12] (.q0 5 [5,12] (.q0 9 [9,10,11,12] (.q1 10 (.q1 11 (.sw (.alt 12 (.fin) (.fin)))))))))))))))]) (zf te_ok (l:=[]) (trivial) zd) Tryz.func70 rfl rfl rfl (by simp [zk]) (by simp [zk]) (rs:=[.tmp 4]) rfl 100000 ?_
 simp only [↓XC,XV,XT,Yg,seval,TES,XRE,XR,XRH,Yh]
 have hnm:nmI (r.ev++[⟨k,st,fl,x,a,g,p,cc⟩]) r.bs=if a=[] then nmI r.ev r.bs else x9 (nmI r.ev r.bs) a r.ev.length:=nmI_push hp.2.2
 have e1:((r.ev.length+1:Nat):Int)-1=r.ev.length:=by omega
 simp only [e1,hnm]
 refine ⟨by decide +kernel,qi rfl rfl,Chk.mk (by omega) fun _=>⟨by decide +kernel,qi rfl rfl,Chk.mk (by omega) fun _=>⟨fun h=>⟨by decide +kernel,Chk.mk (by simp only [inR];omega) fun _=>Chk.mk (by simp only [inR];omega) fun _=>?_⟩,fun h=>Chk.mk (by simp only [inR];omega) fun _=>?_⟩⟩⟩
 ·rw [if_neg (by simpa using h)]
  exact ⟨[0,7,9,3,4],by decide,by simp only [Yd];exact ⟨zb (by simp [Yf]),j0 r.ev (⟨k,st,fl,x,a,g,p,cc⟩:Ev) (fun _=>rfl) rfl rfl rfl (fun _ _=>rfl) rfl rfl,j0 r.dn (!decide (k=3)&&!decide (k=4)) (fun _=>rfl) rfl hp.2.1.symm rfl (fun _ _=>rfl) rfl rfl,zi,za fun _=>rfl⟩,by simp only [↓XC,XV,XT,Yg,seval];try first | rfl | simp [Yf],by simp [ye,SO.ro],by simp⟩
 ·rw [if_pos (by simpa using h)]
  exact ⟨[0,7,9,3,4],by decide,by simp only [Yd];exact ⟨zb (by simp [Yf]),j0 r.ev (⟨k,st,fl,x,a,g,p,cc⟩:Ev) (fun _=>rfl) rfl rfl rfl (fun _ _=>rfl) rfl rfl,j0 r.dn (!decide (k=3)&&!decide (k=4)) (fun _=>rfl) rfl hp.2.1.symm rfl (fun _ _=>rfl) rfl rfl,zi,za fun _=>rfl⟩,by simp only [↓XC,XV,XT,Yg,seval];try first | rfl | simp [Yf],by simp [ye,SO.ro],by simp⟩
end Go.T
end
section
set_option linter.unusedVariables false
set_option linter.unusedSimpArgs false
set_option linter.unusedSectionVars false
set_option linter.unnecessarySimpa false
namespace Go.T
variable [Go.Vg.Glob] [Go.Vg.GlobTabs 0 1]
open Go.Proofs Go.Vg Go.RowKit Go.TT Go.Pl
set_option maxRecDepth 10000
set_option maxHeartbeats 4000000
theorem zfj (s:Bs) (r:Rd) (fr:Bool) (la:Int) (st:Int) (t:Bs) (ha:Bool) (an tg:Bs) (pf:Int) (pe:Nat) (hp:r.ev.length≤16777216∧r.dn.length=r.ev.length∧r.bs≤r.ev.length):FnK Tryz.prog 284 1 [.ptr 0 0 0,.i .i64 st,.s t,.agg [.b ha,.s an,.s tg,.i .i64 pf,.i .i64 (pe:Nat)]] [some (.blk false [.s s,.i .i64 ((r).pos:Nat),.slc 1 0 (r).ev.length,.slc 2 0 (r).ev.length,.mp 3,.slc 4 0 (r).hd.length,.i .i64 ((r).dp:Nat),.i .i64 (r).cd,.i .i64 ((r).pl:Nat),.b fr,.i .i64 la]),some (.row false 8 (r).ev.length (zg evc evz (r).ev)),some (.row false 1 (r).ev.length (zg qf false (r).dn)),some (.mapS (nmI (r).ev (r).bs)),some (.row false 2 (r).hd.length (zg hdc hdz (r).hd))] (fun z c=>z=.tup []∧c=[some (.blk false [.s s,.i .i64 ((yx r st t an tg).pos:Nat),.slc 1 0 (yx r st t an tg).ev.length,.slc 2 0 (yx r st t an tg).ev.length,.mp 3,.slc 4 0 (yx r st t an tg).hd.length,.i .i64 ((yx r st t an tg).dp:Nat),.i .i64 (yx r st t an tg).cd,.i .i64 ((yx r st t an tg).pl:Nat),.b fr,.i .i64 la]),some (.row false 8 (yx r st t an tg).ev.length (zg evc evz (yx r st t an tg).ev)),some (.row false 1 (yx r st t an tg).ev.length (zg qf false (yx r st t an tg).dn)),some (.mapS (nmI (yx r st t an tg).ev (yx r st t an tg).bs)),some (.row false 2 (yx r st t an tg).hd.length (zg hdc hdz (yx r st t an tg).hd))]):=by
 refine FnK.ofE (cf:=zk Tryz.prog te [] 17 1 false (fun _=>false) (kp [(0,[0,1,2,7]),(1,[])]) [] []) (zf te_ok (l:=[]) (trivial) zd) Tryz.func284 rfl rfl rfl (by simp [zk]) (by simp [zk]) (rs:=[]) rfl 100000 ?_
 simp only [↓XC,XV,XT,Yg,seval,TES,XRE,XR,XRH,Yh,evT]
 refine Wb (zg5 s r fr la 5 st false t an tg 0 0 hp) ?_
 simp only [↓XC,XV,XT,Yg,seval,TES,XRE,XR,XRH,Yh,XM]
 exact ⟨[0,1,2,3,4],by decide,by simp only [Yd];exact ⟨zb (by simp [Yf]),za fun _=>rfl,za fun _=>rfl,zi,za fun _=>rfl⟩,by simp only [↓XC,XV,XT,Yg,seval];try first | rfl | simp [Yf],by simp [ye,SO.ro],by simp⟩
theorem zu4 (s:Bs) (r:Rd) (fr:Bool) (la:Int) (fl:Bool) (ha:Bool) (an tg:Bs) (pf:Int) (pe:Nat) (hp:s.length≤1048576∧r.cd=0∧r.pos≤s.length∧zt8 s r.pos=true∧(r.hd.length≤1048576∧∀ h∈r.hd,h.pre.length≤1048576)):FnK Tryz.prog 312 6 [.ptr 0 0 0,.ptr 5 0 0,.b fl] [some (.blk false [.s s,.i .i64 ((r).pos:Nat),.slc 1 0 (r).ev.length,.slc 2 0 (r).ev.length,.mp 3,.slc 4 0 (r).hd.length,.i .i64 ((r).dp:Nat),.i .i64 (r).cd,.i .i64 ((r).pl:Nat),.b fr,.i .i64 la]),some (.row false 8 (r).ev.length (zg evc evz (r).ev)),some (.row false 1 (r).ev.length (zg qf false (r).dn)),some (.mapS (nmI (r).ev (r).bs)),some (.row false 2 (r).hd.length (zg hdc hdz (r).hd)),some (.blk false [.b ((⟨ha,an,tg,pe⟩:Pp)).has,.s ((⟨ha,an,tg,pe⟩:Pp)).an,.s ((⟨ha,an,tg,pe⟩:Pp)).tg,.i .i64 pf,.i .i64 (((⟨ha,an,tg,pe⟩:Pp)).en:Nat)])] (fun z c=>z=.b (decide ((pr1 s fl r (⟨ha,an,tg,pe⟩:Pp)).cd=0))∧c=[some (.blk false [.s s,.i .i64 ((pr1 s fl r (⟨ha,an,tg,pe⟩:Pp)).pos:Nat),.slc 1 0 (pr1 s fl r (⟨ha,an,tg,pe⟩:Pp)).ev.length,.slc 2 0 (pr1 s fl r (⟨ha,an,tg,pe⟩:Pp)).ev.length,.mp 3,.slc 4 0 (pr1 s fl r (⟨ha,an,tg,pe⟩:Pp)).hd.length,.i .i64 ((pr1 s fl r (⟨ha,an,tg,pe⟩:Pp)).dp:Nat),.i .i64 (pr1 s fl r (⟨ha,an,tg,pe⟩:Pp)).cd,.i .i64 ((pr1 s fl r (⟨ha,an,tg,pe⟩:Pp)).pl:Nat),.b fr,.i .i64 la]),some (.row false 8 (pr1 s fl r (⟨ha,an,tg,pe⟩:Pp)).ev.length (zg evc evz (pr1 s fl r (⟨ha,an,tg,pe⟩:Pp)).ev)),some (.row false 1 (pr1 s fl r (⟨ha,an,tg,pe⟩:Pp)).ev.length (zg qf false (pr1 s fl r (⟨ha,an,tg,pe⟩:Pp)).dn)),some (.mapS (nmI (pr1 s fl r (⟨ha,an,tg,pe⟩:Pp)).ev (pr1 s fl r (⟨ha,an,tg,pe⟩:Pp)).bs)),some (.row false 2 (pr1 s fl r (⟨ha,an,tg,pe⟩:Pp)).hd.length (zg hdc hdz (pr1 s fl r (⟨ha,an,tg,pe⟩:Pp)).hd)),some (.blk false [.b ((prA s r.hd fl r.pos (⟨ha,an,tg,pe⟩:Pp)).1).has,.s ((prA s r.hd fl r.pos (⟨ha,an,tg,pe⟩:Pp)).1).an,.s ((prA s r.hd fl r.pos (⟨ha,an,tg,pe⟩:Pp)).1).tg,.i .i64 pf,.i .i64 (((prA s r.hd fl r.pos (⟨ha,an,tg,pe⟩:Pp)).1).en:Nat)])]):=by
 refine FnK.ofE (cf:=zk Tryz.prog te [(190,w9),(341,zbf),(108,qa),(107,zl),(183,wa),(342,xv),(106,yg),(143,ja)] 183 6 false (fun _=>false) (kp [(0,[0,1,2]),(1,[0,1,2]),(2,[0,1,2,25]),(3,[0,1,2,8,9,10]),(4,[0,1,2,8,9,47]),(5,[6]),(6,[0,1,2,7]),(7,[0,1,2,11,12,13]),(8,[0,1,2,11,12,102]),(9,[6]),(10,[0,1,2,12,14,15]),(11,[0,1,2,12,14,119]),(12,[6]),(13,[0,1,2,7]),(14,[0,1,2,7,150]),(15,[6]),(16,[0,1,2,7]),(17,[0,2,7]),(18,[0,2,7]),(19,[0,7,173]),(20,[]),(21,[6])]) [] [(2,[],[],.q1 0 (.q1 1 (.q1 2 (.q1 4 (.q1 5 (.q1 6 (.q0 3 [3] (.q0 7 [7] (.q1 8 (.q1 9 (.fin))))))))))),(3,[],[],.q1 0 (.q1 1 (.q1 2 (.q1 4 (.q1 5 (.q1 6 (.q0 3 [3] (.q0 7 [7] (.alt 8 (.q1 9 (.q1 10 (.q1 11 (.q1 12 (.q1 13 (.q1 14 (.q1 15 (.fin)))))))) (.fin)))))))))),(7,[],[],.q1 0 (.q1 1 (.q1 2 (.q1 4 (.q1 5 (.q1 6 (.q0 3 [3] (.q0 7 [7] (.alt 8 (.q1 9 (.q1 10 (.q1 11 (.q1 12 (.q1 13 (.q1 14 (.q1 15 (.fin)))))))) (.fin))))))))))]) (zf te_ok (l:=[(190,w9),(341,zbf),(108,qa),(107,zl),(183,wa),(342,xv),(106,yg),(143,ja)]) (⟨xz,zki,wj,zu,jj,zft,y7,xh,trivial⟩) zd) Tryz.func312 rfl rfl rfl (by simp [zk]) (by simp [zk]) (rs:=[.tmp 6]) rfl 100000 ?_
 simp only [↓XC,XV,XT,Yg,seval,TES,x7,zkj,zt,zc,zy,zay,zz,z1,XRE,XR,XRH,Yh]
 obtain ⟨hs,hcd,hpos,hpr,hh1,hh2⟩:=hp
 have hpl:r.pos<s.length:=zwz hpr
 rw [zq s hpos,←kw hpl]
 refine ⟨by decide +kernel,Chk.mk (by omega) fun _=>⟨fun h38=>⟨by decide +kernel,Chk.mk hs fun _=>?_⟩,fun h33=>?_⟩⟩
 ·by_cases hA:(nmA s r.pos).2.2=true∧an=[]
  ·have hpc:=zbi hA.1
   have eN:spot s (nmA s r.pos).2.1=(nmA s r.pos).2.1.toNat:=by unfold spot;omega
   have eZ:((nmA s r.pos).2.1.toNat:Int)=(nmA s r.pos).2.1:=by omega
   rw [eN]
   refine ⟨fun hb=>by simp [hA.1,hA.2] at hb,fun _=>Chk.mk ⟨hs,by omega⟩ fun _=>Chk.mk (fun h=>⟨⟨h,h⟩,hs⟩) fun _=>⟨fun hc=>?_,fun hc=>?_⟩⟩
   ·have hB:¬bhd s fl (nmA s r.pos).2.1.toNat=true:=by unfold bhd;rw [zxy hc];simp
    have e:prA s r.hd fl r.pos (⟨ha,an,tg,pe⟩:Pp)=(⟨ha,(nmA s r.pos).1,tg,pe⟩,7):=by unfold prA;rw [if_pos h38,if_pos hA,if_neg hB]
    refine Wm (qr s r fr la 7 r.pos hcd) ?_
    simp only [↓XC,XV,XT,Yg,seval,TES,XRE,XR,XRH,Yh,XM]
    simp only [pr1,e,Int.reduceEq,reduceIte,atR,flt,decide_eq_true hcd,decide_false]
    exact ⟨[0,1,2,3,4,5],by decide,by simp only [Yd];exact ⟨zb (by simp [Yf,Yh]),za fun _=>rfl,za fun _=>rfl,zi,za fun _=>rfl,zb (by simp [Yf];try omega)⟩,by simp only [↓XC,XV,XT,Yg,seval];try first | rfl | simp [Yf],by simp [ye,SO.ro],by simp⟩
   ·have hB:bhd s fl (nmA s r.pos).2.1.toNat=true:=by unfold bhd;exact zxx hc
    have e:prA s r.hd fl r.pos (⟨ha,an,tg,pe⟩:Pp)=(⟨true,(nmA s r.pos).1,tg,(nmA s r.pos).2.1.toNat⟩,0):=by unfold prA;rw [if_pos h38,if_pos hA,if_pos hB]
    simp only [pr1,e,Int.reduceEq,reduceIte,atR,flt,decide_eq_true hcd,decide_false]
    refine Chk.mk hs fun _=>⟨fun hf=>Chk.mk hs fun _=>?_,fun hf=>?_⟩
    ·subst hf
     rw [show nxP s true _=gpE s _ from rfl]
     exact ⟨[0,1,2,3,4,5],by decide,by simp only [Yd];exact ⟨zb (by simp [Yf,Yh]),za fun _=>rfl,za fun _=>rfl,zi,za fun _=>rfl,zb (by simp [Yf];try omega)⟩,by simp only [↓XC,XV,XT,Yg,seval];try first | rfl | simp [Yf],by simp [ye,SO.ro],by simp⟩
    ·subst hf
     rw [show nxP s false _=wh s _ from rfl]
     exact ⟨[0,1,2,3,4,5],by decide,by simp only [Yd];exact ⟨zb (by simp [Yf,Yh]),za fun _=>rfl,za fun _=>rfl,zi,za fun _=>rfl,zb (by simp [Yf];try omega)⟩,by simp only [↓XC,XV,XT,Yg,seval];try first | rfl | simp [Yf],by simp [ye,SO.ro],by simp⟩
  ·have e:prA s r.hd fl r.pos (⟨ha,an,tg,pe⟩:Pp)=(⟨ha,an,tg,pe⟩,7):=by unfold prA;rw [if_pos h38,if_neg hA]
   refine ⟨fun hb=>?_,fun hb=>absurd (by simpa using hb) hA⟩
   refine Wm (qr s r fr la 7 r.pos hcd) ?_
   simp only [↓XC,XV,XT,Yg,seval,TES,XRE,XR,XRH,Yh,XM]
   simp only [pr1,e,Int.reduceEq,reduceIte,atR,flt,decide_eq_true hcd,decide_false]
   exact ⟨[0,1,2,3,4,5],by decide,by simp only [Yd];exact ⟨zb (by simp [Yf,Yh]),za fun _=>rfl,za fun _=>rfl,zi,za fun _=>rfl,zb (by simp [Yf];try omega)⟩,by simp only [↓XC,XV,XT,Yg,seval];try first | rfl | simp [Yf],by simp [ye,SO.ro],by simp⟩
 ·have h33':=isPr_33 hpr h33
  have hnn:=tgA_nn s r.pos
  refine ⟨by decide +kernel,Chk.mk hs fun _=>Chk.mk (fun h=>⟨⟨h,h⟩,hs,hnn⟩) fun _=>Chk.mk (fun h=>⟨⟨h,h⟩,hs⟩) fun _=>?_⟩
  by_cases hA:(tgA s r.pos).2.2=true∧tg=[]∧bhd s fl (tgA s r.pos).2.1.toNat=true
  ·have hpc:=zfh hA.1
   have hlt:=tgA_len s r.pos
   have eN:spot s (tgA s r.pos).2.1=(tgA s r.pos).2.1.toNat:=by unfold spot;omega
   have eZ:((tgA s r.pos).2.1.toNat:Int)=(tgA s r.pos).2.1:=by omega
   have hB:=hA.2.2
   unfold bhd at hB
   rw [eN]
   refine ⟨fun hb=>?_,fun _=>?_⟩
   ·simp only [hA.1,hA.2.1,Bool.not_true,decide_true,Bool.false_or] at hb
    rw [zxy hb] at hB;cases hB
   rw [wy rfl]
   simp only [↓XC,XV,XT,Yg,seval,TES,zay,zt,zc,zy,zz,z1,XRE,XR,XRH,Yh]
   refine Chk.mk ⟨Nat.le_refl _,by omega,hh1,hh2⟩ fun _=>⟨fun hc=>?_,fun hc=>?_⟩
   ·have e:prA s r.hd fl r.pos (⟨ha,an,tg,pe⟩:Pp)=(⟨ha,an,tg,pe⟩,15):=by unfold prA;rw [if_neg h33,if_pos hA,if_neg (by simpa using hc)]
    refine Wm (qr s r fr la 15 r.pos hcd) ?_
    simp only [↓XC,XV,XT,Yg,seval,TES,XRE,XR,XRH,Yh,XM]
    simp only [pr1,e,Int.reduceEq,reduceIte,atR,flt,decide_eq_true hcd,decide_false]
    exact ⟨[0,1,2,3,4,5],by decide,by simp only [Yd];exact ⟨zb (by simp [Yf,Yh]),za fun _=>rfl,za fun _=>rfl,zi,za fun _=>rfl,zb (by simp [Yf];try omega)⟩,by simp only [↓XC,XV,XT,Yg,seval];try first | rfl | simp [Yf],by simp [ye,SO.ro],by simp⟩
   ·have e:prA s r.hd fl r.pos (⟨ha,an,tg,pe⟩:Pp)=(⟨true,an,(trA (tgA s r.pos).1 r.hd).1,(tgA s r.pos).2.1.toNat⟩,0):=by unfold prA;rw [if_neg h33,if_pos hA,if_pos (by simpa using hc)]
    simp only [eN]
    refine Chk.mk ⟨hs,hnn⟩ fun _=>Chk.mk (fun h=>⟨⟨h,h⟩,hs⟩) fun _=>⟨fun hb=>(by rw [zxy hb] at hB;cases hB),fun _=>?_⟩
    simp only [pr1,e,Int.reduceEq,reduceIte,atR,flt,decide_eq_true hcd,decide_false]
    refine Chk.mk hs fun _=>⟨fun hf=>Chk.mk hs fun _=>?_,fun hf=>?_⟩
    ·subst hf
     rw [show nxP s true _=gpE s _ from rfl]
     exact ⟨[0,1,2,3,4,5],by decide,by simp only [Yd];exact ⟨zb (by simp [Yf,Yh]),za fun _=>rfl,za fun _=>rfl,zi,za fun _=>rfl,zb (by simp [Yf];try omega)⟩,by simp only [↓XC,XV,XT,Yg,seval];try first | rfl | simp [Yf],by simp [ye,SO.ro],by simp⟩
    ·subst hf
     rw [show nxP s false _=wh s _ from rfl]
     exact ⟨[0,1,2,3,4,5],by decide,by simp only [Yd];exact ⟨zb (by simp [Yf,Yh]),za fun _=>rfl,za fun _=>rfl,zi,za fun _=>rfl,zb (by simp [Yf];try omega)⟩,by simp only [↓XC,XV,XT,Yg,seval];try first | rfl | simp [Yf],by simp [ye,SO.ro],by simp⟩
  ·have e:prA s r.hd fl r.pos (⟨ha,an,tg,pe⟩:Pp)=(⟨ha,an,tg,pe⟩,7):=by unfold prA;rw [if_neg h33,if_neg hA]
   refine ⟨fun hb=>?_,fun hb=>absurd ?_ hA⟩
   ·refine Wm (qr s r fr la 7 r.pos hcd) ?_
    simp only [↓XC,XV,XT,Yg,seval,TES,XRE,XR,XRH,Yh,XM]
    simp only [pr1,e,Int.reduceEq,reduceIte,atR,flt,decide_eq_true hcd,decide_false]
    exact ⟨[0,1,2,3,4,5],by decide,by simp only [Yd];exact ⟨zb (by simp [Yf,Yh]),za fun _=>rfl,za fun _=>rfl,zi,za fun _=>rfl,zb (by simp [Yf];try omega)⟩,by simp only [↓XC,XV,XT,Yg,seval];try first | rfl | simp [Yf],by simp [ye,SO.ro],by simp⟩
   ·simp only [Bool.or_eq_false_iff,Bool.not_eq_false',decide_eq_true_eq] at hb
    have hpc:=zfh hb.1.1
    have eN:spot s (tgA s r.pos).2.1=(tgA s r.pos).2.1.toNat:=by unfold spot;omega
    rw [eN] at hb
    exact ⟨hb.1.1,hb.1.2,by unfold bhd;exact zxx hb.2⟩
end Go.T
end
