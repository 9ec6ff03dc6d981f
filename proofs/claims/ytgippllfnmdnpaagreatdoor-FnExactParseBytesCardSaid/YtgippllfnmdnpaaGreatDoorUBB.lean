/- Own text: part UBB. -/
import Derived.Test.YtgippllfnmdnpaaGreatDoorUBA
set_option linter.all false
section
namespace Go.T
variable [Go.Vg.Glob] [Go.Vg.GlobTabs 0 1]
open Go.Proofs Go.Vg Go.RowKit Go.TT Go.Pl
set_option maxRecDepth 10000
set_option maxHeartbeats 4000000
theorem zds (s:Bs) (r:Rd) (fr:Bool) (la:Int) (it:Rd→Rd) (ha:Bool) (an tg:Bs) (pf:Int) (pe:Nat) (HI:r.dp<40→(zj2 s (r.dp+1) it∧∀ r1:Rd,Ok s r1→r1.dp=r.dp+1→zcl Tryz.prog 356 s fr la [] r1 (it r1))) (hp:s.length≤1048576∧Ok s r∧r.pos<s.length):FnK Tryz.prog 348 1 [.ptr 0 0 0,.agg [.b ha,.s an,.s tg,.i .i64 pf,.i .i64 (pe:Nat)]] (rdC s (r) fr la) (fun z c=>z=.b (decide ((coR s it 93 3 r (⟨ha,an,tg,pe⟩:Pp)).cd=0))∧c=(rdC s (coR s it 93 3 r (⟨ha,an,tg,pe⟩:Pp)) fr la)):=by
 refine HEx pn 62 [[0,3],[0,5,6],[0,5,18],[4],[0,5],[0,5,28],[4],[0,5,38],[0,5],[],[4],[0,5,61],[4]] Tryz.func348 [.tmp 4] (fun i=>i==11) [] [(1,[],[],.q1 0 (.q1 2 (.q1 3 (.q1 4 (.q0 1 [1,6,7,8,9,10,11] (.q0 5 [5,6,7,8,9,10,11] (.alt 6 (.alt 7 (.alt 8 (.alt 9 (.seq [10,11]) (.alt 10 (.seq [9,11]) .fin)) (.alt 9 (.seq [8,10,11]) .fin)) .fin) .fin))))))),(7,[],[],qa (.q0 3 [3] (.q0 7 [7] (qd .fin))))] ?_;simp only [↓XC,X1,reduceIte,Nat.reduceAdd,Nat.reduceLT,Nat.reduceEqDiff,Nat.reduceBEq,Nat.reduceLeDiff,reduceCtorEq,Nat.reduceSub,Nat.reduceMul,Int.reduceToNat,Int.reduceLT,Int.reduceLE,X2];obtain ⟨hs,ho,hlt⟩:=hp;have hsz:=ho.size hs;obtain ⟨ro,hro⟩:∃ ro,ro=opR r 3 6 (⟨ha,an,tg,pe⟩:Pp) r.pos:=⟨_,rfl⟩
 refine ⟨by decide +kernel, ?_⟩;refine Wb (ropen s r fr la 3 6 ha an tg pf pe r.pos ⟨by omega,ho.dn,ho.bs,ho.cd,by decide,ho.dp⟩) ?_;simp only [↓XC,X1,reduceIte,Nat.reduceAdd,Nat.reduceLT,Nat.reduceEqDiff,Nat.reduceBEq,Nat.reduceLeDiff,reduceCtorEq,Nat.reduceSub,Nat.reduceMul,Int.reduceToNat,Int.reduceLT,Int.reduceLE,X2,XM];rw [←hro];have hP:ro.cd=0→Ok s (atR ro (r.pos+1))∧ro.dp=r.dp+1∧ro.pos=r.pos∧r.ev.length<ro.ev.length∧r.dp<40:=fun h=>by rw [hro] at h;obtain ⟨e,hd⟩:=zgn h;have h9:=ho.sz;rw [hro,e];refine ⟨⟨ho.cd,hlt,by simp [atR,zf,ho.dn],by simp only [atR,zf,List.length_append];have:=ho.bs;omega,by simp only [atR];omega,by simp only [atR,zf,List.length_append,List.length_singleton];omega,ho.hd,ho.pf⟩,rfl,rfl,by simp [zf],hd⟩
 have hC:coR s it 93 3 r (⟨ha,an,tg,pe⟩:Pp)=if ro.cd≠0 then ro else clL s it 93 r.ev.length (atR ro (r.pos+1)):=by rw [hro];rfl
 refine ⟨⟨?_, ?_⟩, ?_⟩;all_goals
  refine ⟨fun h=>?_,fun h=>?_⟩
  ·have hne:¬ro.cd=0:=by simpa using h
   rw [hC,if_pos hne,decide_eq_false hne];exact Wf (by simp only [↓XC,X1,reduceIte,Nat.reduceAdd,Nat.reduceLT,Nat.reduceEqDiff,Nat.reduceBEq,Nat.reduceLeDiff,reduceCtorEq,Nat.reduceSub,Nat.reduceMul,Int.reduceToNat,Int.reduceLT,Int.reduceLE];try first | rfl | simp [Yf])
  have hz:ro.cd=0:=by simpa using h
  obtain ⟨hok,hd1,hp1,he1,hd40⟩:=hP hz;rw [hp1,if_neg (show ¬40≤r.dp by omega)];rw [if_neg (by simp [hz])] at hC;rw [hC];obtain ⟨R,hR⟩:∃ R,R=clL s it 93 r.ev.length (atR ro (r.pos+1)):=⟨_,rfl⟩
  rw [←hR];obtain ⟨hit,HN⟩:=HI hd40;refine CR fun _=>?_;refine zl.of (ι:={x:Rd // Ok s x∧x.dp=r.dp+1∧r.ev.length<x.ev.length∧clL s it 93 r.ev.length x=R}) (fun x=>⟨[(0,.ptr 0 0 0),(5,.i .i64 (r.ev.length:Nat))],(rdC s (x.1) fr la)⟩) (fun x=>s.length-x.1.pos) ⟨atR ro (r.pos+1),hok,hd1,he1,hR.symm⟩ (Ent.ren1 [0,1,2,3,4] (by decide) (by simp only [Yd];exact ⟨zb (by simp [Yf,Yh]),za fun _=>rfl,za fun _=>rfl,zi,za fun _=>rfl⟩) (by simp [ze,Vg.look,SV.mapH,muL])) ?_;rintro ⟨x,hx,hxd,hxe,hxc⟩;simp only [YC];simp only [↓XC,X1,reduceIte,Nat.reduceAdd,Nat.reduceLT,Nat.reduceEqDiff,Nat.reduceBEq,Nat.reduceLeDiff,reduceCtorEq,Nat.reduceSub,Nat.reduceMul,Int.reduceToNat,Int.reduceLT,Int.reduceLE,X2];obtain ⟨g,hg⟩:∃ g,g=yq s x:=⟨_,rfl⟩
  refine Wm (rgap s x fr la ⟨hs,hx.cd,hx.pos⟩) ?_;simp only [↓XC,X1,reduceIte,Nat.reduceAdd,Nat.reduceLT,Nat.reduceEqDiff,Nat.reduceBEq,Nat.reduceLeDiff,reduceCtorEq,Nat.reduceSub,Nat.reduceMul,Int.reduceToNat,Int.reduceLT,Int.reduceLE,X2,XM];rw [←hg,←hxc];refine ⟨fun h1=>?_,fun h1=>?_⟩
  ·have hne:¬g.cd=0:=by simpa using h1
   rw [zfu (by rw [←hg];exact hne),←hg,decide_eq_false hne];exact Wf (by simp only [↓XC,X1,reduceIte,Nat.reduceAdd,Nat.reduceLT,Nat.reduceEqDiff,Nat.reduceBEq,Nat.reduceLeDiff,reduceCtorEq,Nat.reduceSub,Nat.reduceMul,Int.reduceToNat,Int.reduceLT,Int.reduceLE];try first | rfl | simp [Yf])
  have hgz:(yq s x).cd=0:=by rw [←hg];simpa using h1
  obtain ⟨hge,hgl⟩:=wo hgz;have hgo:Ok s g:=by rw [hg];exact hx.gap hgz
  have hgd:g.dp=r.dp+1:=by rw [hg,hge];exact hxd
  have hgev:g.ev=x.ev:=by rw [hg,hge];rfl
  have hgp:g.pos<s.length:=by rw [hg,hge];exact hgl
  have hgsz:=hgo.size hs;rw [←zw hgp];refine ⟨by decide +kernel,CO fun _=>⟨fun h2=>CR fun _=>?_,fun h2=>?_⟩⟩
  ·rw [zfv hgz (by rw [←hg];exact h2),←hg];refine Wb (rshut s (atR g (g.pos+1)) fr la r.ev.length ⟨Nat.le_trans hgsz (by decide),hgo.dn,hgo.bs,by rw [show (atR g (g.pos+1)).ev=x.ev from hgev];exact hxe,by show 0<g.dp;omega,hgo.dp⟩) ?_;simp only [↓XC,X1,reduceIte,Nat.reduceAdd,Nat.reduceLT,Nat.reduceEqDiff,Nat.reduceBEq,Nat.reduceLeDiff,reduceCtorEq,Nat.reduceSub,Nat.reduceMul,Int.reduceToNat,Int.reduceLT,Int.reduceLE,X2,XM];simp only [shR,List.length_append,List.length_cons,List.length_nil,Nat.zero_add];exact Wf (by simp only [↓XC,X1,reduceIte,Nat.reduceAdd,Nat.reduceLT,Nat.reduceEqDiff,Nat.reduceBEq,Nat.reduceLeDiff,reduceCtorEq,Nat.reduceSub,Nat.reduceMul,Int.reduceToNat,Int.reduceLT,Int.reduceLE];try simp [Yf,hgo.cd])
  ·obtain ⟨t,ht⟩:∃ t,t=it g:=⟨_,rfl⟩
   have hN:=HN g hgo hgd;unfold zcl rdC at hN;refine Wb (hN) ?_;simp only [↓XC,X1,reduceIte,Nat.reduceAdd,Nat.reduceLT,Nat.reduceEqDiff,Nat.reduceBEq,Nat.reduceLeDiff,reduceCtorEq,Nat.reduceSub,Nat.reduceMul,Int.reduceToNat,Int.reduceLT,Int.reduceLE,X2,XM];rw [←ht];by_cases htz:t.cd=0
   ·simp only [decide_eq_true htz];simp only [↓XC,X1,reduceIte,Nat.reduceAdd,Nat.reduceLT,Nat.reduceEqDiff,Nat.reduceBEq,Nat.reduceLeDiff,reduceCtorEq,Nat.reduceSub,Nat.reduceMul,Int.reduceToNat,Int.reduceLT,Int.reduceLE,X2,↓Ya,Yb];have htz':(it (yq s x)).cd=0:=by rw [←hg,←ht];exact htz
    have hst:=hit g hgo hgd (by rw [←ht];exact htz);rw [←ht] at hst;have hto:=hst.ok;obtain ⟨g2,hg2⟩:∃ g2,g2=yq s t:=⟨_,rfl⟩
    have hg2':g2=yq s (it (yq s x)):=by rw [hg2,ht,hg]
    refine Wm (rgap s t fr la ⟨hs,htz,hto.pos⟩) ?_;simp only [↓XC,X1,reduceIte,Nat.reduceAdd,Nat.reduceLT,Nat.reduceEqDiff,Nat.reduceBEq,Nat.reduceLeDiff,reduceCtorEq,Nat.reduceSub,Nat.reduceMul,Int.reduceToNat,Int.reduceLT,Int.reduceLE,X2,XM];rw [←hg2];by_cases h2z:g2.cd=0
    ·simp only [decide_eq_true h2z];simp only [↓XC,X1,reduceIte,Nat.reduceAdd,Nat.reduceLT,Nat.reduceEqDiff,Nat.reduceBEq,Nat.reduceLeDiff,reduceCtorEq,Nat.reduceSub,Nat.reduceMul,Int.reduceToNat,Int.reduceLT,Int.reduceLE,X2,↓Ya,Yb];have h2z':(yq s (it (yq s x))).cd=0:=by rw [←hg2'];exact h2z
     have hg2o:Ok s g2:=by rw [hg2];exact hto.gap (by rw [←hg2];exact h2z)
     have hg2p:g2.pos<s.length:=by obtain ⟨e9,h9⟩:=wo (s:=s) (r:=t) (by rw [←hg2];exact h2z);rw [hg2,e9];exact h9
     obtain ⟨t2,ht2⟩:∃ t2,t2=cmR s g2 93:=⟨_,rfl⟩
     have ht2':t2=cmR s (yq s (it (yq s x))) 93:=by rw [ht2,hg2']
     refine Wm (rcomma s g2 fr la 93 ⟨hs,h2z,hg2p⟩) ?_;simp only [↓XC,X1,reduceIte,Nat.reduceAdd,Nat.reduceLT,Nat.reduceEqDiff,Nat.reduceBEq,Nat.reduceLeDiff,reduceCtorEq,Nat.reduceSub,Nat.reduceMul,Int.reduceToNat,Int.reduceLT,Int.reduceLE,X2,XM];rw [show (((93:UInt8).toNat:Nat):Int)=93 from rfl,←ht2];by_cases h3z:t2.cd=0
     ·simp only [decide_eq_true h3z];simp only [↓XC,X1,reduceIte,Nat.reduceAdd,Nat.reduceLT,Nat.reduceEqDiff,Nat.reduceBEq,Nat.reduceLeDiff,reduceCtorEq,Nat.reduceSub,Nat.reduceMul,Int.reduceToNat,Int.reduceLT,Int.reduceLE,X2,↓Ya,Yb];have hrd:=zch hit hx hxd hgz htz' h2z' (by rw [←ht2'];exact h3z);rw [←ht2'] at hrd;have hlt3:=hrd.lt;have hpo3:=hrd.ok.pos;refine ⟨⟨t2,hrd.ok,hrd.dp.trans hxd,Nat.lt_of_lt_of_le hxe hrd.pre.length_le, ?_⟩,by simp only;omega, ?_⟩
      ·rw [zm1 hgz (by rw [←hg];exact h2) htz' h2z' ⟨by rw [←ht2'];exact h3z,by rw [←ht2'];exact hlt3,by omega⟩,←ht2']
      ·exact (Ent.ren1 [0,1,2,3,4] (by decide) (by simp only [Yd];exact ⟨zb (by simp [Yf,Yh]),za fun _=>rfl,za fun _=>rfl,zi,za fun _=>rfl⟩) (by simp [ze,Vg.look,SV.mapH,muL]))
     ·simp only [decide_eq_false h3z];simp only [↓XC,X1,reduceIte,Nat.reduceAdd,Nat.reduceLT,Nat.reduceEqDiff,Nat.reduceBEq,Nat.reduceLeDiff,reduceCtorEq,Nat.reduceSub,Nat.reduceMul,Int.reduceToNat,Int.reduceLT,Int.reduceLE,X2,↓Ya,Yb];rw [zm3 hgz (by rw [←hg];exact h2) htz' h2z' (by rw [←ht2'];exact h3z),←ht2',decide_eq_false h3z];exact Wf (by simp only [↓XC,X1,reduceIte,Nat.reduceAdd,Nat.reduceLT,Nat.reduceEqDiff,Nat.reduceBEq,Nat.reduceLeDiff,reduceCtorEq,Nat.reduceSub,Nat.reduceMul,Int.reduceToNat,Int.reduceLT,Int.reduceLE];try first | rfl | simp [Yf])
    ·simp only [decide_eq_false h2z];simp only [↓XC,X1,reduceIte,Nat.reduceAdd,Nat.reduceLT,Nat.reduceEqDiff,Nat.reduceBEq,Nat.reduceLeDiff,reduceCtorEq,Nat.reduceSub,Nat.reduceMul,Int.reduceToNat,Int.reduceLT,Int.reduceLE,X2,↓Ya,Yb];rw [zm2 hgz (by rw [←hg];exact h2) htz' (by rw [←hg2'];exact h2z),←hg2',decide_eq_false h2z];exact Wf (by simp only [↓XC,X1,reduceIte,Nat.reduceAdd,Nat.reduceLT,Nat.reduceEqDiff,Nat.reduceBEq,Nat.reduceLeDiff,reduceCtorEq,Nat.reduceSub,Nat.reduceMul,Int.reduceToNat,Int.reduceLT,Int.reduceLE];try first | rfl | simp [Yf])
   ·simp only [decide_eq_false htz];simp only [↓XC,X1,reduceIte,Nat.reduceAdd,Nat.reduceLT,Nat.reduceEqDiff,Nat.reduceBEq,Nat.reduceLeDiff,reduceCtorEq,Nat.reduceSub,Nat.reduceMul,Int.reduceToNat,Int.reduceLT,Int.reduceLE,X2,↓Ya,Yb];rw [zm0 hgz (by rw [←hg];exact h2) (by rw [←hg,←ht];exact htz),←hg,←ht,decide_eq_false htz];exact Wf (by simp only [↓XC,X1,reduceIte,Nat.reduceAdd,Nat.reduceLT,Nat.reduceEqDiff,Nat.reduceBEq,Nat.reduceLeDiff,reduceCtorEq,Nat.reduceSub,Nat.reduceMul,Int.reduceToNat,Int.reduceLT,Int.reduceLE];try first | rfl | simp [Yf])
theorem zhk (s:Bs) (r:Rd) (fr:Bool) (la:Int) (it:Rd→Rd) (ha:Bool) (an tg:Bs) (pf:Int) (pe:Nat) (HI:r.dp<40→(zj2 s (r.dp+1) it∧∀ r1:Rd,Ok s r1→r1.dp=r.dp+1→zcl Tryz.prog 358 s fr la [] r1 (it r1))) (hp:s.length≤1048576∧Ok s r∧r.pos<s.length):FnK Tryz.prog 349 1 [.ptr 0 0 0,.agg [.b ha,.s an,.s tg,.i .i64 pf,.i .i64 (pe:Nat)]] (rdC s (r) fr la) (fun z c=>z=.b (decide ((coR s it 125 4 r (⟨ha,an,tg,pe⟩:Pp)).cd=0))∧c=(rdC s (coR s it 125 4 r (⟨ha,an,tg,pe⟩:Pp)) fr la)):=by
 refine HEx pn 62 [[0,3],[0,5,6],[0,5,18],[4],[0,5],[0,5,28],[4],[0,5,38],[0,5],[],[4],[0,5,61],[4]] Tryz.func349 [.tmp 4] (fun i=>i==11) [] [(1,[],[],.q1 0 (.q1 2 (.q1 3 (.q1 4 (.q0 1 [1,6,7,8,9,10,11] (.q0 5 [5,6,7,8,9,10,11] (.alt 6 (.alt 7 (.alt 8 (.alt 9 (.seq [10,11]) (.alt 10 (.seq [9,11]) .fin)) (.alt 9 (.seq [8,10,11]) .fin)) .fin) .fin))))))),(7,[],[],qa (.q0 3 [3] (.q0 7 [7] (qd .fin))))] ?_;simp only [↓XC,X1,reduceIte,Nat.reduceAdd,Nat.reduceLT,Nat.reduceEqDiff,Nat.reduceBEq,Nat.reduceLeDiff,reduceCtorEq,Nat.reduceSub,Nat.reduceMul,Int.reduceToNat,Int.reduceLT,Int.reduceLE,X2];obtain ⟨hs,ho,hlt⟩:=hp;have hsz:=ho.size hs;obtain ⟨ro,hro⟩:∃ ro,ro=opR r 4 6 (⟨ha,an,tg,pe⟩:Pp) r.pos:=⟨_,rfl⟩
 refine ⟨by decide +kernel, ?_⟩;refine Wb (ropen s r fr la 4 6 ha an tg pf pe r.pos ⟨by omega,ho.dn,ho.bs,ho.cd,by decide,ho.dp⟩) ?_;simp only [↓XC,X1,reduceIte,Nat.reduceAdd,Nat.reduceLT,Nat.reduceEqDiff,Nat.reduceBEq,Nat.reduceLeDiff,reduceCtorEq,Nat.reduceSub,Nat.reduceMul,Int.reduceToNat,Int.reduceLT,Int.reduceLE,X2,XM];rw [←hro];have hP:ro.cd=0→Ok s (atR ro (r.pos+1))∧ro.dp=r.dp+1∧ro.pos=r.pos∧r.ev.length<ro.ev.length∧r.dp<40:=fun h=>by rw [hro] at h;obtain ⟨e,hd⟩:=zgn h;have h9:=ho.sz;rw [hro,e];refine ⟨⟨ho.cd,hlt,by simp [atR,zf,ho.dn],by simp only [atR,zf,List.length_append];have:=ho.bs;omega,by simp only [atR];omega,by simp only [atR,zf,List.length_append,List.length_singleton];omega,ho.hd,ho.pf⟩,rfl,rfl,by simp [zf],hd⟩
 have hC:coR s it 125 4 r (⟨ha,an,tg,pe⟩:Pp)=if ro.cd≠0 then ro else clL s it 125 r.ev.length (atR ro (r.pos+1)):=by rw [hro];rfl
 refine ⟨⟨?_, ?_⟩, ?_⟩;all_goals
  refine ⟨fun h=>?_,fun h=>?_⟩
  ·have hne:¬ro.cd=0:=by simpa using h
   rw [hC,if_pos hne,decide_eq_false hne];exact Wf (by simp only [↓XC,X1,reduceIte,Nat.reduceAdd,Nat.reduceLT,Nat.reduceEqDiff,Nat.reduceBEq,Nat.reduceLeDiff,reduceCtorEq,Nat.reduceSub,Nat.reduceMul,Int.reduceToNat,Int.reduceLT,Int.reduceLE];try first | rfl | simp [Yf])
  have hz:ro.cd=0:=by simpa using h
  obtain ⟨hok,hd1,hp1,he1,hd40⟩:=hP hz;rw [hp1,if_neg (show ¬40≤r.dp by omega)];rw [if_neg (by simp [hz])] at hC;rw [hC];obtain ⟨R,hR⟩:∃ R,R=clL s it 125 r.ev.length (atR ro (r.pos+1)):=⟨_,rfl⟩
  rw [←hR];obtain ⟨hit,HN⟩:=HI hd40;refine CR fun _=>?_;refine zl.of (ι:={x:Rd // Ok s x∧x.dp=r.dp+1∧r.ev.length<x.ev.length∧clL s it 125 r.ev.length x=R}) (fun x=>⟨[(0,.ptr 0 0 0),(5,.i .i64 (r.ev.length:Nat))],(rdC s (x.1) fr la)⟩) (fun x=>s.length-x.1.pos) ⟨atR ro (r.pos+1),hok,hd1,he1,hR.symm⟩ (Ent.ren1 [0,1,2,3,4] (by decide) (by simp only [Yd];exact ⟨zb (by simp [Yf,Yh]),za fun _=>rfl,za fun _=>rfl,zi,za fun _=>rfl⟩) (by simp [ze,Vg.look,SV.mapH,muL])) ?_;rintro ⟨x,hx,hxd,hxe,hxc⟩;simp only [YC];simp only [↓XC,X1,reduceIte,Nat.reduceAdd,Nat.reduceLT,Nat.reduceEqDiff,Nat.reduceBEq,Nat.reduceLeDiff,reduceCtorEq,Nat.reduceSub,Nat.reduceMul,Int.reduceToNat,Int.reduceLT,Int.reduceLE,X2];obtain ⟨g,hg⟩:∃ g,g=yq s x:=⟨_,rfl⟩
  refine Wm (rgap s x fr la ⟨hs,hx.cd,hx.pos⟩) ?_;simp only [↓XC,X1,reduceIte,Nat.reduceAdd,Nat.reduceLT,Nat.reduceEqDiff,Nat.reduceBEq,Nat.reduceLeDiff,reduceCtorEq,Nat.reduceSub,Nat.reduceMul,Int.reduceToNat,Int.reduceLT,Int.reduceLE,X2,XM];rw [←hg,←hxc];refine ⟨fun h1=>?_,fun h1=>?_⟩
  ·have hne:¬g.cd=0:=by simpa using h1
   rw [zfu (by rw [←hg];exact hne),←hg,decide_eq_false hne];exact Wf (by simp only [↓XC,X1,reduceIte,Nat.reduceAdd,Nat.reduceLT,Nat.reduceEqDiff,Nat.reduceBEq,Nat.reduceLeDiff,reduceCtorEq,Nat.reduceSub,Nat.reduceMul,Int.reduceToNat,Int.reduceLT,Int.reduceLE];try first | rfl | simp [Yf])
  have hgz:(yq s x).cd=0:=by rw [←hg];simpa using h1
  obtain ⟨hge,hgl⟩:=wo hgz;have hgo:Ok s g:=by rw [hg];exact hx.gap hgz
  have hgd:g.dp=r.dp+1:=by rw [hg,hge];exact hxd
  have hgev:g.ev=x.ev:=by rw [hg,hge];rfl
  have hgp:g.pos<s.length:=by rw [hg,hge];exact hgl
  have hgsz:=hgo.size hs;rw [←zw hgp];refine ⟨by decide +kernel,CO fun _=>⟨fun h2=>CR fun _=>?_,fun h2=>?_⟩⟩
  ·rw [zfv hgz (by rw [←hg];exact h2),←hg];refine Wb (rshut s (atR g (g.pos+1)) fr la r.ev.length ⟨Nat.le_trans hgsz (by decide),hgo.dn,hgo.bs,by rw [show (atR g (g.pos+1)).ev=x.ev from hgev];exact hxe,by show 0<g.dp;omega,hgo.dp⟩) ?_;simp only [↓XC,X1,reduceIte,Nat.reduceAdd,Nat.reduceLT,Nat.reduceEqDiff,Nat.reduceBEq,Nat.reduceLeDiff,reduceCtorEq,Nat.reduceSub,Nat.reduceMul,Int.reduceToNat,Int.reduceLT,Int.reduceLE,X2,XM];simp only [shR,List.length_append,List.length_cons,List.length_nil,Nat.zero_add];exact Wf (by simp only [↓XC,X1,reduceIte,Nat.reduceAdd,Nat.reduceLT,Nat.reduceEqDiff,Nat.reduceBEq,Nat.reduceLeDiff,reduceCtorEq,Nat.reduceSub,Nat.reduceMul,Int.reduceToNat,Int.reduceLT,Int.reduceLE];try simp [Yf,hgo.cd])
  ·obtain ⟨t,ht⟩:∃ t,t=it g:=⟨_,rfl⟩
   have hN:=HN g hgo hgd;unfold zcl rdC at hN;refine Wb (hN) ?_;simp only [↓XC,X1,reduceIte,Nat.reduceAdd,Nat.reduceLT,Nat.reduceEqDiff,Nat.reduceBEq,Nat.reduceLeDiff,reduceCtorEq,Nat.reduceSub,Nat.reduceMul,Int.reduceToNat,Int.reduceLT,Int.reduceLE,X2,XM];rw [←ht];by_cases htz:t.cd=0
   ·simp only [decide_eq_true htz];simp only [↓XC,X1,reduceIte,Nat.reduceAdd,Nat.reduceLT,Nat.reduceEqDiff,Nat.reduceBEq,Nat.reduceLeDiff,reduceCtorEq,Nat.reduceSub,Nat.reduceMul,Int.reduceToNat,Int.reduceLT,Int.reduceLE,X2,↓Ya,Yb];have htz':(it (yq s x)).cd=0:=by rw [←hg,←ht];exact htz
    have hst:=hit g hgo hgd (by rw [←ht];exact htz);rw [←ht] at hst;have hto:=hst.ok;obtain ⟨g2,hg2⟩:∃ g2,g2=yq s t:=⟨_,rfl⟩
    have hg2':g2=yq s (it (yq s x)):=by rw [hg2,ht,hg]
    refine Wm (rgap s t fr la ⟨hs,htz,hto.pos⟩) ?_;simp only [↓XC,X1,reduceIte,Nat.reduceAdd,Nat.reduceLT,Nat.reduceEqDiff,Nat.reduceBEq,Nat.reduceLeDiff,reduceCtorEq,Nat.reduceSub,Nat.reduceMul,Int.reduceToNat,Int.reduceLT,Int.reduceLE,X2,XM];rw [←hg2];by_cases h2z:g2.cd=0
    ·simp only [decide_eq_true h2z];simp only [↓XC,X1,reduceIte,Nat.reduceAdd,Nat.reduceLT,Nat.reduceEqDiff,Nat.reduceBEq,Nat.reduceLeDiff,reduceCtorEq,Nat.reduceSub,Nat.reduceMul,Int.reduceToNat,Int.reduceLT,Int.reduceLE,X2,↓Ya,Yb];have h2z':(yq s (it (yq s x))).cd=0:=by rw [←hg2'];exact h2z
     have hg2o:Ok s g2:=by rw [hg2];exact hto.gap (by rw [←hg2];exact h2z)
     have hg2p:g2.pos<s.length:=by obtain ⟨e9,h9⟩:=wo (s:=s) (r:=t) (by rw [←hg2];exact h2z);rw [hg2,e9];exact h9
     obtain ⟨t2,ht2⟩:∃ t2,t2=cmR s g2 125:=⟨_,rfl⟩
     have ht2':t2=cmR s (yq s (it (yq s x))) 125:=by rw [ht2,hg2']
     refine Wm (rcomma s g2 fr la 125 ⟨hs,h2z,hg2p⟩) ?_;simp only [↓XC,X1,reduceIte,Nat.reduceAdd,Nat.reduceLT,Nat.reduceEqDiff,Nat.reduceBEq,Nat.reduceLeDiff,reduceCtorEq,Nat.reduceSub,Nat.reduceMul,Int.reduceToNat,Int.reduceLT,Int.reduceLE,X2,XM];rw [show (((125:UInt8).toNat:Nat):Int)=125 from rfl,←ht2];by_cases h3z:t2.cd=0
     ·simp only [decide_eq_true h3z];simp only [↓XC,X1,reduceIte,Nat.reduceAdd,Nat.reduceLT,Nat.reduceEqDiff,Nat.reduceBEq,Nat.reduceLeDiff,reduceCtorEq,Nat.reduceSub,Nat.reduceMul,Int.reduceToNat,Int.reduceLT,Int.reduceLE,X2,↓Ya,Yb];have hrd:=zch hit hx hxd hgz htz' h2z' (by rw [←ht2'];exact h3z);rw [←ht2'] at hrd;have hlt3:=hrd.lt;have hpo3:=hrd.ok.pos;refine ⟨⟨t2,hrd.ok,hrd.dp.trans hxd,Nat.lt_of_lt_of_le hxe hrd.pre.length_le, ?_⟩,by simp only;omega, ?_⟩
      ·rw [zm1 hgz (by rw [←hg];exact h2) htz' h2z' ⟨by rw [←ht2'];exact h3z,by rw [←ht2'];exact hlt3,by omega⟩,←ht2']
      ·exact (Ent.ren1 [0,1,2,3,4] (by decide) (by simp only [Yd];exact ⟨zb (by simp [Yf,Yh]),za fun _=>rfl,za fun _=>rfl,zi,za fun _=>rfl⟩) (by simp [ze,Vg.look,SV.mapH,muL]))
     ·simp only [decide_eq_false h3z];simp only [↓XC,X1,reduceIte,Nat.reduceAdd,Nat.reduceLT,Nat.reduceEqDiff,Nat.reduceBEq,Nat.reduceLeDiff,reduceCtorEq,Nat.reduceSub,Nat.reduceMul,Int.reduceToNat,Int.reduceLT,Int.reduceLE,X2,↓Ya,Yb];rw [zm3 hgz (by rw [←hg];exact h2) htz' h2z' (by rw [←ht2'];exact h3z),←ht2',decide_eq_false h3z];exact Wf (by simp only [↓XC,X1,reduceIte,Nat.reduceAdd,Nat.reduceLT,Nat.reduceEqDiff,Nat.reduceBEq,Nat.reduceLeDiff,reduceCtorEq,Nat.reduceSub,Nat.reduceMul,Int.reduceToNat,Int.reduceLT,Int.reduceLE];try first | rfl | simp [Yf])
    ·simp only [decide_eq_false h2z];simp only [↓XC,X1,reduceIte,Nat.reduceAdd,Nat.reduceLT,Nat.reduceEqDiff,Nat.reduceBEq,Nat.reduceLeDiff,reduceCtorEq,Nat.reduceSub,Nat.reduceMul,Int.reduceToNat,Int.reduceLT,Int.reduceLE,X2,↓Ya,Yb];rw [zm2 hgz (by rw [←hg];exact h2) htz' (by rw [←hg2'];exact h2z),←hg2',decide_eq_false h2z];exact Wf (by simp only [↓XC,X1,reduceIte,Nat.reduceAdd,Nat.reduceLT,Nat.reduceEqDiff,Nat.reduceBEq,Nat.reduceLeDiff,reduceCtorEq,Nat.reduceSub,Nat.reduceMul,Int.reduceToNat,Int.reduceLT,Int.reduceLE];try first | rfl | simp [Yf])
   ·simp only [decide_eq_false htz];simp only [↓XC,X1,reduceIte,Nat.reduceAdd,Nat.reduceLT,Nat.reduceEqDiff,Nat.reduceBEq,Nat.reduceLeDiff,reduceCtorEq,Nat.reduceSub,Nat.reduceMul,Int.reduceToNat,Int.reduceLT,Int.reduceLE,X2,↓Ya,Yb];rw [zm0 hgz (by rw [←hg];exact h2) (by rw [←hg,←ht];exact htz),←hg,←ht,decide_eq_false htz];exact Wf (by simp only [↓XC,X1,reduceIte,Nat.reduceAdd,Nat.reduceLT,Nat.reduceEqDiff,Nat.reduceBEq,Nat.reduceLeDiff,reduceCtorEq,Nat.reduceSub,Nat.reduceMul,Int.reduceToNat,Int.reduceLT,Int.reduceLE];try first | rfl | simp [Yf])
theorem zdt (s:Bs) (r:Rd) (fr:Bool) (la:Int) (sb:Rd→Rd) (ha:Bool) (an tg:Bs) (pf:Int) (pe:Nat) (HL:byt s r.pos=91→zcl Tryz.prog 348 s fr la [.agg [.b ha,.s an,.s tg,.i .i64 pf,.i .i64 (pe:Nat)]] r (coR s sb 93 3 r (⟨ha,an,tg,pe⟩:Pp))) (HM:byt s r.pos=123→zcl Tryz.prog 349 s fr la [.agg [.b ha,.s an,.s tg,.i .i64 pf,.i .i64 (pe:Nat)]] r (coR s (paR s sb) 125 4 r (⟨ha,an,tg,pe⟩:Pp))) (hp:s.length≤1048576∧Ok s r):FnK Tryz.prog 318 1 [.ptr 0 0 0,.agg [.b ha,.s an,.s tg,.i .i64 pf,.i .i64 (pe:Nat)]] (rdC s (r) fr la) (fun z c=>z=.b (decide ((boR s sb r (⟨ha,an,tg,pe⟩:Pp)).cd=0))∧c=(rdC s (boR s sb r (⟨ha,an,tg,pe⟩:Pp)) fr la)):=by
 refine HEx (zt.c (vj.c ka.d)) 76 [[0,3],[0,3,5],[0,3,5,15],[4],[0,3,5,21],[4],[0,3,5,27],[4],[0,3,5,33],[4],[0,3,5,39],[4],[0,3,52],[],[4],[4]] Tryz.func318 [.tmp 4] (fun _=>false) [] [(1,[],[],qa (.q0 3 [3] (.q0 7 [7] (.alt 8 (.q1 9 .fin) .fin)))),(10,[],[],qa (.q0 3 [3] (.q0 7 [7] (.alt 8 (.q1 9 .fin) .fin))))] ?_;simp only [↓XC,X1,seval,X2,zc,ya,zk];obtain ⟨hs,ho⟩:=hp;have hsz:=ho.size hs;have hcd:=ho.cd;rw [zg s ho.pos];refine ⟨by decide +kernel,Chk.mk hs fun _=>⟨fun h1=>?_,fun h1=>⟨fun h2=>?_,fun h2=>⟨fun h3=>?_,fun h3=>⟨fun h4=>?_,fun h4=>?_⟩⟩⟩⟩⟩
 ·have e:boR s sb r (⟨ha,an,tg,pe⟩:Pp)=coR s sb 93 3 r (⟨ha,an,tg,pe⟩:Pp):=by unfold boR;rw [if_pos h1]
  rw [e];have hN:=HL h1;unfold zcl rdC at hN;refine Wb (hN) ?_;simp only [↓XC,X1,seval,X2,XM];exact Wf
 ·have e:boR s sb r (⟨ha,an,tg,pe⟩:Pp)=coR s (paR s sb) 125 4 r (⟨ha,an,tg,pe⟩:Pp):=by unfold boR;rw [if_neg h1,if_pos h2]
  rw [e];have hN:=HM h2;unfold zcl rdC at hN;refine Wb (hN) ?_;simp only [↓XC,X1,seval,X2,XM];exact Wf
 ·have e:boR s sb r (⟨ha,an,tg,pe⟩:Pp)=alR s r ha:=by unfold boR scR;rw [if_neg h1,if_neg h2,if_pos h3]
  rw [e];refine Wb (zuu s r fr la ha an tg pf pe ⟨hs,by omega,ho.dn,ho.bs,ho.cd,ho.pos⟩) ?_;simp only [↓XC,X1,seval,X2,XM];exact Wf
 ·have hqp:r.pos<s.length:=by
   simp only [Bool.or_eq_true,beq_iff_eq] at h4;rcases h4 with h | h
   ·exact zm h (by decide)
   ·exact zm h (by decide)
  have e:boR s sb r (⟨ha,an,tg,pe⟩:Pp)=qtR s r (⟨ha,an,tg,pe⟩:Pp):=by unfold boR scR;rw [if_neg h1,if_neg h2,if_neg h3,if_pos (show isQu (byt s r.pos)=true from h4)]
  rw [e];refine Wb (zuf s r fr la ha an tg pf pe ⟨hs,by omega,ho.dn,ho.bs,ho.cd,hqp⟩) ?_;simp only [↓XC,X1,seval,X2,XM];exact Wf
 have h4':¬isQu (byt s r.pos)=true:=by unfold isQu;simpa using h4
 refine ⟨by decide +kernel,Chk.mk hs fun _=>⟨fun h5=>?_,fun h5=>⟨fun h6=>?_,fun h6=>?_⟩⟩⟩
 ·have e:boR s sb r (⟨ha,an,tg,pe⟩:Pp)=plR s r (⟨ha,an,tg,pe⟩:Pp) (-1) true:=by unfold boR scR;rw [if_neg h1,if_neg h2,if_neg h3,if_neg h4',if_pos h5]
  rw [e];refine Wb (zzg s r fr la ha an tg pf pe (-1) true ⟨hs,by omega,ho.dn,ho.bs,ho.pos⟩) ?_;simp only [↓XC,X1,seval,X2,XM];simp only [plR,atR,yb,zf,List.length_append,List.length_cons,List.length_nil,Nat.zero_add];exact Wf (by simp only [↓XC,X1,seval];try simp [Yf,hcd])
 ·have e:boR s sb r (⟨ha,an,tg,pe⟩:Pp)=yb r 1 [] an tg:=by unfold boR scR;rw [if_neg h1,if_neg h2,if_neg h3,if_neg h4',if_neg (by simpa using h5),if_pos (by simpa [or_assoc] using h6)]
  rw [e];refine Wb (zhy s r fr la 1 [] ha an tg pf pe ⟨by omega,ho.dn,ho.bs⟩) ?_;simp only [↓XC,X1,seval,X2,XM];exact Wf (by simp only [↓XC,X1,seval];try simp [Yf,hcd])
 ·have e:boR s sb r (⟨ha,an,tg,pe⟩:Pp)=flt r 10 r.pos:=by unfold boR scR;rw [if_neg h1,if_neg h2,if_neg h3,if_neg h4',if_neg (by simpa using h5),if_neg (by simpa [or_assoc,and_assoc] using h6)]
  rw [e];refine Wm (wy s r fr la 10 r.pos hcd) ?_;simp only [↓XC,X1,seval,X2,XM];exact Wf
theorem zpa (s:Bs) (r:Rd) (fr:Bool) (la:Int) (sb:Rd→Rd) (HB:∀ (r1:Rd) (ha:Bool) (an tg:Bs) (pf:Int) (pe:Nat),Ok s r1→r1.dp=r.dp→zcl Tryz.prog 318 s fr la [.agg [.b ha,.s an,.s tg,.i .i64 pf,.i .i64 (pe:Nat)]] r1 (boR s sb r1 (⟨ha,an,tg,pe⟩:Pp))) (hp:s.length≤1048576∧Ok s r):FnK Tryz.prog 356 1 [.ptr 0 0 0] (rdC s (r) fr la) (fun z c=>z=.b (decide ((noR s sb r).cd=0))∧c=(rdC s (noR s sb r) fr la)):=by
 refine HEx pn 24 [[0],[0,3,4],[0,3,20],[2],[2]] Tryz.func356 [.tmp 2] (fun i=>i==2) [] [] ?_;simp only [↓XC,X1,seval,X2];obtain ⟨hs,ho⟩:=hp;have hsz:=ho.size hs;have hcd:=ho.cd;obtain ⟨q,hq⟩:∃ q,q=prR s true r:=⟨_,rfl⟩
 obtain ⟨p,hpp⟩:∃ p,p=prP s true r:=⟨_,rfl⟩
 refine Wm (zo7 s r fr la true ⟨hs,hcd,ho.pos,ho.hd,ho.pf⟩) ?_;simp only [↓XC,X1,seval,X2,XM];rw [←hq,←hpp];by_cases hqz:q.cd=0
 ·obtain ⟨a9,e9,l9,l10,_⟩:=xn (fl:=true) ho.pos hcd (by rw [←hq];exact hqz);rw [←hq] at e9;have hqo:Ok s q:=by rw [e9];exact ho.at l9 l10
  have hqd:q.dp=r.dp:=by rw [e9];rfl
  simp only [decide_eq_true hqz];cases hh:p.has
  ·have hF:prF s r=q:=by unfold prF;rw [←hq,←hpp,if_neg (by rw [hh];simp)]
   have hFo:=hqo;have hFd:=hqd;have hFz:=hqz;rw [←hh];simp only [↓XC,X1,seval,X2,↓Ya,Yb,hh];have hN:=HB q false p.an p.tg (r.pos:Nat) p.en hFo hFd;unfold zcl rdC at hN;refine Wb (hN) ?_;simp only [↓XC,X1,seval,X2,XM];have e:noR s sb r=boR s sb q (⟨false,p.an,p.tg,p.en⟩:Pp):=by unfold noR;rw [hF,if_neg (by simpa using hFz),←hpp,←hh]
   rw [e];exact Wf
  ·simp only [↓XC,X1,seval,X2,↓Ya,Yb];obtain ⟨g,hg⟩:∃ g,g=jm s q:=⟨_,rfl⟩
   have hF:prF s r=g:=by unfold prF;rw [←hq,←hpp,if_pos ⟨hqz,hh⟩,hg]
   refine Wm (rgoes s q fr la ⟨hs,hqz,hqo.pos⟩) ?_;simp only [↓XC,X1,seval,X2,XM];rw [←hg];by_cases hFz:g.cd=0
   ·simp only [decide_eq_true hFz];have eg:g=q:=by rw [hg];exact (zhj (by rw [←hg];exact hFz)).1
    have hFo:Ok s g:=by rw [eg];exact hqo
    have hFd:g.dp=r.dp:=by rw [eg];exact hqd
    simp only [↓XC,X1,seval,X2,↓Ya,Yb];have hN:=HB g true p.an p.tg (r.pos:Nat) p.en hFo hFd;unfold zcl rdC at hN;refine Wb (hN) ?_;simp only [↓XC,X1,seval,X2,XM];have e:noR s sb r=boR s sb g (⟨true,p.an,p.tg,p.en⟩:Pp):=by unfold noR;rw [hF,if_neg (by simpa using hFz),←hpp,←hh]
    rw [e];exact Wf
   ·simp only [decide_eq_false hFz];simp only [↓XC,X1,seval,X2,↓Ya,Yb];have e:noR s sb r=g:=by unfold noR;rw [hF,if_pos hFz]
    rw [e,decide_eq_false hFz];exact Wf
 ·simp only [decide_eq_false hqz];simp only [↓XC,X1,seval,X2,↓Ya,Yb];have e:noR s sb r=q:=by
   have hF:prF s r=q:=by unfold prF;rw [←hq,if_neg (fun h=>hqz h.1)]
   unfold noR;rw [hF,if_pos hqz]
  rw [e,decide_eq_false hqz];exact Wf
theorem zo9 (s:Bs) (r:Rd) (fr:Bool) (la:Int) (sb:Rd→Rd) (HS:∀ r1:Rd,Ok s r1→r1.dp=r.dp→zcl Tryz.prog 356 s fr la [] r1 (sb r1)) (hp:s.length≤1048576∧Ok s r):FnK Tryz.prog 358 1 [.ptr 0 0 0] (rdC s (r) fr la) (fun z c=>z=.b (decide ((paR s sb r).cd=0))∧c=(rdC s (paR s sb r) fr la)):=by
 refine HEx (zt.c (vj.c (ka.c (kh.c xb.d)))) 163 [[0],[0,3,4],[0,3,4,23],[2],[0,3,4,5],[2],[0,3,4,5,39],[0,4,5],[0,3,4,5,45],[0,4,5],[0,3,4,5,51],[0,4,5],[0,3,4,5,64],[0,4,5],[0,5,88],[2],[0,6],[0,129],[],[2],[0],[0,142],[2],[0,7],[0,157],[],[2],[2]] Tryz.func358 [.tmp 2] (fun i=>i==2||i==14) [4,14] [(4,[],[],qa (.q0 3 [3] (.q0 7 [7] (.alt 8 (.q1 9 .fin) .fin)))),(10,[],[],qa (.q0 3 [3] (.q0 7 [7] (.alt 8 (.q1 9 .fin) .fin)))),(16,[],[],qa (.q0 3 [3] (.q0 7 [7] (.q1 8 (.alt 9 (.q1 10 (.q1 11 (.q1 12 (.q1 13 (.q1 15 (.q1 16 (.q1 17 (.q0 14 [14] (.q0 18 [18] (.q1 19 (.alt 20 (.alt 21 (.q1 22 (.q1 23 (.q1 24 (.alt 25 (.q1 26 (.q1 27 .fin)) .fin)))) .fin) .fin))))))))))) .fin))))),(17,[],[],qa (.q0 3 [3] (.q0 7 [7] (.q1 8 (qh .fin))))),(23,[],[],qa (.q0 3 [3] (.q0 7 [7] (qd .fin))))] ?_;simp only [↓XC,X1,seval,X2,zc,ya,zk,zr,z7,zp];obtain ⟨hs,ho⟩:=hp;have hsz:=ho.size hs;have hcd:=ho.cd;obtain ⟨q,hq⟩:∃ q,q=prR s true r:=⟨_,rfl⟩
 obtain ⟨p,hpp⟩:∃ p,p=prP s true r:=⟨_,rfl⟩
 refine yp.mut (zo7 s r fr la true ⟨hs,hcd,ho.pos,ho.hd,ho.pf⟩) rfl [0,1,2,3,4] (by simp [Yf]) (by simp only [Ye];exact ⟨by omega,zb (by simp [Yf,Yh,zp]),by omega,za fun _=>rfl,by omega,za fun _=>rfl,by omega,zi,by omega,za fun _=>rfl⟩) (by decide) ?_;simp only [↓XC,X1,seval,X2,zp,XM];rw [←hq,←hpp];refine zav.of (ι:={x:Rd // x=prF s r∧x.cd=0}) (fun x=>⟨[(0,.ptr 0 0 0),(3,.ptr 5 0 0),(4,.b true)],[some (.blk false [.s s,.i .i64 ((x.1).pos:Nat),.slc 1 0 (x.1).ev.length,.slc 2 0 (x.1).ev.length,.mp 3,.slc 4 0 (x.1).hd.length,.i .i64 ((x.1).dp:Nat),.i .i64 (x.1).cd,.i .i64 ((x.1).pl:Nat),.b fr,.i .i64 la]),some (.row false 8 (x.1).ev.length (zu evc evz (x.1).ev)),some (.row false 1 (x.1).ev.length (zu zc1 false (x.1).dn)),some (.mapS (nmI (x.1).ev (x.1).bs)),some (.row false 2 (x.1).hd.length (zu hdc hdz (x.1).hd)),some (.blk false [.b p.has,.s p.an,.s p.tg,.i .i64 (r.pos:Nat),.i .i64 (p.en:Nat)])]⟩) ?_ ?_
 ·by_cases hqz:q.cd=0
  ·obtain ⟨a9,e9,l9,l10,_⟩:=xn (fl:=true) ho.pos hcd (by rw [←hq];exact hqz);rw [←hq] at e9;have hqo:Ok s q:=by rw [e9];exact ho.at l9 l10
   simp only [decide_eq_true hqz];cases hh:p.has
   ·have hF:q=prF s r:=by unfold prF;rw [←hq,←hpp,if_neg (by rw [hh];simp)]
    simp only [↓XC,X1,seval,X2,zp,↓Ya,Yb];exact ⟨⟨q,hF,hqz⟩,(Ent.ren1 [0,1,2,3,4,5] (by decide) (by simp only [Yd];exact ⟨zb (by simp [Yf,Yh]),za fun _=>rfl,za fun _=>rfl,zi,za fun _=>rfl,zb (by simp [Yf])⟩) (by simp [ze,Vg.look,SV.mapH,muL]))⟩
   ·simp only [↓XC,X1,seval,X2,zp,↓Ya,Yb];obtain ⟨g,hg⟩:∃ g,g=jm s q:=⟨_,rfl⟩
    have hF:g=prF s r:=by unfold prF;rw [←hq,←hpp,if_pos ⟨hqz,hh⟩,hg]
    refine Wm (rgoes s q fr la ⟨hs,hqz,hqo.pos⟩) ?_;simp only [↓XC,X1,seval,X2,zp,XM];rw [←hg];by_cases hFz:g.cd=0
    ·simp only [decide_eq_true hFz];simp only [↓XC,X1,seval,X2,zp,↓Ya,Yb];exact ⟨⟨g,hF,hFz⟩,(Ent.ren1 [0,1,2,3,4,5] (by decide) (by simp only [Yd];exact ⟨zb (by simp [Yf,Yh]),za fun _=>rfl,za fun _=>rfl,zi,za fun _=>rfl,zb (by simp [Yf])⟩) (by simp [ze,Vg.look,SV.mapH,muL]))⟩
    ·simp only [decide_eq_false hFz];simp only [↓XC,X1,seval,X2,zp,↓Ya,Yb];have e:paR s sb r=g:=by unfold paR;rw [←hF,if_pos hFz]
     rw [e,decide_eq_false hFz];exact Wf
  ·simp only [decide_eq_false hqz];simp only [↓XC,X1,seval,X2,zp,↓Ya,Yb];have e:paR s sb r=q:=by
    have hF:prF s r=q:=by unfold prF;rw [←hq,if_neg (fun h=>hqz h.1)]
    unfold paR;rw [hF,if_pos hqz]
   rw [e,decide_eq_false hqz];exact Wf
 rintro ⟨F,hF,hFz⟩;have hFo:Ok s F:=by rw [hF];exact ho.prF (by rw [←hF];exact hFz)
 have hFd:F.dp=r.dp:=by obtain ⟨q9,e9,_⟩:=zf8 ho.pos hcd (show (prF s r).cd=0 by rw [←hF];exact hFz);rw [hF,e9];rfl
 have hFsz:=hFo.size hs;simp only [↓XC,X1,seval,X2,zc,ya,zk,zr,z7,zp];rw [zg s hFo.pos];refine ⟨by decide +kernel,Chk.mk hs fun _=>?_⟩;refine zav.of (ι:={x:Rd // x=scR s F p 125 58}) (fun x=>⟨[(0,.ptr 0 0 0),(4,.b (decide (x.1.cd=0))),(5,.i .i64 (byt s F.pos))],[some (.blk false [.s s,.i .i64 ((x.1).pos:Nat),.slc 1 0 (x.1).ev.length,.slc 2 0 (x.1).ev.length,.mp 3,.slc 4 0 (x.1).hd.length,.i .i64 ((x.1).dp:Nat),.i .i64 (x.1).cd,.i .i64 ((x.1).pl:Nat),.b fr,.i .i64 la]),some (.row false 8 (x.1).ev.length (zu evc evz (x.1).ev)),some (.row false 1 (x.1).ev.length (zu zc1 false (x.1).dn)),some (.mapS (nmI (x.1).ev (x.1).bs)),some (.row false 2 (x.1).hd.length (zu hdc hdz (x.1).hd))]⟩) ?_ ?_
 ·simp only [↓XC,X1,seval,X2,zc,ya,zk,zr,z7,zp];refine ⟨fun h3=>?_,fun h3=>⟨fun h4=>?_,fun h4=>⟨by decide +kernel,Chk.mk hs fun _=>?_⟩⟩⟩
  ·have e:scR s F p 125 58=alR s F p.has:=by unfold scR;rw [if_pos h3]
   refine Wb (zuu s F fr la p.has p.an p.tg (r.pos:Nat) p.en ⟨hs,by omega,hFo.dn,hFo.bs,hFz,hFo.pos⟩) ?_;simp only [↓XC,X1,seval,X2,zc,ya,zk,zr,z7,zp,XM];exact ⟨⟨alR s F p.has,e.symm⟩,(Ent.ren1 [0,1,2,3,4] (by decide) (by simp only [Yd];exact ⟨zb (by simp [Yf,Yh]),za fun _=>rfl,za fun _=>rfl,zi,za fun _=>rfl⟩) (by simp [ze,Vg.look,SV.mapH,muL]))⟩
  ·have hqp:F.pos<s.length:=by
    simp only [Bool.or_eq_true,beq_iff_eq] at h4;rcases h4 with h | h
    ·exact zm h (by decide)
    ·exact zm h (by decide)
   have e:scR s F p 125 58=qtR s F p:=by unfold scR;rw [if_neg h3,if_pos (show isQu (byt s F.pos)=true from h4)]
   refine Wb (zuf s F fr la p.has p.an p.tg (r.pos:Nat) p.en ⟨hs,by omega,hFo.dn,hFo.bs,hFz,hqp⟩) ?_;simp only [↓XC,X1,seval,X2,zc,ya,zk,zr,z7,zp,XM];exact ⟨⟨qtR s F p,e.symm⟩,(Ent.ren1 [0,1,2,3,4] (by decide) (by simp only [Yd];exact ⟨zb (by simp [Yf,Yh]),za fun _=>rfl,za fun _=>rfl,zi,za fun _=>rfl⟩) (by simp [ze,Vg.look,SV.mapH,muL]))⟩
  rw [zg s hFo.pos];have h4':¬isQu (byt s F.pos)=true:=by unfold isQu;simpa using h4
  refine ⟨fun h5=>?_,fun h5=>⟨fun h6=>?_,fun h6=>?_⟩⟩
  ·have e:scR s F p 125 58=plR s F p (-1) true:=by unfold scR;rw [if_neg h3,if_neg h4',if_pos h5]
   refine Wb (zzg s F fr la p.has p.an p.tg (r.pos:Nat) p.en (-1) true ⟨hs,by omega,hFo.dn,hFo.bs,hFo.pos⟩) ?_;simp only [↓XC,X1,seval,X2,zc,ya,zk,zr,z7,zp,XM];exact ⟨⟨plR s F p (-1) true,e.symm⟩,(Ent.ren1 [0,1,2,3,4] (by decide) (by simp only [Yd];exact ⟨zb (by simp [Yf,Yh]),za fun _=>rfl,za fun _=>rfl,zi,za fun _=>rfl⟩) (by simp [ze,Vg.look,SV.mapH,muL,hFz,plR,atR,yb,zf]))⟩
  ·have e:scR s F p 125 58=yb F 1 [] p.an p.tg:=by unfold scR;rw [if_neg h3,if_neg h4',if_neg (by simpa using h5),if_pos (by simpa [or_assoc] using h6)]
   refine Wb (zhy s F fr la 1 [] p.has p.an p.tg (r.pos:Nat) p.en ⟨by omega,hFo.dn,hFo.bs⟩) ?_;simp only [↓XC,X1,seval,X2,zc,ya,zk,zr,z7,zp,XM];refine ⟨⟨yb F 1 [] p.an p.tg,e.symm⟩, ?_⟩;simp only [yb,zf,List.length_append,List.length_cons,List.length_nil,Nat.zero_add];exact (Ent.ren1 [0,1,2,3,4] (by decide) (by simp only [Yd];exact ⟨zb (by simp [Yf,Yh]),za fun _=>rfl,za fun _=>rfl,zi,za fun _=>rfl⟩) (by simp [ze,Vg.look,SV.mapH,muL,hFz]))
  ·have e:paR s sb r=flt F 10 F.pos:=by
    have e2:scR s F p 125 58=flt F 10 F.pos:=by unfold scR;rw [if_neg h3,if_neg h4',if_neg (by simpa using h5),if_neg (by simpa [or_assoc,and_assoc] using h6)]
    unfold paR;rw [←hF,←hpp,if_neg (by simpa using hFz),e2,if_pos (by simp [flt])]
   rw [e];refine Wm (wy s F fr la 10 F.pos hFz) ?_;simp only [↓XC,X1,seval,X2,zp,XM];exact Wf
 rintro ⟨x,hx⟩;have e0:paR s sb r=if x.cd≠0 then x else if (yq s x).cd≠0 then yq s x else paK s sb (isQu (byt s F.pos)) (yq s x):=by unfold paR;rw [←hF,←hpp,←hx,if_neg (by simpa using hFz)]
 simp only [↓XC,X1,seval,X2,zc,ya,zk,zr,z7,zp];by_cases hxz:x.cd=0
 ·have hst:=z0r ho hF hFz (by rw [hx,hpp]) hxz;have hxo:=hst.ok;simp only [decide_eq_true hxz];simp only [↓XC,X1,seval,X2,zc,ya,zk,zr,z7,zp,↓Ya,Yb];obtain ⟨g,hg⟩:∃ g,g=yq s x:=⟨_,rfl⟩
  refine Wm (rgap s x fr la ⟨hs,hxz,hxo.pos⟩) ?_;simp only [↓XC,X1,seval,X2,zc,ya,zk,zr,z7,zp,XM];rw [←hg];rw [if_neg (by simpa using hxz),←hg] at e0;by_cases hgz:g.cd=0
  ·simp only [decide_eq_true hgz];simp only [↓XC,X1,seval,X2,zc,ya,zk,zr,z7,zp,↓Ya,Yb];have hgo:Ok s g:=by rw [hg];exact hxo.gap (by rw [←hg];exact hgz)
   have hgd:g.dp=r.dp:=by obtain ⟨e9,h9⟩:=wo (s:=s) (r:=x) (by rw [←hg];exact hgz);rw [hg,e9];exact hst.dp
   have hgp:g.pos<s.length:=by obtain ⟨e9,h9⟩:=wo (s:=s) (r:=x) (by rw [←hg];exact hgz);rw [hg,e9];exact h9
   have hgsz:=hgo.size hs;rw [if_neg (by simpa using hgz)] at e0;have ep:((g.pos:Int)+1).toNat=g.pos+1:=by omega
   have es:byt s (spot s ((g.pos:Int)+1))=byt s (g.pos+1):=by rw [vo (by omega)];rfl
   rw [es,ep,←zw hgp];have hQ:(!decide (byt s g.pos=58)||!(gap s (g.pos+1)||flw (byt s (g.pos+1))||(byt s F.pos==39||byt s F.pos==34)))=!decide (byt s g.pos=58∧(gap s (g.pos+1)||flw (byt s (g.pos+1))||isQu (byt s F.pos))=true):=by rw [Bool.decide_and,Bool.not_and,Bool.decide_eq_true];rfl
   rw [hQ];refine ⟨by decide +kernel,CR fun _=>Chk.mk ⟨hs,by omega⟩ fun _=>Chk.mk (fun _=>(by simp only [inR];omega)) fun _=>Chk.mk (fun h=>⟨⟨h,h⟩,hs⟩) fun _=>⟨by decide +kernel,CO fun _=>⟨fun hc=>?_,fun hc=>CR fun _=>?_⟩⟩⟩
   ·have hc':=of_decide_eq_false (by simpa only [Bool.not_eq_true'] using hc);rw [e0,paK,if_neg hc'];refine Wb (zhy s g fr la 1 [] false [] [] 0 0 ⟨by omega,hgo.dn,hgo.bs⟩) ?_;simp only [↓XC,X1,seval,X2,zc,ya,zk,zr,z7,zp,XM];try simp only [yb,zf,List.length_append,List.length_cons,List.length_nil,Nat.zero_add]
    exact Wf (by simp only [↓XC,X1,seval];try simp [Yf,hgz])
   ·obtain ⟨h,hh⟩:∃ h,h=yq s (atR g (g.pos+1)):=⟨_,rfl⟩
    have hc':=of_decide_eq_true (by simpa only [Bool.not_eq_false'] using hc);rw [paK,if_pos hc',paV,←hh] at e0;refine Wm (rgap s (atR g (g.pos+1)) fr la ⟨hs,hgz,hgp⟩) ?_;simp only [↓XC,X1,seval,TES,zc,ya,zk,zr,z7,XRE,XR,XRH,flt,zf,yb,zp,XM];rw [←hh];refine ⟨fun hz=>?_,fun hz=>?_⟩
    ·have hz':¬h.cd=0:=by simpa using hz
     rw [e0,if_pos hz',decide_eq_false hz'];exact Wf
    ·have hz':h.cd=0:=by simpa using hz
     obtain ⟨e9,h9⟩:=wo (s:=s) (r:=atR g (g.pos+1)) (by rw [←hh];exact hz');rw [←hh] at e9;have hho:Ok s h:=by rw [hh];exact (hgo.at (q:=g.pos+1) (by omega) hgp).gap (by rw [←hh];exact hz')
     have hhd:h.dp=r.dp:=by rw [e9];exact hgd
     have hhp:h.pos<s.length:=by rw [e9];exact h9
     have hhsz:=hho.size hs;rw [if_neg (by simpa using hz')] at e0;rw [←zw hhp,←Bool.decide_or];refine ⟨by decide +kernel,CO fun _=>⟨fun hb=>?_,fun hb=>?_⟩⟩
     ·rw [e0,if_pos (of_decide_eq_true hb)];refine Wb (zhy s h fr la 1 [] false [] [] 0 0 ⟨by omega,hho.dn,hho.bs⟩) ?_;simp only [↓XC,X1,seval,X2,zc,ya,zk,zr,z7,zp,XM];try simp only [yb,zf,List.length_append,List.length_cons,List.length_nil,Nat.zero_add]
      exact Wf (by simp only [↓XC,X1,seval];try simp [Yf,hz'])
     ·rw [e0,if_neg (of_decide_eq_false hb)];have hN:=HS h hho hhd;unfold zcl rdC at hN;refine Wb (hN) ?_;simp only [↓XC,X1,seval,X2,zc,ya,zk,zr,z7,zp,XM];exact Wf
  ·simp only [decide_eq_false hgz];simp only [↓XC,X1,seval,X2,zc,ya,zk,zr,z7,zp,↓Ya,Yb];rw [e0,if_pos hgz,decide_eq_false hgz];exact Wf
 ·simp only [decide_eq_false hxz];simp only [↓XC,X1,seval,X2,zc,ya,zk,zr,z7,zp,↓Ya,Yb];rw [e0,if_pos hxz,decide_eq_false hxz];exact Wf
theorem rnode (s:Bs) (fr:Bool) (la:Int) (hs:s.length≤1048576):∀ (d:Nat) (r:Rd),Ok s r→r.dp+d=40→zcl Tryz.prog 356 s fr la [] r (noF s d r):=by
 intro d
 induction d with
 | zero=>
  intro r ho hd;refine zpa s r fr la id (fun r1 ha an tg pf pe h1 h2=>?_) ⟨hs,ho⟩;refine zdt s r1 fr la id ha an tg pf pe (fun hb=>?_) (fun hb=>?_) ⟨hs,h1⟩
  ·exact zds s r1 fr la id ha an tg pf pe (fun h=>by omega) ⟨hs,h1,zm hb (by decide)⟩
  ·exact zhk s r1 fr la (paR s id) ha an tg pf pe (fun h=>by omega) ⟨hs,h1,zm hb (by decide)⟩
 | succ d ih=>
  intro r ho hd;have hit:zj2 s (r.dp+1) (noF s d):=fun r1 h1 h2 h3=>zel d r1 h1 (by omega) h3;refine zpa s r fr la (noF s d) (fun r1 ha an tg pf pe h1 h2=>?_) ⟨hs,ho⟩;refine zdt s r1 fr la (noF s d) ha an tg pf pe (fun hb=>?_) (fun hb=>?_) ⟨hs,h1⟩
  ·exact zds s r1 fr la (noF s d) ha an tg pf pe (fun h=>by rw [h2];exact ⟨hit,fun r2 k1 k2=>ih r2 k1 (by omega)⟩) ⟨hs,h1,zm hb (by decide)⟩
  ·exact zhk s r1 fr la (paR s (noF s d)) ha an tg pf pe (fun h=>by rw [h2];exact ⟨fun r2 k1 k2 k3=>zgm k1 (by rw [k2];exact hit) k3,fun r2 k1 k2=>zo9 s r2 fr la (noF s d) (fun r3 m1 m2=>ih r3 m1 (by omega)) ⟨hs,k1⟩⟩) ⟨hs,h1,zm hb (by decide)⟩
theorem zn4 (s:Bs) (p:Int) (hp:s.length≤1048576):FnK Tryz.prog 69 0 [.s s,.i .i64 p] [] (fun z c=>z=.ptr 0 0 0∧c=(rdC s ((rdz (spot s p))) false 0)):=by refine FnK.ofX (cf:=zfo Tryz.prog te [(100,zdw)] 12 0 false (fun _=>false) (kp [(0,[0,1]),(1,[4])]) [] []) (zi5 te_ok (l:=[(100,zdw)]) (⟨yd,trivial⟩) zem) Tryz.func69 rfl rfl rfl (by simp [zfo]) (by simp [zfo]) (rs:=[.tmp 4]) rfl 100000 ?_;simp only [↓XC,X1,seval,X2,ye];exact ⟨_,Ent.nl (env':=[(4,.ptr 1 0 0)]) (d:=[some (.mapS []),some (.blk false [.s s,.i .i64 (spot s p:Nat),.slc 2 0 0,.slc 3 0 0,.mp 0,.slc 4 0 0,.i .i64 0,.i .i64 0,.i .i64 0,.b false,.i .i64 0])]) [(8,zu evc evz []),(1,zu zc1 false []),(2,zu hdc hdz [])] (by simp [nlE,nlV,Vg.look]) (by simp [nlC,nlO,nlL,nlV]),⟨[1,2,3,0,4],by decide,by simp only [Yd];exact ⟨zb (by simp [Yf,rdz]),za fun _=>rfl,za fun _=>rfl,zi,za fun _=>rfl⟩,by simp only [↓XC,X1,seval];try first | rfl | simp [Yf],by simp [z6,SO.ro,YC],by simp⟩⟩
end Go.T
end
