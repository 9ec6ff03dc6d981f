/- Own text: part VBD. -/
import Derived.Test.YtgippllfnmdnpaaGreatDoorVBB
import Derived.Test.YtgippllfnmdnpaaGreatDoorVBC
set_option linter.all false
section
namespace Go.T
variable[Go.Vg.df][Go.Vg.cS 0 1]
open Go.Proofs Go.Vg Go.RowKit Go.TT Go.Pl
set_option maxRecDepth 10000
set_option maxHeartbeats 4000000
theorem WS(s:Bs)(r:Rd)(fr:Bool)(la:Int)(b:Bool)(an tg:Bs)(pf:Int)(c:Nat)(a:s.length<=1048576)(f:Ok s r):mg Tryz.prog 318 s fr la [.agg [.b b,.s an,.s tg,.i .i64 pf,.i .i64 (c:Nat)]] r (Cc s r (⟨b,an,tg,c⟩:Pp)):=by
 have n:=f.dp;unfold Cc;split
 ·rename_i m;refine sB s r fr la id b an tg pf c (fun e=>?_) (fun e=>?_) ⟨a,f⟩
  ·exact sC s r fr la id b an tg pf c (fun h=>by omega) ⟨a,f,cE e (by decide)⟩
  exact vu s r fr la (n1 s id) b an tg pf c (fun h=>by omega) ⟨a,f,cE e (by decide)⟩
 rename_i d m;have hit:kw s (r.dp+1) (sW s d):=fun p k t l=>n0 d p k (by omega) l;refine sB s r fr la (sW s d) b an tg pf c (fun e=>?_) (fun e=>?_) ⟨a,f⟩
 ·exact sC s r fr la (sW s d) b an tg pf c (fun h=>⟨hit,fun i g j=>SJ s fr la a d i g (by omega)⟩) ⟨a,f,cE e (by decide)⟩
 exact vu s r fr la (n1 s (sW s d)) b an tg pf c (fun h=>⟨fun i g j o=>pR g (by rw[j];exact hit) o,fun i g j=>Dg s i fr la (sW s d) (fun q m1 m2=>SJ s fr la a d q m1 (by omega)) ⟨a,g⟩⟩) ⟨a,f,cE e (by decide)⟩
theorem RF(s:Bs)(r:Rd)(fr:Bool)(la:Int)(a:Bool)(an tg:Bs)(pf:Int)(b:Nat)(n:Int)(hp:s.length<=1048576/\Ok s r):gQ Tryz.prog 283 1 [.ptr 0 0 0,.agg [.b a,.s an,.s tg,.i .i64 pf,.i .i64 (b:Nat)],.i .i64 n] (iF s (r) fr la) (fun z c=>z=.b (decide ((qD s ⟨r,false,0⟩ (⟨a,an,tg,b⟩:Pp) n).r.cd=0))/\c=(iF s ((qD s ⟨r,false,0⟩ (⟨a,an,tg,b⟩:Pp) n).r) (qD s ⟨r,false,0⟩ (⟨a,an,tg,b⟩:Pp) n).fr la)):=by
 refine l5 (dv.c (u6.c (kr.c iY.d))) 107 [[0,2,4],[0,2,4],[0,2,4,7],[0,2,4,7,24],[0,4,7,8,9,10],[0,4,7,8,9,10,46],[6],[0,4,7,8,9,11],[0,4,8,9,11,52],[0,4,8,9,11],[0,9],[0],[],[6],[0,2,4,7,65],[6],[0,2,4,7,75],[6],[0,2,4,81],[6],[0,2,4,87],[6],[6]] Tryz.func283 [.tmp 6] (fun _=>false) [] [(2,[],[],qa (.q0 3 [3] (.q0 7 [7] (.de 8 (.q1 9 .fin) .fin)))),(4,[],[],qa (.q1 8 (.q0 3 [3] (.q0 7 [7] (.de 9 (.q1 10 (.q1 11 (.q1 12 (.q1 13 (.q1 14 (.q1 15 (.q1 16 .fin))))))) .fin))))),(20,[],[],qa (.q0 3 [3] (.q0 7 [7] (.de 8 (.q1 9 .fin) .fin))))] ?_;simp only[↓XC,X1,seval,X2,bL,u5,dY,cU];obtain⟨p,g⟩:=hp;have l:=g.pos;have x:=g.size p;have f:=g.cd;rw[bQ s l];refine⟨by decide +kernel,bH.mk p fun _=>⟨fun t=>⟨by decide +kernel,bH.mk p fun _=>?_⟩,fun t=>?_⟩⟩
 ·have d:bW s r.pos=124\/bW s r.pos=62:=by simpa using t
  refine⟨fun o=>?_,fun o=>⟨fun m=>?_,fun m=>?_⟩⟩
  ·have j:¬(nQ s r.pos n).2.2=0:=by simpa using o
   refine Wm (gP s r false la (nQ s r.pos n).2.2 (nQ s r.pos n).2.1 f) ?_;simp only[↓XC,X1,seval,X2,XM];have e:qD s ⟨r,false,0⟩ (⟨a,an,tg,b⟩:Pp) n=⟨er r (nQ s r.pos n).2.2 (nQ s r.pos n).2.1,false,0⟩:=by unfold qD;rw[aB d,aB j]
   rw[e];exact Wf (by simp only[↓XC,X1,seval];try simp[Yf,er,j])
  ·have j:¬(nQ s r.pos n).2.2≠0:=by simpa using o
   refine Wb (r5 s r false la 5 (nQ s r.pos n).1 a an tg pf b ⟨by omega,g.dn,g.bs⟩) ?_;simp only[↓XC,X1,seval,X2,XM];have e:qD s ⟨r,false,0⟩ (⟨a,an,tg,b⟩:Pp) n=⟨atR (cY r 5 (nQ s r.pos n).1 an tg) (nQ s r.pos n).2.1,true,0⟩:=by unfold qD;rw[aB d,aA j,aB m]
   rw[e];try simp only[atR,cY,bB,aC,aK,aL,aX]
   exact Wf (by simp only[↓XC,X1,seval];try simp[Yf,f])
  have j:¬(nQ s r.pos n).2.2≠0:=by simpa using o
  refine Wb (r5 s r false la 4 (nQ s r.pos n).1 a an tg pf b ⟨by omega,g.dn,g.bs⟩) ?_;simp only[↓XC,X1,seval,X2,XM];have e:qD s ⟨r,false,0⟩ (⟨a,an,tg,b⟩:Pp) n=⟨atR (cY r 4 (nQ s r.pos n).1 an tg) (nQ s r.pos n).2.1,true,0⟩:=by unfold qD;rw[aB d,aA j,aA m]
  rw[e];try simp only[atR,cY,bB,aC,aK,aL,aX]
  exact Wf (by simp only[↓XC,X1,seval];try simp[Yf,f])
 have d:¬(bW s r.pos=124\/bW s r.pos=62):=by simpa using t
 refine⟨fun o=>?_,fun o=>?_⟩
 ·have i:bW s r.pos=91\/bW s r.pos=123:=by simpa using o
  have w:=WS s r false la a an tg pf b p g;unfold mg iF at w;refine Wb (w) ?_;simp only[↓XC,X1,seval,X2,XM];have e:qD s ⟨r,false,0⟩ (⟨a,an,tg,b⟩:Pp) n=⟨Cc s r (⟨a,an,tg,b⟩:Pp),false,0⟩:=by unfold qD;rw[aA d,aB i]
  rw[e];exact Wf
 have i:¬(bW s r.pos=91\/bW s r.pos=123):=by simpa using o
 refine⟨fun m=>?_,fun m=>⟨fun q=>?_,fun q=>⟨by decide +kernel,bH.mk p fun _=>⟨fun u=>?_,fun u=>?_⟩⟩⟩⟩
 ·refine Wb (EC s r false la a an tg pf b ⟨p,by omega,g.dn,g.bs,f,l⟩) ?_;simp only[↓XC,X1,seval,X2,XM];have e:qD s ⟨r,false,0⟩ (⟨a,an,tg,b⟩:Pp) n=⟨oP s r a,false,0⟩:=by unfold qD;rw[aA d,aA i,aB m]
  rw[e];exact Wf
 ·have k:je (bW s r.pos)=true:=q;have v:r.pos<s.length:=by
   simp only[aV,dx]at q;rcases q with h|h
   ·exact cE h (by decide)
   exact cE h (by decide)
  refine Wb (EJ s r false la a an tg pf b ⟨p,by omega,g.dn,g.bs,f,v⟩) ?_;simp only[↓XC,X1,seval,X2,XM];have e:qD s ⟨r,false,0⟩ (⟨a,an,tg,b⟩:Pp) n=⟨oR s r (⟨a,an,tg,b⟩:Pp),false,0⟩:=by unfold qD;rw[aA d,aA i,aA m,aB k]
  rw[e];exact Wf
 ·have k:¬je (bW s r.pos)=true:=by unfold je;rw[q];simp
  refine Wb (IZ s r false la a an tg pf b n false ⟨p,by omega,g.dn,g.bs,l⟩) ?_;simp only[↓XC,X1,seval,X2,XM];have e:qD s ⟨r,false,0⟩ (⟨a,an,tg,b⟩:Pp) n=⟨E4 s r (⟨a,an,tg,b⟩:Pp) n false,false,0⟩:=by unfold qD;rw[aA d,aA i,aA m,aA k,aB u]
  rw[e];try simp only[E4,atR,cY,bB,aC,aK,aL,aX]
  exact Wf (by simp only[↓XC,X1,seval];try simp[Yf,f])
 have k:¬je (bW s r.pos)=true:=by unfold je;rw[q];simp
 refine Wm (gP s r false la 10 r.pos f) ?_;simp only[↓XC,X1,seval,X2,XM];have e:qD s ⟨r,false,0⟩ (⟨a,an,tg,b⟩:Pp) n=⟨er r 10 r.pos,false,0⟩:=by unfold qD;rw[aA d,aA i,aA m,aA k,aA (by simpa using u)]
 rw[e];exact Wf
theorem WU(s:Bs)(r:Rd)(fr:Bool)(la:Int)(b:Bool)(an tg:Bs)(pf:Int)(d:Nat)(hp:s.length<=1048576/\vG s r/\(jg s r.pos).2.2=true):gQ Tryz.prog 314 1 [.ptr 0 0 0,.agg [.b b,.s an,.s tg,.i .i64 pf,.i .i64 (d:Nat)]] (iF s (r) fr la) (fun z c=>z=.fJ [.i .i64 (jg s r.pos).2.1,.b (decide ((qP s r (⟨b,an,tg,d⟩:Pp)).cd=0))]/\c=(iF s (qP s r (⟨b,an,tg,d⟩:Pp)) fr la)):=by
 refine l5 (ot.c (dv.c kr.d)) 60 [[0,3],[0,3,6,7],[0,3,6,7,9],[0,3,6,7,9,10],[7,9],[0,3,6,7,9,10,46],[7,9],[0,3,6,7,9,52],[7,9],[4,5]] Tryz.func314 [.tmp 4,.tmp 5] (fun _=>false) [] [(1,[],[],qa (.q0 3 [3] (.q0 7 [7] (.de 8 (qg .fin) .fin)))),(3,[],[],qa (.q0 3 [3] (.q0 7 [7] (.de 8 (.q1 9 .fin) .fin)))),(4,[],[],qf (.q1 9 (.q0 4 [4,10,12] (.q0 8 [8,10,12] (.q1 10 (.q0 11 [11,12] (.seq [12])))))))] ?_;simp only[↓XC,X1,seval,X2,fI,bL,dY];obtain⟨j,f,l⟩:=hp;have a:=f.pos;have h:=f.cd;have m:=f.sz;obtain⟨n,o,p,q,t⟩:=jz (cJ a) l;rw[bQ s (cJ a)];refine⟨by decide +kernel,bH.mk j fun _=>⟨by decide +kernel,bH.mk j fun _=>⟨fun i=>?_,fun i=>⟨fun k=>?_,fun k=>⟨by decide +kernel,bH.mk ⟨by omega,by omega,by omega⟩ fun _=>?_⟩⟩⟩⟩⟩
 ·refine Wb (EC s r fr la b an tg pf d ⟨j,by omega,f.dn,f.bs,h,cJ a⟩) ?_;simp only[↓XC,X1,seval,X2,XM];have e:qP s r (⟨b,an,tg,d⟩:Pp)=oP s r b:=by unfold qP;rw[aB i]
  rw[e];exact Wf
 ·have g:je (bW s r.pos)=true:=k;refine Wb (EJ s r fr la b an tg pf d ⟨j,by omega,f.dn,f.bs,h,a⟩) ?_;simp only[↓XC,X1,seval,X2,XM];have e:qP s r (⟨b,an,tg,d⟩:Pp)=oR s r (⟨b,an,tg,d⟩:Pp):=by unfold qP;rw[aA i,aB g]
  rw[e];exact Wf
 have g:¬je (bW s r.pos)=true:=by unfold je;rw[k];simp
 rw[show List.drop r.pos (List.take (jg s r.pos).1.toNat s)=sub s r.pos (jg s r.pos).1.toNat from rfl];refine Wb (r5 s r fr la 1 (sub s r.pos (jg s r.pos).1.toNat) b an tg pf d ⟨by omega,f.dn,f.bs⟩) ?_;simp only[↓XC,X1,seval,X2,XM];have e:qP s r (⟨b,an,tg,d⟩:Pp)=cY r 1 (sub s r.pos (jg s r.pos).1.toNat) an tg:=by unfold qP;rw[aA i,aA g]
 rw[e];try simp only[atR,cY,bB,aC,aK,aL,aX]
 exact Wf (by simp only[↓XC,X1,seval];try simp[Yf,h])
theorem rvalue(s:Bs)(x:Rb)(f:Int->Bool->Bool->Rb->Rb)(sg:Nat)(b:Int)(li:Bool)(I:∀(n:Int) (i l:Bool) (C:Rb),Ok s C.r->C.r.dp=x.r.dp->lU Tryz.prog 252 s [.i .i64 n,.b i,.b l] C (f n i l C))(hp:s.length<=1048576/\Ok s (atR x.r (sg+1))/\x.r.ev.length+1<=8*(sg+1)+64/\sg<s.length):gQ Tryz.prog 315 1 [.ptr 0 0 0,.i .i64 (sg:Nat),.i .i64 b,.b li] (iF s ((x).r) (x).fr ((x).lt:Nat)) (fun z c=>z=.b (decide ((ls s f sg b li x).r.cd=0))/\c=(iF s (((ls s f sg b li x)).r) ((ls s f sg b li x)).fr (((ls s f sg b li x)).lt:Nat))):=by
 refine l5 (kd.c gI.d) 66 [[0,1,2,3],[0,1,2,3,9,10],[0,1,2,3,9,22],[0,2,3],[8],[0,2,3,9,42],[8],[0,2,3,9,56],[],[8],[8]] Tryz.func315 [.tmp 8] (fun _=>true) [] [] ?_;simp only[↓XC,X1,seval,X2,fb,dK];obtain⟨u,B,L,m⟩:=hp;have D:x.r.cd=0:=B.cd;have K:x.r.dn.length=x.r.ev.length:=B.dn;have J:x.r.bs<=x.r.ev.length:=B.bs;have G:=gY s (sg+1);have H:=gO s (sg+1) m;have E:=fq s (sg+1);have w:=ez s (sg+1) m;have M:=gV (s:=s) (p:=sg+1) m;rw[show spot s ((sg:Int)+1)=sg+1 from by unfold spot;omega,show(sg:Int)+1=((sg+1:Nat):Int) by omega];refine CR fun _=>bH.mk u fun _=>⟨fun h=>CR fun _=>bH.mk u fun _=>?_,fun h=>CR fun _=>?_⟩
 ·have t:(iA s (sg+1)).2=false:=by simpa using h
  have v:=I b (!li) false (bI x (atR x.r (wh s (sg+1)))) (uZ (r:=atR x.r (sg+1)) B (by simp only[atR];omega) G H) rfl;unfold lU iF at v;refine Wb (v) ?_;simp only[↓X9,X0,seval,X2,bI,XM];have e:ls s f sg b li x=f b (!li) false (bI x (atR x.r (wh s (sg+1)))):=by unfold ls;rw[aB t]
  rw[e];exact Wf
 have t:¬(iA s (sg+1)).2=false:=by simpa using h
 refine Wm (GV s x.r x.fr (x.lt:Nat) (sg+1) ⟨u,D,m⟩) ?_;simp only[↓X9,X0,seval,X2,bI,XM];obtain⟨g,o⟩:∃g,g=jn s x.r (sg+1):=⟨_,rfl⟩
 rw[<-o];by_cases a:g.cd=0
 ·simp only[aJ a];simp only[↓X9,X0,seval,X2];have q:g=atR x.r (dR s (sg+1)):=by rw[o];exact jU (by rw[<-o];exact a)
  have A:g.pos<=s.length:=by rw[q];exact w
  have d:Ok s g:=by rw[q];exact uZ (r:=atR x.r (sg+1)) B (by simp only[atR];omega) E w
  have y:g.ev.length<=16777216:=cv (d.size u) (by decide);have F:g.dp=x.r.dp:=by rw[q];rfl
  refine Wm (qc s g x.fr (x.lt:Nat) g.pos ⟨u,A⟩) ?_;simp only[↓X9,X0,seval,X2,bI,XM];by_cases k:fV s g.pos=true
  ·simp only[k];simp only[↓X9,X0,seval,X2];refine Wb (r4 s g x.fr (x.lt:Nat) false [] [] 0 0 (iA s (sg+1)).1 ⟨y,d.dn,d.bs⟩) ?_;simp only[↓X9,X0,seval,X2,bI,XM];have e:ls s f sg b li x=qJ x g (kF 0) (iA s (sg+1)).1:=by unfold ls;rw[aA t,<-o,aA (by simpa using a),aB (.inl k)]
   rw[e];try simp only[qJ,kF,BD,atR,cY,bB,aC,aK,aL,aX]
   exact Wf (by simp only[↓XC,X1,seval];try simp[Yf,bI,a])
  rw[ga]at k;simp only[k];simp only[↓X9,X0,seval,X2];refine Wm (K4 s g x.fr (x.lt:Nat) b (!li) ⟨u,A⟩) ?_;simp only[↓X9,X0,seval,X2,bI,XM];by_cases j:Ib s g.pos b (!li)=true
  ·simp only[j];simp only[↓X9,X0,seval,X2];have v:=I b false (!li) (bI x g) d F;unfold lU iF at v;refine Wb (v) ?_;simp only[↓X9,X0,seval,X2,bI,XM];have e:ls s f sg b li x=f b false (!li) (bI x g):=by unfold ls;rw[aA t,<-o,aA (by simpa using a),aA (by rw[k,j];simp)]
   rw[e];exact Wf
  rw[ga]at j;simp only[j];simp only[↓X9,X0,seval,X2];refine Wb (r4 s g x.fr (x.lt:Nat) false [] [] 0 0 (iA s (sg+1)).1 ⟨y,d.dn,d.bs⟩) ?_;simp only[↓X9,X0,seval,X2,bI,XM];have e:ls s f sg b li x=qJ x g (kF 0) (iA s (sg+1)).1:=by unfold ls;rw[aA t,<-o,aA (by simpa using a),aB (.inr j)]
  rw[e];try simp only[qJ,kF,BD,atR,cY,bB,aC,aK,aL,aX]
  exact Wf (by simp only[↓XC,X1,seval];try simp[Yf,bI,a])
 simp only[aI a];simp only[↓X9,X0,seval,X2];have e:ls s f sg b li x=bI x g:=by unfold ls;rw[aA t,<-o,aB a]
 rw[e];exact Wf (by simp only[↓XC,X1,seval];try simp[Yf,bI,a])
end Go.T
end
section
namespace Go.T
variable[Go.Vg.df][Go.Vg.cS 0 1]
open Go.Proofs Go.Vg Go.RowKit Go.TT Go.Pl
set_option maxRecDepth 10000
set_option maxHeartbeats 4000000
theorem Db(s:Bs)(x:Rb)(p:Int->Bool->Bool->Rb->Rb)(G:Bool)(D F:Bs)(V:Int)(E:Nat)(B:Bool)(an tg:Bs)(A M:Nat)(HS:x.r.dp<40->kM s (x.r.dp+1) p/\∀(n:Int) (i l:Bool) (x1:Rb),Ok s x1.r->x1.r.dp=x.r.dp+1->lU Tryz.prog 252 s [.i .i64 n,.b i,.b l] x1 (p n i l x1))(hp:s.length<=1048576/\Ok s x.r/\(jg s x.r.pos).2.2=true/\A<=s.length):gQ Tryz.prog 280 1 [.ptr 0 0 0,.agg [.b G,.s D,.s F,.i .i64 V,.i .i64 (E:Nat)],.agg [.b B,.s an,.s tg,.i .i64 (A:Nat),.i .i64 (M:Nat)]] (iF s ((x).r) (x).fr ((x).lt:Nat)) (fun z c=>z=.b (decide ((v7 s p (⟨G,D,F,E⟩:Pp) (⟨B,an,tg,M⟩:Pp) A x).r.cd=0))/\c=(iF s (((v7 s p (⟨G,D,F,E⟩:Pp) (⟨B,an,tg,M⟩:Pp) A x)).r) ((v7 s p (⟨G,D,F,E⟩:Pp) (⟨B,an,tg,M⟩:Pp) A x)).fr (((v7 s p (⟨G,D,F,E⟩:Pp) (⟨B,an,tg,M⟩:Pp) A x)).lt:Nat))):=by
 refine l5 (nR.c ot.d) 122 [[0,4,5],[0,4,5,7],[0,4,5,7,22],[0,4,5,7],[0,4,5,7,8],[0,5,8,9,10],[0,5,8,9,39],[6],[0,5,8,9,11,12],[0,5,8,9,59],[6],[0,5,8,9,13],[0,5,8,9,13,69],[6],[0,5,8,9,84],[6],[0,5,8,9,12],[0,5,8,9,100],[6],[0,5,8,9,16],[0,5,8,9,115],[6]] Tryz.func280 [.tmp 6] (fun _=>true) [4] [(11,[],[],qa (.q0 3 [3] (.q0 7 [7] (.de 8 (.q1 9 .fin) .fin)))),(19,[],[],qa (.q0 3 [3] (.q0 7 [7] (.de 8 (qg .fin) .fin))))] ?_;simp only[↓XC,X1,seval,X2,iv,fI,bX];obtain⟨N,W,hk,bc⟩:=hp;have aj:=W.pos;have bb:=W.cd;have az:=W.size N;have hl:x.r.pos<s.length:=by have:=jz aj hk;omega
 refine kT.of (ι:={f:Nat // f=if B=true then A else x.r.pos}) (fun f=>⟨[(0,.ptr 0 0 0),(4,.ptr 5 0 0),(5,.ptr 6 0 0),(7,.i .i64 (f.1:Nat))],(Mt s ((x).r) (x).fr ((x).lt:Nat) [some (.gA false [.b G,.s D,.s F,.i .i64 V,.i .i64 (E:Nat)]),some (.gA false [.b B,.s an,.s tg,.i .i64 (A:Nat),.i .i64 (M:Nat)])])⟩) ?_ ?_
 ·simp only[↓X9,X0,seval,X2,bX,bI];exact⟨fun h=>⟨⟨A,by rw[aB h]⟩,cG.refl _ _⟩,fun h=>⟨⟨x.r.pos,by rw[aA (by rw[h];simp)]⟩,(cG.cT [0,1,2,3,4,5,6] (by decide) (by simp only[Yd];exact⟨aM (by simp[Yf,Yh,bI]),aF fun _=>rfl,aF fun _=>rfl,cB,aF fun _=>rfl,aM (by simp[Yf]),aM (by simp[Yf])⟩) (by simp[bC,Vg.look,SV.bP,dX,bI]))⟩⟩
 rintro⟨f,hf⟩;have ax:f<=s.length:=by rw[hf];split<;>omega
 simp only[↓X9,X0,seval,X2,iv,bX,bI];rw[bQ s ax];refine bH.mk N fun _=>?_;refine Wb (K8 s x.r x.fr (x.lt:Nat) 4 7 G D F V E f ⟨cv az (by decide),W.dn,W.bs,W.cd,by decide,W.dp⟩) ?_;simp only[↓X9,X0,seval,X2,bX,bI,XM];obtain⟨ro,H⟩:∃ro,ro=jt x.r 4 7 (⟨G,D,F,E⟩:Pp) f:=⟨_,rfl⟩
 rw[<-H];by_cases hz:ro.cd=0
 ·simp only[aJ hz];simp only[↓X9,X0,seval,X2,bX,bI];obtain⟨hM,e1,e2,e3,e4,e5,e6⟩:=rp W hl (show(jt x.r 4 7 (⟨G,D,F,E⟩:Pp) f).cd=0 by rw[<-H];exact hz);rw[<-H]at hM e1 e2 e3 e4 e5;rw[aA (show ¬40<=x.r.dp by omega)];have e:(v7 s p (⟨G,D,F,E⟩:Pp) (⟨B,an,tg,M⟩:Pp) A x)=uo s p (gL s f) x.r.ev.length (⟨B,an,tg,M⟩:Pp) (bI x ro):=by unfold v7;rw[<-hf,<-H,aA (by simpa using hz)]
  rw[e];obtain⟨R,hR⟩:∃R,R=uo s p (gL s f) x.r.ev.length (⟨B,an,tg,M⟩:Pp) (bI x ro):=⟨_,rfl⟩
  rw[<-hR];obtain⟨al,HN⟩:=HS e6;refine cF.of (ι:={y:Pp×Int×Rb // vG s y.2.2.r/\y.2.2.r.dp=x.r.dp+1/\x.r.ev.length<y.2.2.r.ev.length/\(jg s y.2.2.r.pos).2.2=true/\uo s p (gL s f) x.r.ev.length y.1 y.2.2=R}) (fun y=>⟨[(0,.ptr 0 0 0),(5,.ptr 6 0 0),(8,.i .i64 (gL s f:Nat)),(9,.i .i64 (x.r.ev.length:Nat))],(Mt s ((y.1.2.2).r) (y.1.2.2).fr ((y.1.2.2).lt:Nat) [some (.gA false [.b G,.s D,.s F,.i .i64 V,.i .i64 (E:Nat)]),some (.gA false [.b y.1.1.has,.s y.1.1.an,.s y.1.1.tg,.i .i64 y.1.2.1,.i .i64 (y.1.1.en:Nat)])])⟩) (fun y=>s.length-y.1.2.2.r.pos) ⟨((⟨B,an,tg,M⟩:Pp),(A:Nat),bI x ro),hM,e5,(by show _<ro.ev.length;rw[e2];simp),(by show(jg s ro.pos).2.2=true;rw[e1];exact hk),hR.symm⟩ (cG.cT [0,1,2,3,4,5,6] (by decide) (by simp only[Yd];exact⟨aM (by simp[Yf,Yh,bI]),aF fun _=>rfl,aF fun _=>rfl,cB,aF fun _=>rfl,aM (by simp[Yf]),aM (by simp[Yf])⟩) (by simp[bC,Vg.look,SV.bP,dX,bI])) ?_;rintro⟨⟨own,fy,y⟩,r,S,ar,T,d⟩;simp only[YC];simp only[↓X9,X0,seval,X2,bX,bI];obtain⟨K,I,L,J⟩:=own;simp only at r S ar T d;obtain⟨k1,k2,k3,k4,k5⟩:=jz (cJ r.pos) T;have ba:=r.sz;have ae:=r.pos;refine Wb (WU s y.r y.fr (y.lt:Nat) K I L fy J ⟨N,r,T⟩) ?_;simp only[↓X9,X0,seval,X2,bX,bI,XM];obtain⟨u,t⟩:∃u,u=qP s y.r (⟨K,I,L,J⟩:Pp):=⟨_,rfl⟩
  rw[<-t];by_cases j:u.cd=0
  ·simp only[aJ j];simp only[↓X9,X0,seval,X2,bX,bI];obtain⟨ke,kq,U,bd⟩:=F3 r.cd (cJ r.pos) (show(qP s y.r (⟨K,I,L,J⟩:Pp)).cd=0 by rw[<-t];exact j);rw[<-t]at U;have ah:Ok s (atR u ((jg s y.r.pos).2.1.toNat+1)):=by rw[U];exact⟨r.cd,k3,by simp[hB,atR,bB,r.dn],by simp only[hB,atR,bB,aC];have:=r.bs;omega,r.dp,by simp only[hB,atR,bB,aC,aH];omega,r.hd,r.pf⟩
   have af:u.ev.length+1<=8*((jg s y.r.pos).2.1.toNat+1)+64:=by rw[U];simp only[hB,atR,bB,aC,aH];omega
   have ag:u.dp=x.r.dp+1:=by rw[U];exact S
   obtain⟨v,hv⟩:∃v,v=ls s p (jg s y.r.pos).2.1.toNat (gL s f:Nat) false (bI y u):=⟨_,rfl⟩
   have hV:=rvalue s (bI y u) p (jg s y.r.pos).2.1.toNat (gL s f:Nat) false (fun n i l x1 h1 h2=>HN n i l x1 h1 (by rw[h2];exact ag)) ⟨N,ah,af,k3⟩;rw[k5,<-hv]at hV;simp only[bI]at hV;refine Wb (hV) ?_;simp only[↓X9,X0,seval,X2,bX,bI,XM];by_cases m:v.r.cd=0
   ·have a1:Vw s u ((jg s y.r.pos).2.1.toNat+1) v.r:=by
     have h:=m;rw[hv]at h |-
     exact xX (x:=bI y u) (by show kM s u.dp p;rw[ag];exact al) ah af k3 h
    simp only[aJ m];simp only[↓X9,X0,seval,X2,bX,bI];have a6:=a1.ok;refine Wm (Pd s v.r v.fr (v.lt:Nat) ⟨N,m,a6.pos⟩) ?_;simp only[↓X9,X0,seval,X2,bX,bI,XM];obtain⟨w,hw⟩:∃w,w=nG s v:=⟨_,rfl⟩
    have a7:(nG s ⟨v.r,v.fr,0⟩).r=w.r:=by rw[hw];rfl
    rw[a7,show v.r.pos=w.lt by rw[hw,(rm s v).2],show v.fr=w.fr by rw[hw,(rm s v).1]];have g:j8 s p (gL s f) (⟨K,I,L,J⟩:Pp) y=w:=by unfold j8;rw[<-t,aA (by simpa using j),<-hv,aA (by simpa using m),hw]
    by_cases a:w.r.cd=0
    ·simp only[aJ a];simp only[↓X9,X0,seval,X2,iv,bX,bI];obtain⟨v2,b⟩:=Gh (c:=gL s f) (own:=(⟨K,I,L,J⟩:Pp)) (by rw[S];exact al) r T (by rw[g];exact a);rw[g]at b;have Q:w.r.pos<=s.length:=by rw[b.eq.1];exact ez s _ b.ok.pos
     rw[bQ s Q];refine⟨by decide +kernel,bH.mk N fun _=>?_⟩;refine Wm (qc s w.r w.fr (w.lt:Nat) w.r.pos ⟨N,Q⟩) ?_;simp only[↓X9,X0,seval,X2,iv,bX,bI,XM];have ap:=b.ok;have aq:w.r.ev=v2.ev:=by rw[b.eq.1];rfl
     have o:Ok s w.r:=by rw[b.eq.1];exact ap.at (fq s v2.pos) (ez s v2.pos ap.pos)
     have Y:w.r.ev.length<=16777216:=cv (o.size N) (by decide);have ad:x.r.ev.length<w.r.ev.length:=by rw[aq];exact dA ar b.pre.length_le
     have a8:w.r.dp=x.r.dp+1:=by rw[b.eq.1];exact b.dp.trans S
     have X:=o.dp;cases ao:fV s w.r.pos
     ·simp only[↓X9,X0,seval,X2,bX,bI];refine⟨fun h2=>?_,fun h2=>?_⟩
      ·refine Wb (K5 s w.r w.fr x.r.ev.length w.lt ⟨Y,o.dn,o.bs,ad,by omega,X⟩) ?_;simp only[↓X9,X0,seval,X2,bX,bI,XM];have e:R=yb w x.r.ev.length:=by rw[<-d,Oa g a (.inr (by omega))]
       rw[e];try simp only[yb,atR,mH,aC,aK,aL,aX]
       exact Wf (by simp only[↓XC,X1,seval];try simp[Yf,bI,a])
      have O:¬(fV s w.r.pos=true\/gL s w.r.pos<gL s f):=by rw[ao];simp only[bU,false_or];omega
      refine⟨fun h3=>?_,fun h3=>?_⟩
      ·refine Wm (gP s w.r w.fr (w.lt:Nat) 9 w.r.pos a) ?_;simp only[↓X9,X0,seval,X2,bX,bI,XM];have e:R=bI w (er w.r 9 w.r.pos):=by rw[<-d,Sy g a O (by omega)]
       rw[e];exact Wf
      have Z:¬gL s f<gL s w.r.pos:=by omega
      refine Wm (AU s w.r w.fr (w.lt:Nat) false ⟨N,a,Q,o.hd,o.pf⟩) ?_;simp only[↓X9,X0,seval,X2,bX,bI,XM];obtain⟨q,C⟩:∃q,q=iP s false w.r:=⟨_,rfl⟩
      obtain⟨pp,ak⟩:∃pp,pp=ia s false w.r:=⟨_,rfl⟩
      rw[<-C,<-ak];by_cases k:q.cd=0
      ·simp only[aJ k];simp only[↓X9,X0,seval,X2,fI,bX,bI];obtain⟨qp,e9,l9,au,_⟩:=jr (fl:=false) Q a (show(iP s false w.r).cd=0 by rw[<-C];exact k);rw[<-C]at e9;have ab:q.pos<=s.length:=by rw[e9];exact au
       rw[bQ s ab];refine⟨by decide +kernel,bH.mk N fun _=>⟨fun h5=>?_,fun h5=>?_⟩⟩
       ·refine Wm (gP s q w.fr (w.lt:Nat) 10 q.pos k) ?_;simp only[↓X9,X0,seval,X2,bX,bI,XM];have e:R=bI w (er q 10 q.pos):=by rw[<-d,N9 g a O Z (by rw[<-C];exact k) (by rw[<-C];simpa using h5),C]
        rw[e];exact Wf
       have P:(jg s q.pos).2.2=true:=by simpa using h5
       have ay:qp<s.length:=by rw[e9]at P;have h:=jz (show(atR w.r qp).pos<=s.length from au) P;have h1:=h.2.2.1;have h2:=h.2.2.2.1;simp only[atR]at h1 h2;omega
       have aa:q=atR v2 qp:=by rw[e9,b.eq.1];rfl
       obtain⟨aw,h6,h7⟩:=b.next (q:=qp) r (by decide) (by rw[b.eq.1]at l9;exact l9) ay
       refine⟨⟨(pp,(w.r.pos:Nat),bI w q), ?_, ?_, ?_,P, ?_⟩, ?_,(cG.cT [0,1,2,3,4,5,6] (by decide) (by simp only[Yd];exact⟨aM (by simp[Yf,Yh,bI]),aF fun _=>rfl,aF fun _=>rfl,cB,aF fun _=>rfl,aM (by simp[Yf]),aM (by simp[Yf])⟩) (by simp[bC,Vg.look,SV.bP,dX,bI]))⟩
       ·show vG s q;rw[aa];exact aw
       ·show q.dp=_;rw[e9];exact a8
       ·show _<q.ev.length;rw[e9];exact ad
       ·show uo s p (gL s f) x.r.ev.length pp (bI w q)=R;rw[<-d,SA g a O Z (by rw[<-C];exact k) (by rw[<-C];exact P) ⟨by rw[<-C,aa];exact h6,ae⟩,C,ak]
       show s.length-q.pos<_;rw[aa];simp only[atR];omega
      simp only[aI k];simp only[↓X9,X0,seval,X2,bX,bI];have e:R=bI w q:=by rw[<-d,SB g a O Z (by rw[<-C];exact k),C]
      rw[e];exact Wf (by simp only[↓XC,X1,seval];try simp[Yf,bI,k])
     simp only[↓X9,X0,seval,X2,bX,bI];refine Wb (K5 s w.r w.fr x.r.ev.length w.lt ⟨Y,o.dn,o.bs,ad,by omega,X⟩) ?_;simp only[↓X9,X0,seval,X2,bX,bI,XM];have e:R=yb w x.r.ev.length:=by rw[<-d,Oa g a (.inl ao)]
     rw[e];try simp only[yb,atR,mH,aC,aK,aL,aX]
     exact Wf (by simp only[↓XC,X1,seval];try simp[Yf,bI,a])
    simp only[aI a];simp only[↓X9,X0,seval,X2,bX,bI];have e:R=w:=by rw[<-d,CW g a]
    rw[e];exact Wf (by simp only[↓XC,X1,seval];try simp[Yf,bI,a])
   simp only[aI m];simp only[↓X9,X0,seval,X2,bX,bI];have e:R=v:=by rw[<-d,CW (w:=v) (by unfold j8;rw[<-t,aA (by simpa using j),<-hv,aB m]) m]
   rw[e];exact Wf (by simp only[↓XC,X1,seval];try simp[Yf,bI,m])
  simp only[aI j];simp only[↓X9,X0,seval,X2,bX,bI];have e:R=bI y u:=by rw[<-d,CW (w:=bI y u) (by unfold j8;rw[<-t,aB j]) j]
  rw[e];exact Wf (by simp only[↓XC,X1,seval];try simp[Yf,bI,j])
 simp only[aI hz];simp only[↓X9,X0,seval,X2,bX,bI];have e:(v7 s p (⟨G,D,F,E⟩:Pp) (⟨B,an,tg,M⟩:Pp) A x)=bI x ro:=by unfold v7;rw[<-hf,<-H,aB hz]
 rw[e];exact Wf (by simp only[↓XC,X1,seval];try simp[Yf,bI,hz])
end Go.T
end
section
namespace Go.T
variable[Go.Vg.df][Go.Vg.cS 0 1]
open Go.Proofs Go.Vg Go.RowKit Go.TT Go.Pl
set_option maxRecDepth 10000
set_option maxHeartbeats 4000000
theorem AO(s:Bs)(x:Rb)(j:Int->Bool->Bool->Rb->Rb)(u:Bool)(p t:Bs)(F:Int)(r:Nat)(HS:x.r.dp<40->kM s (x.r.dp+1) j/\∀(n:Int) (i l:Bool) (N:Rb),Ok s N.r->N.r.dp=x.r.dp+1->lU Tryz.prog 252 s [.i .i64 n,.b i,.b l] N (j n i l N))(hp:s.length<=1048576/\Ok s x.r/\x.r.pos<s.length):gQ Tryz.prog 282 1 [.ptr 0 0 0,.agg [.b u,.s p,.s t,.i .i64 F,.i .i64 (r:Nat)]] (iF s ((x).r) (x).fr ((x).lt:Nat)) (fun z c=>z=.b (decide ((xG s j (⟨u,p,t,r⟩:Pp) x).r.cd=0))/\c=(iF s (((xG s j (⟨u,p,t,r⟩:Pp) x)).r) ((xG s j (⟨u,p,t,r⟩:Pp) x)).fr (((xG s j (⟨u,p,t,r⟩:Pp) x)).lt:Nat))):=by
 refine l5 (nR.c p4.d) 94 [[0,3],[0,3,5],[0,5,6,7],[0,5,6,29],[4],[0,5,6,42],[4],[0,5,6,8],[0,5,6,8,52],[4],[0,5,6,84],[4]] Tryz.func282 [.tmp 4] (fun _=>true) [3] [(1,[],[],qa (.q0 3 [3] (.q0 7 [7] (.de 8 (.q1 9 .fin) .fin)))),(2,[],[],.q1 0 (.q1 2 (.q1 3 (.q1 4 (.q0 1 [1,6,7,8,9,10,11] (.q0 5 [5,6,7,8,9,10,11] (.de 6 (.de 7 (.de 8 (.de 9 (.seq [10,11]) (.de 10 (.seq [9,11]) .fin)) (.de 9 (.seq [8,10,11]) .fin)) .fin) .fin))))))),(7,[],[],qa (.q0 3 [3] (.q0 7 [7] (.de 8 (.q1 9 .fin) .fin)))),(8,[],[],qe (.q0 4 [4,5,6,7,8,9,10,11,12,13,14,15,16,17,18,19,20,21,22,23,24,25,26,27,28] (.de 5 (.q1 6 (.q1 7 (.q1 8 (qg (.q1 16 (.q1 17 (.q1 18 (.q1 20 (.q1 21 (.q1 22 (.de 19 (.seq [23,24,25,26,27,28]) (.de 23 (.seq [19,24,25,26,27,28]) .fin)))))))))))) .fin)))] ?_;simp only[↓XC,X1,seval,X2,iv,fw,bX];obtain⟨H,G,hl⟩:=hp;have U:=G.pos;have al:=G.cd;have ad:=G.size H;rw[bQ s U];refine⟨by decide +kernel,bH.mk H fun _=>?_⟩;obtain⟨ro,A⟩:∃ro,ro=jt x.r 3 7 (⟨u,p,t,r⟩:Pp) x.r.pos:=⟨_,rfl⟩
 refine kT.of (ι:=Unit) (fun _=>⟨[(0,.ptr 0 0 0),(5,.i .i64 (gL s x.r.pos:Nat)),(6,.i .i64 (if 40<=x.r.dp then 0 else x.r.ev.length:Nat)),(7,.b (decide (ro.cd=0)))],(Mt s (ro) x.fr (x.lt:Nat) [some (.gA false [.b u,.s p,.s t,.i .i64 F,.i .i64 (r:Nat)])])⟩) ?_ ?_
 ·simp only[↓X9,X0,seval,X2,bX,bI];refine⟨by decide +kernel, ?_⟩;refine Wb (K8 s x.r x.fr (x.lt:Nat) 3 7 u p t F r x.r.pos ⟨cv ad (by decide),G.dn,G.bs,G.cd,by decide,G.dp⟩) ?_;simp only[↓X9,X0,seval,X2,bX,bI,XM];rw[<-A];exact⟨⟨⟨(),(cG.cT [0,1,2,3,4,5] (by decide) (by simp only[Yd];exact⟨aM (by simp[Yf,Yh,bI]),aF fun _=>rfl,aF fun _=>rfl,cB,aF fun _=>rfl,aM (by simp[Yf])⟩) (by simp[bC,Vg.look,SV.bP,dX,bI]))⟩,⟨(),(cG.cT [0,1,2,3,4,5] (by decide) (by simp only[Yd];exact⟨aM (by simp[Yf,Yh,bI]),aF fun _=>rfl,aF fun _=>rfl,cB,aF fun _=>rfl,aM (by simp[Yf])⟩) (by simp[bC,Vg.look,SV.bP,dX,bI]))⟩⟩,⟨(),(cG.cT [0,1,2,3,4,5] (by decide) (by simp only[Yd];exact⟨aM (by simp[Yf,Yh,bI]),aF fun _=>rfl,aF fun _=>rfl,cB,aF fun _=>rfl,aM (by simp[Yf])⟩) (by simp[bC,Vg.look,SV.bP,dX,bI]))⟩⟩
 rintro⟨⟩;simp only[↓X9,X0,seval,X2,bX,bI];refine⟨fun h=>?_,fun h=>?_⟩
 ·have hz:¬ro.cd=0:=by simpa using h
  have e:(xG s j (⟨u,p,t,r⟩:Pp) x)=bI x ro:=by unfold xG;rw[<-A,aB hz]
  rw[e];exact Wf (by simp only[↓XC,X1,seval];try simp[Yf,bI,hz])
 have hz:ro.cd=0:=by simpa using h
 obtain⟨hM,e1,e2,e3,e4,e5,e6⟩:=rp G hl (show(jt x.r 3 7 (⟨u,p,t,r⟩:Pp) x.r.pos).cd=0 by rw[<-A];exact hz);rw[<-A]at hM e1 e2 e3 e4 e5;rw[aA (show ¬40<=x.r.dp by omega)];have e:(xG s j (⟨u,p,t,r⟩:Pp) x)=yz s j (gL s x.r.pos) x.r.ev.length (bI x ro):=by unfold xG;rw[<-A,aA (by simpa using hz)]
 rw[e];obtain⟨R,hR⟩:∃R,R=yz s j (gL s x.r.pos) x.r.ev.length (bI x ro):=⟨_,rfl⟩
 rw[<-hR];obtain⟨V,HN⟩:=HS e6;refine cF.of (ι:={y:Rb // vG s y.r/\y.r.dp=x.r.dp+1/\x.r.ev.length<y.r.ev.length/\yz s j (gL s x.r.pos) x.r.ev.length y=R}) (fun y=>⟨[(0,.ptr 0 0 0),(5,.i .i64 ((gL s x.r.pos):Nat)),(6,.i .i64 (x.r.ev.length:Nat))],(Mt s ((y.1).r) (y.1).fr ((y.1).lt:Nat) [some (.gA false [.b u,.s p,.s t,.i .i64 F,.i .i64 (r:Nat)])])⟩) (fun y=>s.length-y.1.r.pos) ⟨bI x ro,hM,e5,(by show _<ro.ev.length;rw[e2];simp),hR.symm⟩ (cG.cT [0,1,2,3,4,5] (by decide) (by simp only[Yd];exact⟨aM (by simp[Yf,Yh,bI]),aF fun _=>rfl,aF fun _=>rfl,cB,aF fun _=>rfl,aM (by simp[Yf])⟩) (by simp[bC,Vg.look,SV.bP,dX,bI])) ?_;rintro⟨y,B,E,aj,o⟩;simp only[YC];simp only[↓X9,X0,seval,X2,bX,bI];have ao:=B.cd;have ak:=B.sz;have d:=B.pos;have T:Ok s (atR y.r (y.r.pos+1)):=⟨B.cd,d,B.dn,B.bs,B.dp,by simp only[atR];omega,B.hd,B.pf⟩
 have Q:y.r.ev.length+1<=8*(y.r.pos+1)+64:=by omega
 obtain⟨v,hv⟩:∃v,v=ls s j y.r.pos (gL s x.r.pos) true y:=⟨_,rfl⟩
 have hV:=rvalue s y j y.r.pos (gL s x.r.pos) true (fun n i l N h1 k=>HN n i l N h1 (by rw[k];exact E)) ⟨H,T,Q,d⟩;rw[<-hv]at hV;refine Wb (hV) ?_;simp only[↓X9,X0,seval,X2,bX,bI,XM];by_cases f:v.r.cd=0
 ·have ae:Vw s y.r (y.r.pos+1) v.r:=by
   have h:=f;rw[hv]at h |-
   exact xX (by rw[E];exact V) T Q d h
  simp only[aJ f];simp only[↓X9,X0,seval,X2,bX,bI];have af:=ae.ok;refine Wm (Pd s v.r v.fr (v.lt:Nat) ⟨H,f,af.pos⟩) ?_;simp only[↓X9,X0,seval,X2,bX,bI,XM];obtain⟨w,hw⟩:∃w,w=nG s v:=⟨_,rfl⟩
  have ag:(nG s ⟨v.r,v.fr,0⟩).r=w.r:=by rw[hw];rfl
  rw[ag,show v.r.pos=w.lt by rw[hw,(rm s v).2],show v.fr=w.fr by rw[hw,(rm s v).1]];have g:kP s j (gL s x.r.pos) y=w:=by unfold kP;rw[<-hv,aA (by simpa using f),hw]
  by_cases a:w.r.cd=0
  ·simp only[aJ a];simp only[↓X9,X0,seval,X2,iv,fw,bX,bI];obtain⟨v2,b⟩:=Ga (c:=(gL s x.r.pos)) (by rw[E];exact V) B (by rw[g];exact a);rw[g]at b;have L:=b.ok;have Y:w.r.pos<=s.length:=by rw[b.eq.1];exact ez s _ L.pos
   rw[bQ s Y];refine⟨by decide +kernel,bH.mk H fun _=>?_⟩;have X:w.r.ev=v2.ev:=by rw[b.eq.1];rfl
   have m:Ok s w.r:=by rw[b.eq.1];exact L.at (fq s v2.pos) (ez s v2.pos L.pos)
   have J:w.r.ev.length<=16777216:=cv (m.size H) (by decide);have M:x.r.ev.length<w.r.ev.length:=by rw[X];exact dA aj b.pre.length_le
   have ah:w.r.dp=x.r.dp+1:=by rw[b.eq.1];exact b.dp.trans E
   have I:=m.dp;refine⟨by decide +kernel, ?_⟩;refine Wm (qc s w.r w.fr (w.lt:Nat) w.r.pos ⟨H,Y⟩) ?_;simp only[↓X9,X0,seval,X2,iv,fw,bX,bI,XM];have Z:fV s w.r.pos=false->w.r.pos<s.length:=fun h=>(uR h).1;have hC:∀{P:Prop},(P->((P/\P)/\s.length<=1048576/\(0:Int)<=(w.r.pos:Nat)/\((w.r.pos:Nat):Int)<=(s.length:Nat))):=fun h=>⟨⟨h,h⟩,H,by omega,by omega⟩
   cases D:fV s w.r.pos
   ·simp only[↓X9,X0,seval,X2,iv,fw,bX,bI];refine⟨bH.mk hC fun _=>⟨fun k=>?_,fun k=>⟨fun h3=>?_,fun h3=>?_⟩⟩,bH.mk hC fun _=>⟨fun k=>?_,fun k=>⟨fun h3=>?_,fun h3=>?_⟩⟩⟩
    rotate_left 3
    iterate 2
     rotate_left 3
     ·simp only[aV,aD,aE,aR]at k;refine Wb (K5 s w.r w.fr x.r.ev.length w.lt ⟨J,m.dn,m.bs,M,by omega,I⟩) ?_;simp only[↓X9,X0,seval,X2,bX,bI,XM];have e:R=yb w x.r.ev.length:=by rw[<-o,N1 g a (.inr (by rcases k with h|⟨h,O⟩;exact .inl (by omega);exact .inr ⟨by omega,O⟩))]
      rw[e];try simp only[yb,atR,mH,aC,aK,aL,aX]
      exact Wf (by simp only[↓XC,X1,seval];try simp[Yf,bI,a])
     ·simp only[aY,bA,aO,bD]at k;have K:¬(fV s w.r.pos=true\/gL s w.r.pos<gL s x.r.pos\/(gL s w.r.pos=gL s x.r.pos/\mT s w.r.pos=false)):=by
       rw[D];rintro(h|h|⟨h,O⟩)
       ·cases h
       ·exact k.1 (by omega)
       rcases k.2 with C|C
       ·exact C (by omega)
       rw[O]at C;cases C
      refine Wm (gP s w.r w.fr (w.lt:Nat) 9 w.r.pos a) ?_;simp only[↓X9,X0,seval,X2,bX,bI,XM];have e:R=bI w (er w.r 9 w.r.pos):=by rw[<-o,Su g a K (by omega)]
      rw[e];exact Wf
     simp only[aY,bA,aO,bD]at k;have K:¬(fV s w.r.pos=true\/gL s w.r.pos<gL s x.r.pos\/(gL s w.r.pos=gL s x.r.pos/\mT s w.r.pos=false)):=by
      rw[D];rintro(h|h|⟨h,O⟩)
      ·cases h
      ·exact k.1 (by omega)
      rcases k.2 with C|C
      ·exact C (by omega)
      rw[O]at C;cases C
     have aa:¬gL s x.r.pos<gL s w.r.pos:=by omega
     have ab:=Z D;obtain⟨S,h6,h7⟩:=b.next (q:=w.r.pos) B (by decide) (by rw[b.eq.1];exact aN _) ab
     have W:atR v2 w.r.pos=w.r:=by rw[b.eq.1];rfl
     rw[W]at S;refine⟨⟨w,S,ah,M, ?_⟩,by show s.length-w.r.pos<_;omega,(cG.cT [0,1,2,3,4,5] (by decide) (by simp only[Yd];exact⟨aM (by simp[Yf,Yh,bI]),aF fun _=>rfl,aF fun _=>rfl,cB,aF fun _=>rfl,aM (by simp[Yf])⟩) (by simp[bC,Vg.look,SV.bP,dX,bI]))⟩;rw[<-o,Sv g a K aa ⟨h6,d⟩]
   simp only[↓X9,X0,seval,X2,iv,fw,bX,bI];refine⟨bH.mk hC fun _=>?_,bH.mk hC fun _=>?_⟩;all_goals
    refine Wb (K5 s w.r w.fr x.r.ev.length w.lt ⟨J,m.dn,m.bs,M,by omega,I⟩) ?_;simp only[↓X9,X0,seval,X2,bX,bI,XM];have e:R=yb w x.r.ev.length:=by rw[<-o,N1 g a (.inl D)]
    rw[e];try simp only[yb,atR,mH,aC,aK,aL,aX]
    exact Wf (by simp only[↓XC,X1,seval];try simp[Yf,bI,a])
  simp only[aI a];simp only[↓X9,X0,seval,X2,bX,bI];have e:R=w:=by rw[<-o,Kj g a]
  rw[e];exact Wf (by simp only[↓XC,X1,seval];try simp[Yf,bI,a])
 simp only[aI f];simp only[↓X9,X0,seval,X2,bX,bI];have e:R=v:=by rw[<-o,Kj (w:=v) (by unfold kP;rw[<-hv,aB f]) f]
 rw[e];exact Wf (by simp only[↓XC,X1,seval];try simp[Yf,bI,f])
end Go.T
end
