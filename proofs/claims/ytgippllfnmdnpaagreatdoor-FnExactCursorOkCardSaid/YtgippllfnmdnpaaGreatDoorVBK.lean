/- Own text: part VBK. -/
import Derived.Test.YtgippllfnmdnpaaGreatDoorVBH
import Derived.Test.YtgippllfnmdnpaaGreatDoorVBI
import Derived.Test.YtgippllfnmdnpaaGreatDoorVAS
import Derived.Test.YtgippllfnmdnpaaGreatDoorVAR
import Derived.Test.YtgippllfnmdnpaaGreatDoorVBJ
import Derived.Test.YtgippllfnmdnpaaGreatDoorVBB
import Derived.Test.YtgippllfnmdnpaaGreatDoorVBC
set_option linter.all false
section
namespace Go.T
variable[Go.Vg.df][Go.Vg.cS 0 1]
open Go.Proofs Go.Vg Go.RowKit Go.TT Go.Pl
set_option maxRecDepth 10000
set_option maxHeartbeats 4000000
theorem Pr(s:Bs)(f:s.length<=1048576):∀(d:Nat) (r:Rd) (l:Int),Ok s r->r.dp+d=40->mI Tryz.prog 335 s [] l r (sW s d r):=by
 intro d
 induction d with
 |zero=>
  intro r l n hd;refine SS s r l id (fun b fM c an tg g a j e=>?_) (fun b fM c an tg g a j e=>?_) ⟨f,n⟩
  ·exact RM s b fM id c an tg g (fun h=>by omega) ⟨f,a,cE e (by decide)⟩
  ·exact RJ s b fM (n1 s id) c an tg g (fun h=>by omega) ⟨f,a,cE e (by decide)⟩
 |succ d q=>
  intro r l n hd;have hit:kw s (r.dp+1) (sW s d):=fun b a j t=>n0 d b a (by omega) t;refine SS s r l (sW s d) (fun b fM c an tg g a j e=>?_) (fun b fM c an tg g a j e=>?_) ⟨f,n⟩
  ·exact RM s b fM (sW s d) c an tg g (fun h=>by rw[j];exact⟨hit,fun m i k o=>q m i k (by omega)⟩) ⟨f,a,cE e (by decide)⟩
  exact RJ s b fM (n1 s (sW s d)) c an tg g (fun h=>by rw[j];exact⟨fun m k o u=>pR k (by rw[o];exact hit) u,fun m i k o=>SU s m i (sW s d) (fun v p m1 m2=>q v p m1 (by omega)) ⟨f,k⟩⟩) ⟨f,a,cE e (by decide)⟩
theorem Wd(s:Bs)(c:s.length<=1048576)(r:Rd)(f:Int)(a:Bool)(an tg:Bs)(e:Nat)(b:Ok s r)(h:bW s r.pos=91):mI Tryz.prog 302 s [.agg [.i .i64 0,.i .i64 0,.b false,.s [],.s an,.s tg,.i .i64 0,.i .i64 0]] f r (Cc s r (⟨a,an,tg,e⟩:Pp)):=by
 have i:r.pos<s.length:=cE h (by decide);have l:=b.dp;unfold Cc;rcases hd:40-r.dp with _|d
 ·simp only;unfold pA;rw[aB h];exact RM s r f id a an tg e (fun h=>by omega) ⟨c,b,i⟩
 have hit:kw s (r.dp+1) (sW s d):=fun n j p k=>n0 d n j (by omega) k;simp only;unfold pA;rw[aB h];exact RM s r f (sW s d) a an tg e (fun h=>⟨hit,fun o g m q=>Pr s c d o g m (by omega)⟩) ⟨c,b,i⟩
theorem U3(s:Bs)(a:s.length<=1048576)(r:Rd)(g:Int)(b:Bool)(an tg:Bs)(f:Nat)(c:Ok s r)(h:bW s r.pos=123):mI Tryz.prog 303 s [.agg [.i .i64 0,.i .i64 0,.b false,.s [],.s an,.s tg,.i .i64 0,.i .i64 0]] g r (Cc s r (⟨b,an,tg,f⟩:Pp)):=by
 have k:r.pos<s.length:=cE h (by decide);have p:=c.dp;unfold Cc;rcases hd:40-r.dp with _|d
 ·simp only;unfold pA;rw[aA (by omega),aB h];exact RJ s r g (n1 s id) b an tg f (fun h=>by omega) ⟨a,c,k⟩
 have hit:kw s (r.dp+1) (sW s d):=fun t n v o=>n0 d t n (by omega) o;simp only;unfold pA;rw[aA (by omega),aB h];exact RJ s r g (n1 s (sW s d)) b an tg f (fun h=>⟨fun m e l q=>pR e (by rw[l];exact hit) q,fun m i e l=>SU s m i (sW s d) (fun u j m1 m2=>Pr s a d u j m1 (by omega)) ⟨a,e⟩⟩) ⟨a,c,k⟩
theorem Vj(s:Bs)(x:Rb)(e:Int)(n:Int)(d:Bool)(J K:Bs)(Y:Nat)(v:Bool)(an tg:Bs)(E i:Nat)(R:Rb)(C:R=(if d=true/\v=true then(if(iA s i).2=true then bI x (er x.r 10 (wh s i))else bI x (er x.r 7 E))else qD s x (if d=true then(⟨d,J,K,Y⟩:Pp)else(⟨v,an,tg,i⟩:Pp)) n))(hp:s.length<=60000/\Ok s x.r /\ -1<=n/\n<=60000/\E<=s.length/\(d=true->v=true->e=((i:Nat):Int)/\x.r.pos=wh s i/\i<=s.length)):gQ Tryz.prog 262 1 [.ptr 0 0 0,.i .i64 n,.agg [.i .i64 0,.i .i64 0,.b false,.s [],.s J,.s K,.i .i64 0,.i .i64 0],.agg [.i .i64 0,.i .i64 0,.b false,.s [],.s an,.s tg,.i .i64 0,.i .i64 0],.b d,.b v,.i .i64 (E:Nat)] (fk s (x.r) ((x.r).pos:Nat) e) (fun z c=>∃(a W:Int) (X:Bool),((R).r.cd=0->a=(((R).r.pos:Nat):Int)/\X=(R).fr)/\z=.b X/\c=(fk s ((R).r) a W)):=by
 refine Jh (jj.c u7.d) 119 [[0,1,4,5,6,9,10],[0,1,4,5,6,9,10,26],[0,6,16],[0,6,39],[],[],[14],[0,1,4,5,9,17],[0,1,4,5,9,17,50],[0,1,4,5,17],[0,1,4,5,17,18],[],[0,1,4,5,17,18,60],[0,17,18,19,20,21],[0,17,18,19,20,21,82],[],[14],[0,17,18,19,20,22],[0,17,19,20,22,88],[0,17,19,20,22],[0,20],[],[14],[0,1,4,5,17,18,98],[],[0,1,4,5,17,104],[],[0,110],[14]] Tryz.func262 [.tmp 14] (fun _=>false) [10] [(2,[],[],qa (.q0 3 [3] (.q0 7 [7] (.de 8 (qh .fin) .fin)))),(13,[],[],qa (.q1 8 (.q0 3 [3] (.q0 7 [7] (.de 9 (.q1 10 (.q1 11 (.q1 12 (.q1 13 (.q1 14 (.q1 15 (.q1 16 .fin))))))) .fin)))))] ?_;simp only[↓X9,X0,seval,X2,iq,nT,bI,bX];obtain⟨Z,k,O,P,aa,U⟩:=hp;have F:s.length<=1048576:=by omega
 have w:=k.pos;have j:=k.cd;have ab:=k.size F;refine⟨fun q=>?_,fun q=>?_⟩
 ·simp only[aD]at q;obtain⟨Q,S,T⟩:=U q.1 q.2;subst Q;rw[bQ s T];refine⟨by decide +kernel,bH.mk F fun _=>⟨fun r=>?_,fun r=>?_⟩⟩
  ·refine Vm (jh s x.r ((i:Nat):Int) 10 x.r.pos j) ?_;simp only[↓X9,X0,seval,X2,bI,bX,XM];have f:R=bI x (er x.r 10 x.r.pos):=by rw[C,aB q,aB r,S]
   rw[f];refine⟨.b true,(fk s ((bI x (er x.r 10 x.r.pos)).r) ((x.r.pos:Nat):Int) ((i:Nat):Int)),⟨((x.r.pos:Nat):Int),((i:Nat):Int),true,fun h=>absurd h (by decide:¬((10:Int)=0)),rfl,rfl⟩, ?_⟩;exact Vf
  refine Vm (jh s x.r ((i:Nat):Int) 7 E j) ?_;simp only[↓X9,X0,seval,X2,bI,bX,XM];have f:R=bI x (er x.r 7 E):=by rw[C,aB q,aA (by rw[r];simp)]
  rw[f];refine⟨.b true,(fk s ((bI x (er x.r 7 E)).r) ((x.r.pos:Nat):Int) ((i:Nat):Int)),⟨((x.r.pos:Nat):Int),((i:Nat):Int),true,fun h=>absurd h (by decide:¬((7:Int)=0)),rfl,rfl⟩, ?_⟩;exact Vf
 have N:¬(d=true/\v=true):=fun h=>by rw[h.1,h.2]at q;cases q
 obtain⟨b,o⟩:∃b:Pp,b=if d=true then(⟨d,J,K,Y⟩:Pp)else(⟨v,an,tg,i⟩:Pp):=⟨_,rfl⟩
 rw[aA N,<-o]at C;have V:(d||v)=b.has:=by rw[o];cases d<;>rfl
 have G:b.an=if d=true then J else an:=by rw[o];cases d<;>rfl
 have H:b.tg=if d=true then K else tg:=by rw[o];cases d<;>rfl
 refine kT.of (ι:=Unit) (fun _=>⟨[(0,.ptr 0 0 0),(1,.i .i64 n),(4,.b d),(5,.b v),(17,.ptr 4 0 0)],(Qu s (x.r) ((x.r).pos:Nat) e [some (.gA false [.i .i64 0,.i .i64 0,.b false,.s [],.s b.an,.s b.tg,.i .i64 0,.i .i64 0])])⟩) ?_ ?_
 ·simp only[↓X9,X0,seval,X2,bI,bX];refine⟨fun h=>⟨(), ?_⟩,fun h=>⟨(), ?_⟩⟩
  ·rw[G,H,aB h,aB h];exact(cG.cT [0,1,2,3,6] (by decide) (by simp only[Yd];exact⟨aM (by simp[Yf,Yh,bI]),aF fun _=>rfl,aF fun _=>rfl,aF fun _=>rfl,aM (by simp[Yf])⟩) (by simp[bC,Vg.look,SV.bP,dX,jE,XR,qF,ul,Yh]))
  rw[G,H,aA (by rw[h];simp),aA (by rw[h];simp)];exact(cG.cT [0,1,2,3,6] (by decide) (by simp only[Yd];exact⟨aM (by simp[Yf,Yh,bI]),aF fun _=>rfl,aF fun _=>rfl,aF fun _=>rfl,aM (by simp[Yf])⟩) (by simp[bC,Vg.look,SV.bP,dX,jE,XR,qF,ul,Yh]))
 rintro⟨⟩;simp only[↓X9,X0,seval,X2,bI,bX];refine Vm (ki s x.r e F) ?_;simp only[↓X9,X0,seval,X2,nT,bI,bX,XM];simp only[q7 (show(0:Int)<124 by decide)];simp only[q7 (show(0:Int)<62 by decide)];simp only[q7 (show(0:Int)<91 by decide)];simp only[q7 (show(0:Int)<123 by decide)];refine⟨fun r=>⟨by decide +kernel,bH.mk ⟨Z,O,P⟩ fun _=>?_⟩,fun r=>⟨fun m=>?_,fun m=>⟨fun u=>?_,fun u=>?_⟩⟩⟩
 ·have A:bW s x.r.pos=124\/bW s x.r.pos=62:=by simpa using r
  rw[bQ s w];have L:R=if(nQ s x.r.pos n).2.2≠0 then(⟨er x.r (nQ s x.r.pos n).2.2 (nQ s x.r.pos n).2.1,false,x.lt⟩:Rb)else⟨atR (cY x.r (if bW s x.r.pos=62 then 5 else 4) (nQ s x.r.pos n).1 b.an b.tg) (nQ s x.r.pos n).2.1,true,x.lt⟩:=by rw[C];unfold qD;rw[aB A]
  generalize nQ s x.r.pos n=li at *;refine⟨fun m=>?_,fun m=>⟨fun u=>?_,fun u=>?_⟩⟩
  ·have g:¬li.2.2=0:=by simpa using m
   refine Vm (jh s x.r e li.2.2 li.2.1 j) ?_;simp only[↓X9,X0,seval,X2,bI,bX,XM];have f:R=(⟨er x.r li.2.2 li.2.1,false,x.lt⟩:Rb):=by rw[L,aB g]
   rw[f];refine⟨.b true,(fk s (((⟨er x.r li.2.2 li.2.1,false,x.lt⟩:Rb)).r) ((x.r.pos:Nat):Int) e),⟨((x.r.pos:Nat):Int),e,true,fun h=>absurd h g,rfl,rfl⟩, ?_⟩;exact Vf
  ·have g:li.2.2=0:=by simpa using m
   refine Vb (qE s x.r e 0 0 [] b.an b.tg 5 li.1 ⟨by omega,k.dn,k.bs⟩) ?_;simp only[↓X9,X0,seval,X2,bI,bX,XM];have f:R=(⟨atR (cY x.r 5 li.1 b.an b.tg) li.2.1,true,x.lt⟩:Rb):=by rw[L,aA (by simpa using g),aB u]
   rw[f];refine⟨.b true,(fk s (((⟨atR (cY x.r 5 li.1 b.an b.tg) li.2.1,true,x.lt⟩:Rb)).r) ((li.2.1:Nat):Int) e),⟨((li.2.1:Nat):Int),e,true,fun _=>⟨rfl,rfl⟩,rfl,rfl⟩, ?_⟩;try simp only[YC,qJ,kF,BD,cY,bB,atR,bI,aC,aK,aL,aX]
   exact Vf
  have g:li.2.2=0:=by simpa using m
  refine Vb (qE s x.r e 0 0 [] b.an b.tg 4 li.1 ⟨by omega,k.dn,k.bs⟩) ?_;simp only[↓X9,X0,seval,X2,bI,bX,XM];have f:R=(⟨atR (cY x.r 4 li.1 b.an b.tg) li.2.1,true,x.lt⟩:Rb):=by rw[L,aA (by simpa using g),aA u]
  rw[f];refine⟨.b true,(fk s (((⟨atR (cY x.r 4 li.1 b.an b.tg) li.2.1,true,x.lt⟩:Rb)).r) ((li.2.1:Nat):Int) e),⟨((li.2.1:Nat):Int),e,true,fun _=>⟨rfl,rfl⟩,rfl,rfl⟩, ?_⟩;try simp only[YC,qJ,kF,BD,cY,bB,atR,bI,aC,aK,aL,aX]
  exact Vf
 ·have B:=Wd s F x.r e b.has b.an b.tg b.en k m;obtain⟨t,y⟩:∃t,t=Cc s x.r b:=⟨_,rfl⟩
  rw[show Cc s x.r (⟨b.has,b.an,b.tg,b.en⟩:Pp)=t from y.symm]at B;unfold mI fk at B;refine Vq (B) ?_;rintro z c ⟨a2,l,D,rfl,rfl⟩;simp only[↓X9,X0,seval,X2,bI,bX,XM];have f:R=(⟨t,false,x.lt⟩:Rb):=by rw[C,Pg (.inl m),y]
  rw[f];refine⟨.b false,(fk s (((⟨t,false,x.lt⟩:Rb)).r) a2 l),⟨a2,l,false,fun h=>⟨D h,rfl⟩,rfl,rfl⟩, ?_⟩;exact Vf
 ·have B:=U3 s F x.r e b.has b.an b.tg b.en k u;obtain⟨t,y⟩:∃t,t=Cc s x.r b:=⟨_,rfl⟩
  rw[show Cc s x.r (⟨b.has,b.an,b.tg,b.en⟩:Pp)=t from y.symm]at B;unfold mI fk at B;refine Vq (B) ?_;rintro z c ⟨a2,l,D,rfl,rfl⟩;simp only[↓X9,X0,seval,X2,bI,bX,XM];have f:R=(⟨t,false,x.lt⟩:Rb):=by rw[C,Pg (.inr u),y]
  rw[f];refine⟨.b false,(fk s (((⟨t,false,x.lt⟩:Rb)).r) a2 l),⟨a2,l,false,fun h=>⟨D h,rfl⟩,rfl,rfl⟩, ?_⟩;exact Vf
 have A:¬(bW s x.r.pos=124\/bW s x.r.pos=62):=by intro h;rcases h with h|h<;>rw[h]at r<;>simp at r
 have M:=Wh (p:=b) (n:=n) A (fun h=>h.elim m u);rw[<-C]at M;rw[V];refine Vb (sD s x.r e 0 0 [] b.an b.tg b.has n false ⟨F,by omega,k.dn,k.bs,j,w⟩) ?_;simp only[↓X9,X0,seval,X2,bI,bX,XM];refine⟨fun I=>?_,fun I=>?_⟩
 ·obtain⟨t,y⟩:∃t,t=vH s x.r (⟨b.has,b.an,b.tg,0⟩:Pp) n false:=⟨_,rfl⟩
  rw[<-y];have f:R=(⟨t,false,x.lt⟩:Rb):=by rw[M,aB I,y]
  rw[f];refine⟨.b false,(fk s (((⟨t,false,x.lt⟩:Rb)).r) ((t.pos:Nat):Int) e),⟨((t.pos:Nat):Int),e,false,fun h=>⟨rfl,rfl⟩,rfl,rfl⟩, ?_⟩;exact Vf
 rw[U6 I];refine Vm (jh s x.r e 10 x.r.pos j) ?_;simp only[↓X9,X0,seval,X2,bI,bX,XM];have f:R=(⟨er x.r 10 x.r.pos,false,x.lt⟩:Rb):=by rw[M,aA (by rw[I];simp)]
 rw[f];refine⟨.b false,(fk s (((⟨er x.r 10 x.r.pos,false,x.lt⟩:Rb)).r) ((x.r.pos:Nat):Int) e),⟨((x.r.pos:Nat):Int),e,false,fun h=>absurd h (by decide:¬((10:Int)=0)),rfl,rfl⟩, ?_⟩;exact Vf
end Go.T
end
section
namespace Go.T
variable[Go.Vg.df][Go.Vg.cS 0 1]
open Go.Proofs Go.Vg Go.RowKit Go.TT Go.Pl
set_option maxRecDepth 10000
set_option maxHeartbeats 4000000
theorem Pq(s:Bs)(x:Rb)(pr:Int)(M:Int->Bool->Bool->Rb->Rb)(n:Int)(inl C:Bool)(HM:∀(oh:Bool) (oa og:Bs) (oe:Nat) (ha:Bool) (an tg:Bs) (fm pe:Nat) (w:Rb) (fM:Int),Ok s w.r->w.r.dp=x.r.dp->(jg s w.r.pos).2.2=true->fm<=s.length->(ha=false->w.r.pos=fm)->Ji Tryz.prog 259 s [.agg [.i .i64 0,.i .i64 0,.b false,.s [],.s oa,.s og,.i .i64 0,.i .i64 0],.agg [.i .i64 0,.i .i64 0,.b false,.s [],.s an,.s tg,.i .i64 0,.i .i64 0],.b ha,.i .i64 (fm:Nat)] fM w.r (v7 s M (⟨oh,oa,og,oe⟩:Pp) (⟨ha,an,tg,pe⟩:Pp) fm w))(HL:∀(oh:Bool) (oa og:Bs) (oe:Nat) (w:Rb) (fM:Int),Ok s w.r->w.r.dp=x.r.dp->w.r.pos<s.length->Ji Tryz.prog 261 s [.agg [.i .i64 0,.i .i64 0,.b false,.s [],.s oa,.s og,.i .i64 0,.i .i64 0]] fM w.r (xG s M (⟨oh,oa,og,oe⟩:Pp) w))(R:Rb)(hR:R=sj s M n inl C x)(hp:s.length<=60000/\Ok s x.r /\ -1<=n/\n<=60000):gQ Tryz.prog 226 1 [.ptr 0 0 0,.i .i64 n,.b inl,.b C] (fk s (x.r) ((x.r).pos:Nat) pr) (fun z c=>∃(a D:Int) (C:Bool),((R).r.cd=0->a=(((R).r.pos:Nat):Int)/\C=(R).fr)/\z=.b C/\c=(fk s ((R).r) a D)):=by
 refine Jh (jj.c (ov.c oC.d)) 137 [[0,1,2,3],[0,1,2,3,9],[0,1,2,3,9,10],[0,1,2,3,9,10,11,12],[0,1,2,3,9,10,11,12,33],[8],[0,1,2,3,9,10,11,12,13],[0,1,2,3,9,10,11,12,13,14,15],[0,1,2,3,9,10,11,12,13,14,49],[0,1,3,9,11,14],[0,1,3,9,11,14,57],[8],[0,1,9,11,14,62],[0,14],[],[8],[0,1,9,11],[0,1,9,11,13],[0,1,2,9,11,13],[0,1,2,9,10,11,13],[0,1,2,9,10,11,12,13],[0,1,2,9,10,11,12,13,84],[8],[0,1,2,9,10,11,12,13,18],[0,1,2,9,10,11,12,13,102],[],[8],[0,1,9,10,11,12,13,125],[],[8],[8]] Tryz.func226 [.tmp 8] (fun _=>false) [23] [(7,[],[],qa (.q0 3 [3] (.q0 7 [7] (.de 8 (qh .fin) .fin)))),(23,[],[],qa (.q0 3 [3] (.q0 7 [7] (.de 8 (qg .fin) .fin)))),(27,[],[],qe (.q1 4 (.q1 5 (.q1 6 (.q1 7 (qd (.q1 11 (.q1 12 (.q1 13 (.q0 10 [10] (.q0 14 [14] (.de 15 (.q1 16 .fin) .fin))))))))))))] ?_;simp only[↓X9,X0,seval,X2,iq,jR,jq,bI,bX];obtain⟨h6,U,au,aw⟩:=hp;have I:s.length<=1048576:=by omega
 have o:=U.pos;have H:=U.cd;have bc:=U.size I;refine Vq (AZ s x.r pr false ⟨I,H,o,U.hd,U.pf⟩) ?_;rintro z c ⟨fM,an,tg,ha,hq,rfl,rfl⟩;simp only[↓X9,X0,seval,X2,iq,bI,bX,XM];obtain⟨q,g⟩:∃q,q=iP s false x.r:=⟨_,rfl⟩
 have ay:yo s false x.r=q:=by rw[g];rfl
 rw[ay]at hq |-
 refine⟨fun h=>?_,fun h=>?_⟩
 ·have i:¬q.cd=0:=by simpa using h
  have N:R=bI x q:=by rw[hR];unfold sj;rw[<-g,aB i]
  rw[N];refine⟨.b true,(fk s ((bI x q).r) ((q.pos:Nat):Int) fM),⟨((q.pos:Nat):Int),fM,true,fun h=>absurd h i,rfl,rfl⟩, ?_⟩;exact Vf
 have i:q.cd=0:=by simpa using h
 obtain⟨X,aj,al,ak⟩:=hq i;subst aj al ak;obtain⟨b,m⟩:∃b,b=ia s false x.r:=⟨_,rfl⟩
 rw[<-m]at X |-
 obtain⟨qp,e9,l9,a8,_,ba⟩:=jr (fl:=false) o H (show(iP s false x.r).cd=0 by rw[<-g];exact i);have ag:Ok s q:=by rw[g,e9];exact U.at l9 a8
 have L:q.dp=x.r.dp:=by rw[g,e9];rfl
 have ae:b.has=true->b.en<=s.length:=fun h=>by rw[m]at h |-;exact(oI o ba h).2.1
 have ax:b.has=false->q.pos=x.r.pos:=fun h=>by rw[g,(OX H (by rw[<-g];exact i) (by rw[<-m];exact h)).1]
 have ap:b.has=true->q.pos=wh s b.en:=fun h=>by rw[g,m];exact OW H (by rw[<-g];exact i) (by rw[<-m];exact h)
 have A:b.has=true->spot s fM=b.en:=fun h=>by rw[X,aB h];exact bQ s (ae h)
 refine⟨by decide +kernel,bH.mk I fun _=>?_⟩;refine kT.of (ι:={u:(Bool×Pp×Pp)×Nat×Rd×Int // R=qZ s M n u.1.1 u.1.2.1 u.1.2.2 u.2.1 (bI x u.2.2.1)/\Ok s u.2.2.1/\u.2.2.1.dp=x.r.dp/\u.2.1<=s.length/\(u.1.2.2.has=false->u.2.2.1.pos=u.2.1)/\(u.1.2.1.has=true->u.1.2.2.has=true->u.2.2.2=((u.1.2.2.en:Nat):Int)/\u.2.2.1.pos=wh s u.1.2.2.en/\u.1.2.2.en<=s.length)}) (fun u=>⟨[(0,.ptr 0 0 0),(1,.i .i64 n),(2,.b u.1.1.1),(9,.ptr 4 0 0),(10,.i .i64 (u.1.2.1:Nat)),(11,.ptr 5 0 0),(12,.b u.1.1.2.2.has),(13,.b u.1.1.2.1.has)],(Qu s (u.1.2.2.1) ((u.1.2.2.1).pos:Nat) u.1.2.2.2 [some (.gA false [.i .i64 0,.i .i64 0,.b false,.s [],.s u.1.1.2.1.an,.s u.1.1.2.1.tg,.i .i64 0,.i .i64 0]),some (.gA false [.i .i64 0,.i .i64 0,.b false,.s [],.s u.1.1.2.2.an,.s u.1.1.2.2.tg,.i .i64 0,.i .i64 0])])⟩) ?_ ?_
 ·simp only[↓X9,X0,seval,X2,bI,bX];refine⟨fun hb=>?_,fun hb=>?_⟩
  ·simp only[aD]at hb;obtain⟨y,P⟩:=hb;rw[A y]at P |-
   have S:=ae y;have ar:wh s b.en<=dR s b.en:=by have:=fq s (wh s b.en);rw[DW]at this;exact this
   have hL:=AY s q fM (iA s b.en).1 ⟨I,i,(gV S).2⟩;rw[Ec P]at hL;obtain⟨v,hv⟩:∃v,v=jn s q b.en:=⟨_,rfl⟩
   rw[<-hv]at hL;refine Vm (hL) ?_;simp only[↓X9,X0,seval,X2,bI,bX,XM];have E:R=if v.cd≠0 then bI x v else if fV s v.pos=true\/Ib s v.pos n C=false then qJ x v b (iA s b.en).1 else if(iP s false v).cd≠0 then bI x (iP s false v)else qZ s M n false b (ia s false v) v.pos (bI x (iP s false v)):=by rw[hR];unfold sj;rw[<-g,<-m,aA (by simpa using i),aB ⟨y,P⟩,<-hv]
   refine⟨fun h3=>?_,fun h3=>?_⟩
   ·have k:¬v.cd=0:=by simpa using h3
    have N:R=bI x v:=by rw[E,aB k]
    rw[N];refine⟨.b true,(fk s ((bI x v).r) ((v.pos:Nat):Int) fM),⟨((v.pos:Nat):Int),fM,true,fun h=>absurd h k,rfl,rfl⟩, ?_⟩;exact Vf
   have k:v.cd=0:=by simpa using h3
   rw[aA (by simpa using k)]at E;have T:v=atR q (dR s b.en):=by rw[hv];exact jU (by rw[<-hv];exact k)
   have B:v.pos<=s.length:=by rw[T];exact ez s _ S
   have r:Ok s v:=by rw[T];exact ag.at (by rw[ap y];exact ar) (ez s _ S)
   have a7:v.ev.length<=16777216:=cv (r.size I) (by decide);have a6:v.dp=x.r.dp:=by rw[T];exact L
   refine Vm (Pj s v fM n C ⟨I,B⟩) ?_;simp only[↓X9,X0,seval,X2,bI,bX,XM];refine⟨fun h4=>?_,fun h4=>?_⟩
   ·have Q:fV s v.pos=true\/Ib s v.pos n C=false:=by
     have hd:FF s v.pos n C=false:=by simpa using h4
     unfold FF at hd;cases h5:fV s v.pos
     ·right;rw[h5]at hd;simpa using hd
     exact .inl rfl
    refine Vb (Ln s v fM 0 0 [] b.an b.tg ⟨a7,r.dn,r.bs⟩) ?_;simp only[↓X9,X0,seval,X2,bI,bX,XM];have N:R=qJ x v b (iA s b.en).1:=by rw[E,aB Q]
    rw[N];refine⟨.b true,(fk s ((qJ x v b (iA s b.en).1).r) (((iA s b.en).1:Nat):Int) fM),⟨(((iA s b.en).1:Nat):Int),fM,true,fun _=>⟨rfl,rfl⟩,rfl,rfl⟩, ?_⟩;try simp only[YC,qJ,kF,BD,cY,bB,atR,bI,aC,aK,aL,aX]
    exact Vf
   have Q:¬(fV s v.pos=true\/Ib s v.pos n C=false):=by
    have hd:FF s v.pos n C=true:=by simpa using h4
    unfold FF at hd;simp only[aD,aR]at hd;rw[hd.1,hd.2];simp
   rw[aA Q]at E;refine Vq (AZ s v fM false ⟨I,k,B,r.hd,r.pf⟩) ?_;rintro z c ⟨f,bb,bf,l,af,rfl,rfl⟩;simp only[↓X9,X0,seval,X2,bI,bX,XM];obtain⟨q2,d⟩:∃q2,q2=iP s false v:=⟨_,rfl⟩
   rw[show yo s false v=q2 by rw[d];rfl]at af |-
   rw[<-d]at E;refine⟨fun h5=>?_,fun h5=>?_⟩
   ·have e:¬q2.cd=0:=by simpa using h5
    have N:R=bI x q2:=by rw[E,aB e]
    rw[N];refine⟨.b true,(fk s ((bI x q2).r) ((q2.pos:Nat):Int) f),⟨((q2.pos:Nat):Int),f,true,fun h=>absurd h e,rfl,rfl⟩, ?_⟩;exact Vf
   have e:q2.cd=0:=by simpa using h5
   rw[aA (by simpa using e)]at E;obtain⟨Y,V,Z,W⟩:=af e;subst V Z W;obtain⟨bd,f9,m9,m10,_,m12⟩:=jr (fl:=false) B k (show(iP s false v).cd=0 by rw[<-d];exact e);refine⟨⟨((false,b,ia s false v),v.pos,q2,f),E, ?_, ?_,B,fun h=>?_,fun _ h=>⟨?_, ?_, ?_⟩⟩,(cG.cT [0,1,2,3,4,5] (by decide) (by simp only[Yd];exact⟨aM (by simp[Yf,Yh,bI]),aF fun _=>rfl,aF fun _=>rfl,aF fun _=>rfl,aM (by simp[Yf]),aM (by simp[Yf])⟩) (by simp[y,bC,Vg.look,SV.bP,dX,jE,XR,qF,ul,Yh]))⟩
   ·rw[d,f9];exact r.at m9 m10
   ·rw[d,f9];exact a6
   ·show q2.pos=v.pos;rw[d,(OX k (by rw[<-d];exact e) h).1]
   ·rw[Y];exact aB h
   ·show q2.pos=_;rw[d];exact OW k (by rw[<-d];exact e) h
   exact(oI B m12 h).2.1
  have aq:¬(b.has=true/\(iA s b.en).2=true):=by rintro⟨k1,k2⟩;rw[A k1,k1,k2]at hb;cases hb
  have E:R=qZ s M n inl (kF 0) b x.r.pos (bI x q):=by rw[hR];unfold sj;rw[<-g,<-m,aA (by simpa using i),aA aq]
  exact⟨⟨((inl,kF 0,b),x.r.pos,q,fM),E,ag,L,o,ax,fun h=>by cases h⟩,(cG.cT [0,1,2,3,4,5] (by decide) (by simp only[Yd];exact⟨aM (by simp[Yf,Yh,bI]),aF fun _=>rfl,aF fun _=>rfl,aF fun _=>rfl,aM (by simp[Yf,kF]),aM (by simp[Yf,kF])⟩) (by simp[kF,bC,Vg.look,SV.bP,dX,jE,XR,qF,ul,Yh]))⟩
 rintro⟨⟨⟨j,outer,own⟩,first,t,D⟩,hu⟩;simp only at hu;obtain⟨hU,p,K,ab,ad,aa⟩:=hu;simp only[↓X9,X0,seval,X2,jR,jq,bI,bX];have a1:=p.pos;rw[bQ s a1];refine⟨by decide +kernel,bH.mk I fun _=>⟨fun F=>?_,fun F=>⟨by decide +kernel,bH.mk (fun h=>⟨⟨h,h⟩,I,by omega,by omega⟩) fun _=>⟨fun J=>?_,fun J=>?_⟩⟩⟩⟩
 ·simp only[aD,aR]at F;have G:=HM outer.has outer.an outer.tg outer.en own.has own.an own.tg first own.en (bI x t) D p K F.2 ab ad
  have eN:v7 s M (⟨outer.has,outer.an,outer.tg,outer.en⟩:Pp) (⟨own.has,own.an,own.tg,own.en⟩:Pp) first (bI x t)=R:=by rw[hU];unfold qZ;rw[aB ⟨F.1,F.2⟩]
  rw[eN]at G;unfold Ji fk at G;refine Vq (G) ?_;rintro z c ⟨a2,f,l,rfl,rfl⟩;simp only[↓X9,X0,seval,X2,bI,bX,XM];refine⟨.b true,(fk s ((R).r) a2 f),⟨a2,f,true,fun h=>⟨(l h).1,(l h).2.symm⟩,rfl,rfl⟩, ?_⟩;exact Vf
 ·have O:¬(j=false/\(jg s t.pos).2.2=true):=fun h=>by rw[h.1,h.2]at F;cases F
  simp only[aD,aR]at J;have az:t.pos<s.length:=by have h9:=J.2;unfold mT at h9;simp only[aD,aE]at h9;exact cE h9.1 (by decide)
  have G:=HL outer.has outer.an outer.tg outer.en (bI x t) D p K az;have eN:xG s M (⟨outer.has,outer.an,outer.tg,outer.en⟩:Pp) (bI x t)=R:=by rw[hU];unfold qZ;rw[aA (show ¬(j=false/\(jg s (bI x t).r.pos).2.2=true)from O),aB ⟨J.1.1,J.1.2,J.2⟩]
  rw[eN]at G;unfold Ji fk at G;refine Vq (G) ?_;rintro z c ⟨a2,f,l,rfl,rfl⟩;simp only[↓X9,X0,seval,X2,bI,bX,XM];refine⟨.b true,(fk s ((R).r) a2 f),⟨a2,f,true,fun h=>⟨(l h).1,(l h).2.symm⟩,rfl,rfl⟩, ?_⟩;exact Vf
 have O:¬(j=false/\(jg s t.pos).2.2=true):=fun h=>by rw[h.1,h.2]at F;cases F
 have ao:¬(j=false/\own.has=false/\mT s t.pos=true):=fun h=>by rw[h.1,h.2.1,h.2.2]at J;cases J
 have G:=Vj s (bI x t) D n outer.has outer.an outer.tg outer.en own.has own.an own.tg first own.en R (by rw[hU];unfold qZ;rw[aA (show ¬(j=false/\(jg s (bI x t).r.pos).2.2=true)from O),aA (show ¬(j=false/\own.has=false/\mT s (bI x t).r.pos=true)from ao)]) ⟨h6,p,au,aw,ab,aa⟩
 refine Vq (G) ?_;rintro z c ⟨a2,f,ah,l,rfl,rfl⟩;simp only[↓X9,X0,seval,X2,bI,bX,XM];refine⟨.b ah,(fk s ((R).r) a2 f),⟨a2,f,ah,l,rfl,rfl⟩, ?_⟩;exact Vf
end Go.T
end
section
namespace Go.T
variable[Go.Vg.df][Go.Vg.cS 0 1]
open Go.Proofs Go.Vg Go.RowKit Go.TT Go.Pl
set_option maxRecDepth 10000
set_option maxHeartbeats 4000000
noncomputable def p5:=gC fun(r:Int)=>([.i .i64 r],0<=r/\r<=2097151,.b (Im r.toNat))
theorem qx{r:Int}:p5 [.i .i64 r]=some (ptr p5 rfl r):=iZ
theorem yn:fO Tryz.prog 161 p5:=gJ fun r hp=>by
 dsimp only at *;refine HP pn 33 [[0],[2]] Tryz.func161 [.tmp 2] ?_;simp only[↓XC,X1,seval,dB,XR];obtain⟨n,rfl⟩:∃n:Nat,r=n:=⟨r.toNat,by omega⟩
 rw[Int.toNat_natCast];congr 1;rw[bO];unfold Im;simp only[aV,aD,aE,aR,aO];omega
noncomputable def rG:=gC fun((s,p):Bs×Int)=>([.s s,.i .i64 p],s.length<=1048576,.fJ [.i .i64 ((yq (s.drop (spot s p))).1:Nat),.i .i64 ((yq (s.drop (spot s p))).2:Nat)])
theorem rH{s:Bs}{p:Int}:rG [.s s,.i .i64 p]=some (ptr rG rfl (s,p)):=iZ
theorem Al:fO Tryz.prog 160 rG:=gJ fun(s,p) hp=>by
 dsimp only at *;refine HF (eD.c nU.d) 67 [[0,1],[0,1],[0,1,6],[0,1,6,22],[0,1,6],[0,1,6,7],[0,1,6,7,8],[0,1,6,7,8,36],[0,1,6,7,8],[0,1,6,7,8],[0,1,6,7,9],[0,1,6,7,64],[4,5],[4,5]] Tryz.func160 [.tmp 4,.tmp 5] (fun _=>false) [] [(5,[],[],qe (.q1 5 (.seq [4,6,7,8,9])))] ?_;simp only[↓XC,X1,seval,dB,eB,jk,XR];have G:=dW s p;rw[<-RD];generalize spot s p=q at *;obtain⟨t,d⟩:∃t,t=s.drop q:=⟨_,rfl⟩
 have F:t.length=s.length-q:=by rw[d,bK]
 rw[<-d];refine cF.of (ι:={k:Nat // 1<=k/\k<=5/\Pb t k=Pb t 1}) (fun x=>⟨[(0,.s s),(1,.i .i64 (q:Nat)),(6,.i .i64 (x.1:Nat))],[]⟩) (fun x=>5-x.1) ⟨1,by decide,by decide,rfl⟩ (cG.refl _ _) ?_;rintro⟨k,n,D,b⟩;simp only[↓XC,X1,seval,dB,XR];have c:∀j,t.getD j 0=s.getD (q+j) 0:=fun j=>by rw[d];simp[aG,bY]
 have v:k<=4->(fF [.i .i64 0,.i .i64 0,.i .i64 192,.i .i64 224,.i .i64 240] 1 k).getD 0 .u=.i .i64 (EG k):=by
  intro h;obtain rfl|rfl|rfl|rfl:k=1\/k=2\/k=3\/k=4:=by omega
  all_goals rfl
 have H:0<=EG k/\EG k<=240:=by unfold EG;(repeat' split)<;>decide
 refine bH.mk (fun _=>by simp only[iU];omega) fun _=>⟨fun h=>?_,fun h=>?_⟩
 ·have g:k<=4/\k<=t.length:=by simp only[aD,aE]at h;omega
  have w:=(s.getD q 0).toNat_lt;refine⟨by decide +kernel,bH.mk ⟨by omega,by omega⟩ fun _=>CR fun _=>bH.mk ⟨by omega,by omega⟩ fun _=>CO fun _=>?_⟩;rw[v g.1];simp only[↓XC,X1,seval,dB,XR];refine CR fun _=>?_;rw[show(((s.getD q 0).toNat:Nat):Int)-EG k=GR t k (1-1) by show _=bN t 0-EG k;unfold bN;rw[c,gl]];refine cF.of (ι:={i:Nat // 1<=i/\i<=k}) (fun x=>⟨[(0,.s s),(1,.i .i64 (q:Nat)),(6,.i .i64 (k:Nat)),(7,.i .i64 (GR t k (x.1-1))),(8,.i .i64 (x.1:Nat))],[]⟩) (fun x=>k-x.1) ⟨1,aN _,n⟩ (cG.cT [] (by decide) (by simp only[iD]) (by simp[bC,Vg.look,SV.bP,dX])) ?_;rintro⟨i,B,C⟩;simp only[↓XC,X1,seval,dB,jk,XR];have y:=Pa t k (i-1) (by omega);have z:=Pa t k (k-1) (by omega);refine⟨fun E=>?_,fun E=>?_⟩
  ·have e:((q:Int)+i).toNat=q+i:=by omega
   have I:=(s.getD (q+i) 0).toNat_lt;rw[e];have r:GR t k (i-1)*64+(((s.getD (q+i) 0).toNat:Nat):Int)-128=GR t k (i+1-1):=by
    obtain⟨m,rfl⟩:∃m,i=m+1:=⟨i-1,by omega⟩
    simp only[Nat.add_sub_cancel,GR,bN,c]
   refine CR fun _=>CR fun _=>CO fun _=>CR fun _=>CR fun _=>CR fun _=>CR fun _=>?_;rw[r];exact⟨⟨i+1,by omega,by omega⟩,by simp only;omega,(by first|exact cG.refl _ _|(simp only[aP,aQ];exact cG.refl _ _))⟩
  obtain rfl:i=k:=by omega
  have e:((q:Int)+i).toNat=q+i:=by omega
  have u:List.drop q (List.take (q+i) s)=t.take i:=by rw[d,List.take_drop,Nat.add_comm]
  have hlen:(t.take i).length=i:=by rw[aZ];omega
  rw[e,u];have f:GR t i (i-1)=yI t i:=rfl;refine bH.mk (fun _=>by simp only[iU];omega) fun _=>bH.mk (fun _=>⟨by omega,by omega,by omega⟩) fun _=>⟨fun a=>?_,fun a=>CR fun _=>?_⟩
  ·simp only[aD,aE]at a;have J:¬(yI t i<0\/1114111<yI t i\/(55296<=yI t i/\yI t i<=57343)):=fun l=>by have:=(Rz _).2 l;rw[f,this]at a;have:=a.1;simp at this;omega
   rw[<-b,GU g a.2,f];simp only;rw[Int.toNat_of_nonneg (by omega)]
  have o:¬oJ (yI t i)=t.take i:=fun l=>by rw[f,l,hlen]at a;simp at a
  exact⟨⟨i+1,by omega,by omega,by rw[<-b];exact(GS g o).symm⟩,by simp only;omega,(by first|exact cG.refl _ _|(simp only[aP,aQ];exact cG.refl _ _))⟩
 have A:¬(k<=4/\k<=t.length):=by intro a;rw[aJ (show(k:Int)<=4 by omega),aJ (show(k:Int)<=(s.length:Nat)-q by omega)]at h;cases h
 rw[<-b,Dh A];rfl
end Go.T
end
section
namespace Go.T
variable[Go.Vg.df][Go.Vg.cS 0 1]
open Go.Proofs Go.Vg Go.RowKit Go.TT Go.Pl
set_option maxRecDepth 10000
set_option maxHeartbeats 4000000
noncomputable def tE:=gC fun(s:Bs)=>([.s s],s.length<=1048576,.i .i64 (vM s 0:Nat))
theorem BG{s:Bs}:tE [.s s]=some (ptr tE rfl s):=iZ
theorem BH:fO Tryz.prog 82 tE:=gJ fun s hp=>by
 dsimp only at *;refine HP (Al.c yn.d) 28 [[0],[0,3],[0,3,9],[0,3,4,5],[0,3,5,22],[2],[0,3],[2]] Tryz.func82 [.tmp 2] ?_;simp only[↓XC,X1,seval,dB,rH,qx,XR];refine cF.of (ι:={p:Nat // p<=s.length/\vM s p=vM s 0}) (fun x=>⟨[(0,.s s),(3,.i .i64 (x.1:Nat))],[]⟩) (fun x=>s.length-x.1) ⟨0,bF _,rfl⟩ (cG.refl _ _) ?_;rintro⟨p,b,a⟩;simp only[↓XC,X1,seval,dB,rH,qx,XR];have g:=IY (s.drop p);rw[bK]at g;rw[bQ s b];refine⟨fun i=>bH.mk hp fun _=>bH.mk (fun h=>⟨h,by omega,by omega⟩) fun _=>⟨fun h=>?_,fun h=>CR fun _=>?_⟩,fun i=>?_⟩
 ·have e:vM s p=p:=by rw[vM,cV];rintro⟨_,d,f,_⟩;rw[f]at h;simp at h;exact d h
  rw[<-a,e]
 ·simp only[aY,aO,bD]at h;have c:(yq (s.drop p)).2≠0:=by omega
  exact⟨⟨p+(yq (s.drop p)).2,by omega,by rw[<-a,vM.eq_1 s p,bV ⟨by omega,c,h.2,by omega⟩]⟩,by simp only;omega,(by first|exact cG.refl _ _|(simp only[aP,aQ];exact cG.refl _ _))⟩
 have e:vM s p=p:=by rw[vM,cV (by omega)]
 rw[<-a,e]
noncomputable def om:=gC fun((a,b):Bs×Bs)=>([.agg [.s a,.s b]],a.length<=1048576/\b.length<=1048576,.b (HH ⟨a,b⟩))
theorem o9{a b:Bs}:om [.agg [.s a,.s b]]=some (ptr om rfl (a,b)):=iZ
theorem wv:fO Tryz.prog 225 om:=gJ fun(o,a) hp=>by
 dsimp only at *;refine HP sX.d 38 [[1],[1,3],[1,3,8],[1,3],[1,3,22],[2],[2]] Tryz.func225 [.tmp 2] ?_;simp only[↓XC,X1,seval,dB,lR,XR];refine cF.of (ι:={i:Nat // i<=a.length/\((a.take i).all fun b=>decide (33<=b.toNat)&&decide (b.toNat<=126))=true}) (fun x=>⟨[(1,.ptr 0 0 0),(3,.i .i64 (x.1:Nat))],[some (.gA false [.s o,.s a])]⟩) (fun x=>a.length-x.1) ⟨0,bF _,rfl⟩ (cG.refl _ _) ?_;rintro⟨i,p,c⟩;simp only[↓XC,X1,seval,dB,lR,XR];have f:∀j,j<a.length->a[j]?=some (a.getD j 0):=fun j m=>by rw[aG,aS m];rfl
 refine⟨fun n=>CO fun _=>bH.mk (fun _=>by omega) fun _=>⟨fun h=>?_,fun h=>CR fun _=>?_⟩,fun n=>bH.mk hp.1 fun _=>?_⟩
 ·have d:i<a.length:=by omega
  have l:(a.all fun b=>decide (33<=b.toNat)&&decide (b.toNat<=126))=false:=by rw[List.all_eq_false];refine⟨a.getD i 0,dJ (f i d), ?_⟩;simp only[aV,aE]at h;simp only[aD,aE];omega
  unfold HH;rw[l,Bool.and_false]
 ·have d:i<a.length:=by omega
  simp only[aY,aO]at h;refine⟨⟨i+1,by omega, ?_⟩,by simp only;omega,(by first|exact cG.refl _ _|(simp only[aP,aQ];exact cG.refl _ _))⟩;rw[fR,List.all_append,c,di,f i d];simp only[Option.toList_some,List.all_cons,List.all_nil,Bool.and_true,aD,aE];omega
 obtain rfl:i=a.length:=by omega
 rw[eY]at c;unfold HH;rw[c,Bool.and_true];congr 1;rw[bO];simp only[aD,aE];constructor
 ·rintro⟨⟨e,g⟩,k⟩;exact⟨e,by omega,by omega⟩
 rintro⟨e,g,k⟩;exact⟨⟨e,by omega⟩,by omega⟩
end Go.T
end
section
namespace Go.T
variable[Go.Vg.df][Go.Vg.cS 0 1]
open Go.Proofs Go.Vg Go.RowKit Go.TT Go.Pl
set_option maxRecDepth 10000
set_option maxHeartbeats 4000000
theorem HZ(s:Bs)(t:s.length<=60000):∀(d:Nat) (n:Int) (i l:Bool) (x:Rb) (u:Int),Ok s x.r->x.r.dp+d=40 -> -1<=n->n<=60000->ql Tryz.prog 226 s [.i .i64 n,.b i,.b l] u x.r (uE s d n i l x):=by
 intro d
 induction d with
 |zero=>
  intro n i l x u z hd a b;have w:uE s 0 n i l x=sj s (fun _ _ _ x=>x) n i l x:=rfl;rw[w];exact Pq s x u (fun _ _ _ x=>x) n i l (fun o j m k y an tg v D q fM c A e B C=>SQ s q fM (fun _ _ _ x=>x) o j m k y an tg v D (fun h=>by omega) ⟨t,c,e,B,C⟩) (fun o j m k q fM c A e=>SW s q fM (fun _ _ _ x=>x) o j m k (fun h=>by omega) ⟨t,c,e⟩) _ rfl ⟨t,z,a,b⟩
 |succ d E=>intro n i l x u z hd a b;have w:uE s (d+1) n i l x=sj s (uE s d) n i l x:=rfl;rw[w];exact Pq s x u (uE s d) n i l (fun o j m k y an tg v D q fM c A e B C=>SQ s q fM (uE s d) o j m k y an tg v D (fun h=>⟨fun g i2 f r m1 m2 m3=>sQ d g i2 f r m1 (by omega) m3,fun g i2 f r p m1 m2 m3 m4=>E g i2 f r p m1 (by omega) m3 m4⟩) ⟨t,c,e,B,C⟩) (fun o j m k q fM c A e=>SW s q fM (uE s d) o j m k (fun h=>⟨fun g i2 f r m1 m2 m3=>sQ d g i2 f r m1 (by omega) m3,fun g i2 f r p m1 m2 m3 m4=>E g i2 f r p m1 (by omega) m3 m4⟩) ⟨t,c,e⟩) _ rfl ⟨t,z,a,b⟩
theorem SR(s:Bs)(r:Rd)(a:Int)(hp:s.length<=1048576/\r.cd=0/\r.pos+3<=s.length):gQ Tryz.prog 85 4 [.ptr 0 0 0] (fk s (r) ((r).pos:Nat) a) (fun z c=>z=.fJ []/\c=(fk s (sZ s r) ((sZ s r).pos:Nat) a)):=by
 refine l5 jj.d 26 [[0,2,3],[0,2,18],[],[]] Tryz.func85 [] (fun _=>false) [] [(0,[],[],qa (.q0 3 [3] (.q0 7 [7] (.q1 8 (.de 9 (.q1 10 (.q1 11 (.q1 12 (.q1 13 (.q1 14 .fin))))) .fin)))))] ?_;simp only[↓X9,X0,seval,X2,iq,bI];have b:=gV (s:=s) hp.2.2;rw[show((r.pos:Nat):Int)+3=((r.pos+3:Nat):Int) by omega,bQ s hp.2.2];refine⟨by decide +kernel,CR fun _=>bH.mk hp.1 fun _=>⟨fun h=>?_,fun h=>?_⟩⟩
 ·have e:sZ s r=er r 8 (iA s (r.pos+3)).1:=by unfold sZ;rw[aB (by simpa using h)]
  rw[e];refine Vm (jh s r a 8 (iA s (r.pos+3)).1 hp.2.1) ?_;simp only[↓X9,X0,seval,X2,bI,XM];exact Vf
 have e:sZ s r=atR r (iA s (r.pos+3)).1:=by unfold sZ;rw[aA (by simpa using h)]
 rw[e];exact Vf
theorem Wk(s:Bs)(x:Rb)(j:Int)(m:Bool)(R:Rb)(Q:R=(AV s m x))(hp:s.length<=60000/\Ok s x.r/\x.r.dp=0/\(m=true->x.r.pos+3<=s.length)/\(m=false->dR s x.r.pos=x.r.pos/\fV s x.r.pos=false)):gQ Tryz.prog 173 1 [.ptr 0 0 0,.b m] (fk s (x.r) ((x.r).pos:Nat) j) (fun z c=>∃(a P:Int) (S:Bool),((R).r.cd=0->a=(((R).r.pos:Nat):Int)/\S=(R).fr)/\z=.b S/\c=(fk s ((R).r) a P)):=by
 refine Jh (jj.c fN.d) 76 [[0,1],[0,7],[0],[0,5,6],[0,5,29],[0],[4],[0,5],[0,5,55],[0,5],[],[4],[0],[0,73],[4],[4]] Tryz.func173 [.tmp 4] (fun i=>i==8) [] [(3,[],[],qa (.q0 3 [3] (.q0 7 [7] (.de 8 (qh .fin) .fin)))),(5,[],[],qf (.q0 4 [4,9,10,11,12] (.q0 8 [8,9,10,11,12] (.seq [9,10,11,12]))))] ?_;simp only[↓X9,X0,seval,X2,iq,cO,bI];obtain⟨H,B,I,L,M⟩:=hp;have v:s.length<=1048576:=by omega
 have C:=B.pos;have y:=B.cd;refine⟨fun hm=>CR fun _=>?_,fun hm=>?_⟩
 ·have p:=L hm;have V:=gV (s:=s) p;have W:=gY s (x.r.pos+3);have O:=gO s (x.r.pos+3) p;have T:=fq s (x.r.pos+3);have A:=ez s (x.r.pos+3) p;have d:R=if(iA s (x.r.pos+3)).2=false then uE s 40 (-1) true false (bI x (atR x.r (wh s (x.r.pos+3))))else if(jn s x.r (x.r.pos+3)).cd≠0 then bI x (jn s x.r (x.r.pos+3))else if fV s (jn s x.r (x.r.pos+3)).pos=true then qJ x (jn s x.r (x.r.pos+3)) (kF 0) (iA s (x.r.pos+3)).1 else uE s 40 (-1) false false (bI x (jn s x.r (x.r.pos+3))):=by rw[Q];unfold AV;rw[aA (by rw[hm];simp)]
  rw[show((x.r.pos:Nat):Int)+3=((x.r.pos+3:Nat):Int) by omega,bQ s p];refine⟨by decide +kernel,bH.mk v fun _=>⟨fun h=>⟨by decide +kernel,bH.mk v fun _=>?_⟩,fun h=>?_⟩⟩
  ·have E:(iA s (x.r.pos+3)).2=false:=by simpa using h
   have n:=HZ s H 40 (-1) true false (bI x (atR x.r (wh s (x.r.pos+3)))) j (B.at (by omega) O) (by show x.r.dp+40=40;omega) (by decide) (by decide);rw[show uE s 40 (-1) true false (bI x (atR x.r (wh s (x.r.pos+3))))=R by rw[d,aB E]]at n;unfold ql fk at n;refine Vq (n) ?_;rintro z c ⟨a2,f,e,o,rfl,rfl⟩;simp only[↓X9,X0,seval,X2,bI,XM];refine⟨.b e,(fk s ((R).r) a2 f),⟨a2,f,e,o,rfl,rfl⟩, ?_⟩;exact Vf
  have E:(iA s (x.r.pos+3)).2=true:=by simpa using h
  have q:=AY s (atR x.r (x.r.pos+3)) j (iA s (x.r.pos+3)).1 ⟨v,y,V.2⟩;rw[Ec E,Eb]at q;rw[aA (by rw[E];simp)]at d;obtain⟨g,t⟩:∃g,g=jn s x.r (x.r.pos+3):=⟨_,rfl⟩
  rw[<-t]at q d;refine Vm (q) ?_;simp only[↓X9,X0,seval,X2,bI,XM];by_cases b:g.cd=0
  ·have k:g=atR x.r (dR s (x.r.pos+3)):=by rw[t];exact jU (by rw[<-t];exact b)
   have K:g.pos<=s.length:=by rw[k];exact A
   have l:Ok s g:=by rw[k];exact B.at (by omega) A
   have J:g.ev.length<=16777216:=cv (l.size v) (by decide);have U:g.dp=0:=by rw[k];exact I
   rw[aA (by simpa using b)]at d;simp only[aJ b];simp only[↓X9,X0,seval,X2,bI];refine Vm (qi s g j ⟨v,K⟩) ?_;simp only[↓X9,X0,seval,X2,bI,XM];refine⟨fun F=>?_,fun F=>⟨fun G=>absurd b (by simpa using G),fun _=>?_⟩⟩
   ·refine Vb (Ln s g j 0 0 [] [] [] ⟨J,l.dn,l.bs⟩) ?_;simp only[↓X9,X0,seval,X2,bI,XM];have w:R=qJ x g (kF 0) (iA s (x.r.pos+3)).1:=by rw[d,aB F]
    rw[w];refine⟨.b true,(fk s ((qJ x g (kF 0) (iA s (x.r.pos+3)).1).r) (((iA s (x.r.pos+3)).1:Nat):Int) j),⟨(((iA s (x.r.pos+3)).1:Nat):Int),j,true,fun _=>⟨rfl,rfl⟩,rfl,rfl⟩, ?_⟩;try simp only[YC,qJ,kF,BD,cY,bB,atR,bI,aC,aK,aL,aX]
    exact Vf
   rw[aA (by rw[F];simp)]at d;have n:=HZ s H 40 (-1) false false (bI x g) j l (by show g.dp+40=40;omega) (by decide) (by decide);rw[<-d]at n;unfold ql fk at n;refine Vq (n) ?_;rintro z c ⟨a2,f,e,o,rfl,rfl⟩;simp only[↓X9,X0,seval,X2,bI,XM];refine⟨.b e,(fk s ((R).r) a2 f),⟨a2,f,e,o,rfl,rfl⟩, ?_⟩;exact Vf
  simp only[aI b];simp only[↓X9,X0,seval,X2,bI];refine⟨fun _=>?_,fun G=>absurd (by simpa using G) b⟩;have w:R=bI x g:=by rw[d,aB b]
  rw[w];refine⟨.b true,(fk s ((bI x g).r) ((g.pos:Nat):Int) j),⟨((g.pos:Nat):Int),j,true,fun h=>absurd h b,rfl,rfl⟩, ?_⟩;exact Vf
 obtain⟨D,N⟩:=M hm;have d:R=if(kB s x.r).cd≠0 then bI x (kB s x.r)else uE s 40 (-1) false false (bI x (kB s x.r)):=by rw[Q];unfold AV;rw[aB hm]
 have q:=AY s x.r j x.r.pos ⟨v,y,C⟩;have u:=Ro (r:=x.r) D N;rw[u]at q;obtain⟨g,t⟩:∃g,g=kB s x.r:=⟨_,rfl⟩
 rw[<-t]at q d;refine Vm (q) ?_;simp only[↓X9,X0,seval,X2,bI,XM];refine⟨fun p=>?_,fun p=>?_⟩
 ·have b:¬g.cd=0:=by simpa using p
  have w:R=bI x g:=by rw[d,aB b]
  rw[w];refine⟨.b true,(fk s ((bI x g).r) ((g.pos:Nat):Int) j),⟨((g.pos:Nat):Int),j,true,fun h=>absurd h b,rfl,rfl⟩, ?_⟩;exact Vf
 have b:g.cd=0:=by simpa using p
 have k:g=atR x.r (dR s x.r.pos):=by rw[t,<-u];exact jU (by rw[u,<-t];exact b)
 have l:Ok s g:=by rw[k,D];exact B
 have n:=HZ s H 40 (-1) false false (bI x g) j l (by show g.dp+40=40;rw[k];show x.r.dp+40=40;omega) (by decide) (by decide);rw[show uE s 40 (-1) false false (bI x g)=R by rw[d,aA (by simpa using b)]]at n;unfold ql fk at n;refine Vq (n) ?_;rintro z c ⟨a2,f,e,o,rfl,rfl⟩;simp only[↓X9,X0,seval,X2,bI,XM];refine⟨.b e,(fk s ((R).r) a2 f),⟨a2,f,e,o,rfl,rfl⟩, ?_⟩;exact Vf
end Go.T
end
