/- Own text: part VBB. -/
import Derived.Test.YtgippllfnmdnpaaGreatDoorVBA
import Derived.Test.YtgippllfnmdnpaaGreatDoorVAT
import Derived.Test.YtgippllfnmdnpaaGreatDoorVAY
set_option linter.all false
section
namespace Go.T
variable[Go.Vg.df][Go.Vg.cS 0 1]
open Go.Proofs Go.Vg Go.RowKit Go.TT Go.Pl
set_option maxRecDepth 10000
set_option maxHeartbeats 4000000
theorem sB(s:Bs)(r:Rd)(fr:Bool)(la:Int)(f:Rd->Rd)(a:Bool)(an tg:Bs)(pf:Int)(b:Nat)(u:bW s r.pos=91->mg Tryz.prog 348 s fr la [.agg [.b a,.s an,.s tg,.i .i64 pf,.i .i64 (b:Nat)]] r (qO s f 93 3 r (⟨a,an,tg,b⟩:Pp)))(v:bW s r.pos=123->mg Tryz.prog 349 s fr la [.agg [.b a,.s an,.s tg,.i .i64 pf,.i .i64 (b:Nat)]] r (qO s (n1 s f) 125 4 r (⟨a,an,tg,b⟩:Pp)))(hp:s.length<=1048576/\Ok s r):gQ Tryz.prog 318 1 [.ptr 0 0 0,.agg [.b a,.s an,.s tg,.i .i64 pf,.i .i64 (b:Nat)]] (iF s (r) fr la) (fun z c=>z=.b (decide ((pA s f r (⟨a,an,tg,b⟩:Pp)).cd=0))/\c=(iF s (pA s f r (⟨a,an,tg,b⟩:Pp)) fr la)):=by
 refine l5 (dv.c (kr.c iY.d)) 76 [[0,3],[0,3,5],[0,3,5,15],[4],[0,3,5,21],[4],[0,3,5,27],[4],[0,3,5,33],[4],[0,3,5,39],[4],[0,3,52],[],[4],[4]] Tryz.func318 [.tmp 4] (fun _=>false) [] [(1,[],[],qa (.q0 3 [3] (.q0 7 [7] (.de 8 (.q1 9 .fin) .fin)))),(10,[],[],qa (.q0 3 [3] (.q0 7 [7] (.de 8 (.q1 9 .fin) .fin))))] ?_;simp only[↓XC,X1,seval,X2,bL,dY,cU];obtain⟨m,d⟩:=hp;have w:=d.size m;have k:=d.cd;rw[bQ s d.pos];refine⟨by decide +kernel,bH.mk m fun _=>⟨fun g=>?_,fun g=>⟨fun i=>?_,fun i=>⟨fun l=>?_,fun l=>⟨fun n=>?_,fun n=>?_⟩⟩⟩⟩⟩
 ·have e:pA s f r (⟨a,an,tg,b⟩:Pp)=qO s f 93 3 r (⟨a,an,tg,b⟩:Pp):=by unfold pA;rw[aB g]
  rw[e];have o:=u g;unfold mg iF at o;refine Wb (o) ?_;simp only[↓XC,X1,seval,X2,XM];exact Wf
 ·have e:pA s f r (⟨a,an,tg,b⟩:Pp)=qO s (n1 s f) 125 4 r (⟨a,an,tg,b⟩:Pp):=by unfold pA;rw[aA g,aB i]
  rw[e];have o:=v i;unfold mg iF at o;refine Wb (o) ?_;simp only[↓XC,X1,seval,X2,XM];exact Wf
 ·have e:pA s f r (⟨a,an,tg,b⟩:Pp)=oP s r a:=by unfold pA oM;rw[aA g,aA i,aB l]
  rw[e];refine Wb (EC s r fr la a an tg pf b ⟨m,by omega,d.dn,d.bs,d.cd,d.pos⟩) ?_;simp only[↓XC,X1,seval,X2,XM];exact Wf
 ·have t:r.pos<s.length:=by
   simp only[aV,dx]at n;rcases n with h|h
   ·exact cE h (by decide)
   exact cE h (by decide)
  have e:pA s f r (⟨a,an,tg,b⟩:Pp)=oR s r (⟨a,an,tg,b⟩:Pp):=by unfold pA oM;rw[aA g,aA i,aA l,aB (show je (bW s r.pos)=true from n)]
  rw[e];refine Wb (EJ s r fr la a an tg pf b ⟨m,by omega,d.dn,d.bs,d.cd,t⟩) ?_;simp only[↓XC,X1,seval,X2,XM];exact Wf
 have j:¬je (bW s r.pos)=true:=by unfold je;simpa using n
 refine⟨by decide +kernel,bH.mk m fun _=>⟨fun p=>?_,fun p=>⟨fun q=>?_,fun q=>?_⟩⟩⟩
 ·have e:pA s f r (⟨a,an,tg,b⟩:Pp)=E4 s r (⟨a,an,tg,b⟩:Pp) (-1) true:=by unfold pA oM;rw[aA g,aA i,aA l,aA j,aB p]
  rw[e];refine Wb (IZ s r fr la a an tg pf b (-1) true ⟨m,by omega,d.dn,d.bs,d.pos⟩) ?_;simp only[↓XC,X1,seval,X2,XM];simp only[E4,atR,cY,bB,aC,aK,aL,aX];exact Wf (by simp only[↓XC,X1,seval];try simp[Yf,k])
 ·have e:pA s f r (⟨a,an,tg,b⟩:Pp)=cY r 1 [] an tg:=by unfold pA oM;rw[aA g,aA i,aA l,aA j,aA (by simpa using p),aB (by simpa[or_assoc]using q)]
  rw[e];refine Wb (r5 s r fr la 1 [] a an tg pf b ⟨by omega,d.dn,d.bs⟩) ?_;simp only[↓XC,X1,seval,X2,XM];exact Wf (by simp only[↓XC,X1,seval];try simp[Yf,k])
 have e:pA s f r (⟨a,an,tg,b⟩:Pp)=er r 10 r.pos:=by unfold pA oM;rw[aA g,aA i,aA l,aA j,aA (by simpa using p),aA (by simpa[or_assoc,fe]using q)]
 rw[e];refine Wm (gP s r fr la 10 r.pos k) ?_;simp only[↓XC,X1,seval,X2,XM];exact Wf
theorem Df(s:Bs)(r:Rd)(fr:Bool)(la:Int)(f:Rd->Rd)(D:∀(y:Rd) (F:Bool) (an tg:Bs) (pf:Int) (G:Nat),Ok s y->y.dp=r.dp->mg Tryz.prog 318 s fr la [.agg [.b F,.s an,.s tg,.i .i64 pf,.i .i64 (G:Nat)]] y (pA s f y (⟨F,an,tg,G⟩:Pp)))(hp:s.length<=1048576/\Ok s r):gQ Tryz.prog 356 1 [.ptr 0 0 0] (iF s (r) fr la) (fun z c=>z=.b (decide ((yf s f r).cd=0))/\c=(iF s (yf s f r) fr la)):=by
 refine l5 pn 24 [[0],[0,3,4],[0,3,20],[2],[2]] Tryz.func356 [.tmp 2] (fun i=>i==2) [] [] ?_;simp only[↓XC,X1,seval,X2];obtain⟨B,l⟩:=hp;have H:=l.size B;have v:=l.cd;obtain⟨q,t⟩:∃q,q=iP s true r:=⟨_,rfl⟩
 obtain⟨p,d⟩:∃p,p=ia s true r:=⟨_,rfl⟩
 refine Wm (AU s r fr la true ⟨B,v,l.pos,l.hd,l.pf⟩) ?_;simp only[↓XC,X1,seval,X2,XM];rw[<-t,<-d];by_cases a:q.cd=0
 ·obtain⟨a9,A,I,C,_⟩:=jr (fl:=true) l.pos v (by rw[<-t];exact a);rw[<-t]at A;have m:Ok s q:=by rw[A];exact l.at I C
  have w:q.dp=r.dp:=by rw[A];rfl
  simp only[aJ a];cases o:p.has
  ·have n:km s r=q:=by unfold km;rw[<-t,<-d,aA (by rw[o];simp)]
   have k:=m;have j:=w;have b:=a;rw[<-o];simp only[↓X9,X0,seval,X2,o];have u:=D q false p.an p.tg (r.pos:Nat) p.en k j;unfold mg iF at u;refine Wb (u) ?_;simp only[↓XC,X1,seval,X2,XM];have e:yf s f r=pA s f q (⟨false,p.an,p.tg,p.en⟩:Pp):=by unfold yf;rw[n,aA (by simpa using b),<-d,<-o]
   rw[e];exact Wf
  simp only[↓X9,X0,seval,X2];obtain⟨g,x⟩:∃g,g=ik s q:=⟨_,rfl⟩
  have n:km s r=g:=by unfold km;rw[<-t,<-d,aB ⟨a,o⟩,x]
  refine Wm (O6 s q fr la ⟨B,a,m.pos⟩) ?_;simp only[↓XC,X1,seval,X2,XM];rw[<-x];by_cases b:g.cd=0
  ·simp only[aJ b];have E:g=q:=by rw[x];exact(vx (by rw[<-x];exact b)).1
   have k:Ok s g:=by rw[E];exact m
   have j:g.dp=r.dp:=by rw[E];exact w
   simp only[↓X9,X0,seval,X2];have u:=D g true p.an p.tg (r.pos:Nat) p.en k j;unfold mg iF at u;refine Wb (u) ?_;simp only[↓XC,X1,seval,X2,XM];have e:yf s f r=pA s f g (⟨true,p.an,p.tg,p.en⟩:Pp):=by unfold yf;rw[n,aA (by simpa using b),<-d,<-o]
   rw[e];exact Wf
  simp only[aI b];simp only[↓X9,X0,seval,X2];have e:yf s f r=g:=by unfold yf;rw[n,aB b]
  rw[e,aI b];exact Wf
 simp only[aI a];simp only[↓X9,X0,seval,X2];have e:yf s f r=q:=by
  have n:km s r=q:=by unfold km;rw[<-t,aA (fun h=>a h.1)]
  unfold yf;rw[n,aB a]
 rw[e,aI a];exact Wf
theorem Dg(s:Bs)(r:Rd)(fr:Bool)(la:Int)(B:Rd->Rd)(HS:∀O:Rd,Ok s O->O.dp=r.dp->mg Tryz.prog 356 s fr la [] O (B O))(hp:s.length<=1048576/\Ok s r):gQ Tryz.prog 358 1 [.ptr 0 0 0] (iF s (r) fr la) (fun z c=>z=.b (decide ((n1 s B r).cd=0))/\c=(iF s (n1 s B r) fr la)):=by
 refine l5 (dv.c (kr.c (iY.c (iO.c kZ.d)))) 163 [[0],[0,3,4],[0,3,4,23],[2],[0,3,4,5],[2],[0,3,4,5,39],[0,4,5],[0,3,4,5,45],[0,4,5],[0,3,4,5,51],[0,4,5],[0,3,4,5,64],[0,4,5],[0,5,88],[2],[0,6],[0,129],[],[2],[0],[0,142],[2],[0,7],[0,157],[],[2],[2]] Tryz.func358 [.tmp 2] (fun i=>i==2||i==14) [4,14] [(4,[],[],qa (.q0 3 [3] (.q0 7 [7] (.de 8 (.q1 9 .fin) .fin)))),(10,[],[],qa (.q0 3 [3] (.q0 7 [7] (.de 8 (.q1 9 .fin) .fin)))),(16,[],[],qa (.q0 3 [3] (.q0 7 [7] (.q1 8 (.de 9 (.q1 10 (.q1 11 (.q1 12 (.q1 13 (.q1 15 (.q1 16 (.q1 17 (.q0 14 [14] (.q0 18 [18] (.q1 19 (.de 20 (.de 21 (.q1 22 (.q1 23 (.q1 24 (.de 25 (.q1 26 (.q1 27 .fin)) .fin)))) .fin) .fin))))))))))) .fin))))),(17,[],[],qa (.q0 3 [3] (.q0 7 [7] (.q1 8 (qh .fin))))),(23,[],[],qa (.q0 3 [3] (.q0 7 [7] (qd .fin))))] ?_;simp only[↓XC,X1,seval,X2,bL,dY,cU,dq,dV,bX];obtain⟨j,v⟩:=hp;have ae:=v.size j;have E:=v.cd;obtain⟨q,I⟩:∃q,q=iP s true r:=⟨_,rfl⟩
 obtain⟨p,n⟩:∃p,p=ia s true r:=⟨_,rfl⟩
 refine eS.mut (AU s r fr la true ⟨j,E,v.pos,v.hd,v.pf⟩) rfl [0,1,2,3,4] (by simp[Yf]) (by simp only[Ye];exact⟨by omega,aM (by simp[Yf,Yh,bX]),by omega,aF fun _=>rfl,by omega,aF fun _=>rfl,by omega,cB,by omega,aF fun _=>rfl⟩) (by decide) ?_;simp only[↓XC,X1,seval,X2,bX,XM];rw[<-I,<-n];refine kT.of (ι:={x:Rd // x=km s r/\x.cd=0}) (fun x=>⟨[(0,.ptr 0 0 0),(3,.ptr 5 0 0),(4,.b true)],(Mt s (x.1) fr la [some (.gA false [.b p.has,.s p.an,.s p.tg,.i .i64 (r.pos:Nat),.i .i64 (p.en:Nat)])])⟩) ?_ ?_
 ·by_cases f:q.cd=0
  ·obtain⟨a9,o,l9,Y,_⟩:=jr (fl:=true) v.pos E (by rw[<-I];exact f);rw[<-I]at o;have V:Ok s q:=by rw[o];exact v.at l9 Y
   simp only[aJ f];cases y:p.has
   ·have m:q=km s r:=by unfold km;rw[<-I,<-n,aA (by rw[y];simp)]
    simp only[↓X9,X0,seval,X2,bX];exact⟨⟨q,m,f⟩,(cG.cT [0,1,2,3,4,5] (by decide) (by simp only[Yd];exact⟨aM (by simp[Yf,Yh]),aF fun _=>rfl,aF fun _=>rfl,cB,aF fun _=>rfl,aM (by simp[Yf])⟩) (by simp[bC,Vg.look,SV.bP,dX]))⟩
   simp only[↓X9,X0,seval,X2,bX];obtain⟨g,t⟩:∃g,g=ik s q:=⟨_,rfl⟩
   have m:g=km s r:=by unfold km;rw[<-I,<-n,aB ⟨f,y⟩,t]
   refine Wm (O6 s q fr la ⟨j,f,V.pos⟩) ?_;simp only[↓XC,X1,seval,X2,bX,XM];rw[<-t];by_cases a:g.cd=0
   ·simp only[aJ a];simp only[↓X9,X0,seval,X2,bX];exact⟨⟨g,m,a⟩,(cG.cT [0,1,2,3,4,5] (by decide) (by simp only[Yd];exact⟨aM (by simp[Yf,Yh]),aF fun _=>rfl,aF fun _=>rfl,cB,aF fun _=>rfl,aM (by simp[Yf])⟩) (by simp[bC,Vg.look,SV.bP,dX]))⟩
   simp only[aI a];simp only[↓X9,X0,seval,X2,bX];have e:n1 s B r=g:=by unfold n1;rw[<-m,aB a]
   rw[e,aI a];exact Wf
  simp only[aI f];simp only[↓X9,X0,seval,X2,bX];have e:n1 s B r=q:=by
   have m:km s r=q:=by unfold km;rw[<-I,aA (fun h=>f h.1)]
   unfold n1;rw[m,aB f]
  rw[e,aI f];exact Wf
 rintro⟨F,m,a⟩;have b:Ok s F:=by rw[m];exact v.km (by rw[<-m];exact a)
 have ad:F.dp=r.dp:=by obtain⟨q9,o,_⟩:=oH v.pos E (show(km s r).cd=0 by rw[<-m];exact a);rw[m,o];rfl
 have Z:=b.size j;simp only[↓XC,X1,seval,X2,bL,dY,cU,dq,dV,bX];rw[bQ s b.pos];refine⟨by decide +kernel,bH.mk j fun _=>?_⟩;refine kT.of (ι:={x:Rd // x=oM s F p 125 58}) (fun x=>⟨[(0,.ptr 0 0 0),(4,.b (decide (x.1.cd=0))),(5,.i .i64 (bW s F.pos))],(iF s (x.1) fr la)⟩) ?_ ?_
 ·simp only[↓XC,X1,seval,X2,bL,dY,cU,dq,dV,bX];refine⟨fun H=>?_,fun H=>⟨fun J=>?_,fun J=>⟨by decide +kernel,bH.mk j fun _=>?_⟩⟩⟩
  ·have e:oM s F p 125 58=oP s F p.has:=by unfold oM;rw[aB H]
   refine Wb (EC s F fr la p.has p.an p.tg (r.pos:Nat) p.en ⟨j,by omega,b.dn,b.bs,a,b.pos⟩) ?_;simp only[↓XC,X1,seval,X2,bL,dY,cU,dq,dV,bX,XM];exact⟨⟨oP s F p.has,e.symm⟩,(cG.cT [0,1,2,3,4] (by decide) (by simp only[Yd];exact⟨aM (by simp[Yf,Yh]),aF fun _=>rfl,aF fun _=>rfl,cB,aF fun _=>rfl⟩) (by simp[bC,Vg.look,SV.bP,dX]))⟩
  ·have W:F.pos<s.length:=by
    simp only[aV,dx]at J;rcases J with h|h
    ·exact cE h (by decide)
    exact cE h (by decide)
   have e:oM s F p 125 58=oR s F p:=by unfold oM;rw[aA H,aB (show je (bW s F.pos)=true from J)]
   refine Wb (EJ s F fr la p.has p.an p.tg (r.pos:Nat) p.en ⟨j,by omega,b.dn,b.bs,a,W⟩) ?_;simp only[↓XC,X1,seval,X2,bL,dY,cU,dq,dV,bX,XM];exact⟨⟨oR s F p,e.symm⟩,(cG.cT [0,1,2,3,4] (by decide) (by simp only[Yd];exact⟨aM (by simp[Yf,Yh]),aF fun _=>rfl,aF fun _=>rfl,cB,aF fun _=>rfl⟩) (by simp[bC,Vg.look,SV.bP,dX]))⟩
  rw[bQ s b.pos];have C:¬je (bW s F.pos)=true:=by unfold je;simpa using J
  refine⟨fun M=>?_,fun M=>⟨fun P=>?_,fun P=>?_⟩⟩
  ·have e:oM s F p 125 58=E4 s F p (-1) true:=by unfold oM;rw[aA H,aA C,aB M]
   refine Wb (IZ s F fr la p.has p.an p.tg (r.pos:Nat) p.en (-1) true ⟨j,by omega,b.dn,b.bs,b.pos⟩) ?_;simp only[↓XC,X1,seval,X2,bL,dY,cU,dq,dV,bX,XM];exact⟨⟨E4 s F p (-1) true,e.symm⟩,(cG.cT [0,1,2,3,4] (by decide) (by simp only[Yd];exact⟨aM (by simp[Yf,Yh]),aF fun _=>rfl,aF fun _=>rfl,cB,aF fun _=>rfl⟩) (by simp[bC,Vg.look,SV.bP,dX,a,E4,atR,cY,bB]))⟩
  ·have e:oM s F p 125 58=cY F 1 [] p.an p.tg:=by unfold oM;rw[aA H,aA C,aA (by simpa using M),aB (by simpa[or_assoc]using P)]
   refine Wb (r5 s F fr la 1 [] p.has p.an p.tg (r.pos:Nat) p.en ⟨by omega,b.dn,b.bs⟩) ?_;simp only[↓XC,X1,seval,X2,bL,dY,cU,dq,dV,bX,XM];refine⟨⟨cY F 1 [] p.an p.tg,e.symm⟩, ?_⟩;simp only[cY,bB,aC,aK,aL,aX];exact(cG.cT [0,1,2,3,4] (by decide) (by simp only[Yd];exact⟨aM (by simp[Yf,Yh]),aF fun _=>rfl,aF fun _=>rfl,cB,aF fun _=>rfl⟩) (by simp[bC,Vg.look,SV.bP,dX,a]))
  have e:n1 s B r=er F 10 F.pos:=by
   have e2:oM s F p 125 58=er F 10 F.pos:=by unfold oM;rw[aA H,aA C,aA (by simpa using M),aA (by simpa[or_assoc,fe]using P)]
   unfold n1;rw[<-m,<-n,aA (by simpa using a),e2,aB (by simp[er])]
  rw[e];refine Wm (gP s F fr la 10 F.pos a) ?_;simp only[↓XC,X1,seval,X2,bX,XM];exact Wf
 rintro⟨x,hx⟩;have u:n1 s B r=if x.cd≠0 then x else if(cL s x).cd≠0 then cL s x else Qt s B (je (bW s F.pos)) (cL s x):=by unfold n1;rw[<-m,<-n,<-hx,aA (by simpa using a)]
 simp only[↓XC,X1,seval,X2,bL,dY,cU,dq,dV,bX];by_cases k:x.cd=0
 ·have K:=Ee v m a (by rw[hx,n]) k;have L:=K.ok;simp only[aJ k];simp only[↓X9,X0,seval,X2,bL,dY,cU,dq,dV,bX];obtain⟨g,t⟩:∃g,g=cL s x:=⟨_,rfl⟩
  refine Wm (Mw s x fr la ⟨j,k,L.pos⟩) ?_;simp only[↓XC,X1,seval,X2,bL,dY,cU,dq,dV,bX,XM];rw[<-t];rw[aA (by simpa using k),<-t]at u;by_cases d:g.cd=0
  ·simp only[aJ d];simp only[↓X9,X0,seval,X2,bL,dY,cU,dq,dV,bX];have w:Ok s g:=by rw[t];exact L.gN (by rw[<-t];exact d)
   have S:g.dp=r.dp:=by obtain⟨o,N⟩:=gm (s:=s) (r:=x) (by rw[<-t];exact d);rw[t,o];exact K.dp
   have G:g.pos<s.length:=by obtain⟨o,N⟩:=gm (s:=s) (r:=x) (by rw[<-t];exact d);rw[t,o];exact N
   have aa:=w.size j;rw[aA (by simpa using d)]at u;have ep:((g.pos:Int)+1).toNat=g.pos+1:=by omega
   have es:bW s (spot s ((g.pos:Int)+1))=bW s (g.pos+1):=by rw[j0 (by omega)];rfl
   rw[es,ep,<-cW G];have hQ:(!decide (bW s g.pos=58)||!(gN s (g.pos+1)||re (bW s (g.pos+1))||(bW s F.pos==39||bW s F.pos==34)))=!decide (bW s g.pos=58/\(gN s (g.pos+1)||re (bW s (g.pos+1))||je (bW s F.pos))=true):=by rw[eH,Bool.not_and,Bool.decide_eq_true];rfl
   rw[hQ];refine⟨by decide +kernel,CR fun _=>bH.mk ⟨j,by omega⟩ fun _=>bH.mk (fun _=>(by simp only[iU];omega)) fun _=>bH.mk (fun h=>⟨⟨h,h⟩,j⟩) fun _=>⟨by decide +kernel,CO fun _=>⟨fun R=>?_,fun R=>CR fun _=>?_⟩⟩⟩
   ·have D:=bE (by simpa only[aR]using R);rw[u,Qt,aA D];refine Wb (r5 s g fr la 1 [] false [] [] 0 0 ⟨by omega,w.dn,w.bs⟩) ?_;simp only[↓XC,X1,seval,X2,bL,dY,cU,dq,dV,bX,XM];try simp only[cY,bB,aC,aK,aL,aX]
    exact Wf (by simp only[↓XC,X1,seval];try simp[Yf,d])
   obtain⟨h,y⟩:∃h,h=cL s (atR g (g.pos+1)):=⟨_,rfl⟩
   have D:=aW (by simpa only[bD]using R);rw[Qt,aB D,VB,<-y]at u;refine Wm (Mw s (atR g (g.pos+1)) fr la ⟨j,d,G⟩) ?_;simp only[↓XC,X1,seval,dB,bL,dY,cU,dq,dV,jE,XR,qF,er,bB,cY,bX,XM];rw[<-y];refine⟨fun X=>?_,fun X=>?_⟩
   ·have l:¬h.cd=0:=by simpa using X
    rw[u,aB l,aI l];exact Wf
   have l:h.cd=0:=by simpa using X
   obtain⟨o,N⟩:=gm (s:=s) (r:=atR g (g.pos+1)) (by rw[<-y];exact l);rw[<-y]at o;have A:Ok s h:=by rw[y];exact(w.at (q:=g.pos+1) (by omega) G).gN (by rw[<-y];exact l)
   have T:h.dp=r.dp:=by rw[o];exact S
   have U:h.pos<s.length:=by rw[o];exact N
   have ab:=A.size j;rw[aA (by simpa using l)]at u;rw[<-cW U,<-Bool.decide_or];refine⟨by decide +kernel,CO fun _=>⟨fun Q=>?_,fun Q=>?_⟩⟩
   ·rw[u,aB (aW Q)];refine Wb (r5 s h fr la 1 [] false [] [] 0 0 ⟨by omega,A.dn,A.bs⟩) ?_;simp only[↓XC,X1,seval,X2,bL,dY,cU,dq,dV,bX,XM];try simp only[cY,bB,aC,aK,aL,aX]
    exact Wf (by simp only[↓XC,X1,seval];try simp[Yf,l])
   rw[u,aA (bE Q)];have hN:=HS h A T;unfold mg iF at hN;refine Wb (hN) ?_;simp only[↓XC,X1,seval,X2,bL,dY,cU,dq,dV,bX,XM];exact Wf
  simp only[aI d];simp only[↓X9,X0,seval,X2,bL,dY,cU,dq,dV,bX];rw[u,aB d,aI d];exact Wf
 simp only[aI k];simp only[↓X9,X0,seval,X2,bL,dY,cU,dq,dV,bX];rw[u,aB k,aI k];exact Wf
end Go.T
end
section
namespace Go.T
variable[Go.Vg.df][Go.Vg.cS 0 1]
open Go.Proofs Go.Vg Go.RowKit Go.TT Go.Pl
set_option maxRecDepth 10000
set_option maxHeartbeats 4000000
theorem SJ(s:Bs)(fr:Bool)(la:Int)(b:s.length<=1048576):∀(d:Nat) (r:Rd),Ok s r->r.dp+d=40->mg Tryz.prog 356 s fr la [] r (sW s d r):=by
 intro d
 induction d with
 |zero=>
  intro r l hd;refine Df s r fr la id (fun c e an tg pf g a j=>?_) ⟨b,l⟩;refine sB s c fr la id e an tg pf g (fun f=>?_) (fun f=>?_) ⟨b,a⟩
  ·exact sC s c fr la id e an tg pf g (fun h=>by omega) ⟨b,a,cE f (by decide)⟩
  ·exact vu s c fr la (n1 s id) e an tg pf g (fun h=>by omega) ⟨b,a,cE f (by decide)⟩
 |succ d n=>
  intro r l hd;have hit:kw s (r.dp+1) (sW s d):=fun c a j o=>n0 d c a (by omega) o;refine Df s r fr la (sW s d) (fun c e an tg pf g a j=>?_) ⟨b,l⟩;refine sB s c fr la (sW s d) e an tg pf g (fun f=>?_) (fun f=>?_) ⟨b,a⟩
  ·exact sC s c fr la (sW s d) e an tg pf g (fun h=>by rw[j];exact⟨hit,fun k i m=>n k i (by omega)⟩) ⟨b,a,cE f (by decide)⟩
  exact vu s c fr la (n1 s (sW s d)) e an tg pf g (fun h=>by rw[j];exact⟨fun k i m p=>pR i (by rw[m];exact hit) p,fun k i m=>Dg s k fr la (sW s d) (fun q m1 m2=>n q m1 (by omega)) ⟨b,i⟩⟩) ⟨b,a,cE f (by decide)⟩
theorem BC(s:Bs)(p:Int)(hp:s.length<=1048576):gQ Tryz.prog 69 0 [.s s,.i .i64 p] [] (fun z c=>z=.ptr 0 0 0/\c=(iF s ((oS (spot s p))) false 0)):=by refine gQ.Xt (cf:=mr Tryz.prog te [(100,pi)] 12 0 false (fun _=>false) (kp [(0,[0,1]),(1,[4])]) [] []) (yB te_ok (l:=[(100,pi)]) (⟨eh,trivial⟩) uX) Tryz.func69 rfl rfl rfl (by simp[mr]) (by simp[mr]) (rs:=[.tmp 4]) rfl 100000 ?_;simp only[↓XC,X1,seval,X2,eg];exact⟨_,cG.nl (env':=[(4,.ptr 1 0 0)]) (d:=[some (.jY []),some (.gA false [.s s,.i .i64 (spot s p:Nat),.ew 2 0 0,.ew 3 0 0,.mp 0,.ew 4 0 0,.i .i64 0,.i .i64 0,.i .i64 0,.b false,.i .i64 0])]) [(8,bT jO ec []),(1,bT mL false []),(2,bT kl lO [])] (by simp[Od,E3,Vg.look]) (by simp[L7,MI,L8,E3]),⟨[1,2,3,0,4],by decide,by simp only[Yd];exact⟨aM (by simp[Yf,oS]),aF fun _=>rfl,aF fun _=>rfl,cB,aF fun _=>rfl⟩,by simp only[↓XC,X1,seval];try first|rfl|simp[Yf],by simp[da,SO.ro,YC],by simp⟩⟩
end Go.T
end
section
namespace Go.T
variable[Go.Vg.df]
open Go.Proofs Go.Vg Go.RowKit Go.TT Go.Pl
set_option maxRecDepth 10000
set_option maxHeartbeats 4000000
theorem uu(s:Bs)(p:Int)(hp:s.length<=1048576):gQ Tryz.prog 249 0 [.s s,.i .i64 p] [] (fun z c=>z=.fJ [.ew 0 0 (kN s (en s (spot s p)) (spot s p)).length,.i .i64 (en s (spot s p):Nat)]/\c=[some (.row false 1 (kN s (en s (spot s p)) (spot s p)).length (bT ij [] (kN s (en s (spot s p)) (spot s p))))]):=by
 refine HE (eh.c (jQ.c (gI.c iO.d))) 45 [[0,1],[0,1],[0,1,6],[0,1,6,7],[0,1,6,7],[0,1,6,7,27],[4,5],[0,1,6,7,8],[0,1,6,7,8,34],[0,1,6,7,8],[0,6,7,8],[0,1,6,7]] Tryz.func249 [.tmp 4,.tmp 5] ?_;simp only[↓XC,X1,seval,dB,eg,gj,dK,dq];refine bH.mk hp fun _=>?_;rw[bQ s (dW s p)];have g:=dW s p;generalize spot s p=i0 at *;have he:=jF s i0 g;refine cF.of (ι:={x:Nat×List Bs // i0<=x.1/\x.1<=s.length/\x.2.length<=x.1/\x.2++kN s (en s i0) x.1=kN s (en s i0) i0}) (fun x=>⟨[(0,.s s),(1,.i .i64 (x.1.1:Nat)),(6,.i .i64 (en s i0:Nat)),(7,.ew 0 0 x.1.2.length)],[some (.row false 1 x.1.2.length (bT ij [] x.1.2))]⟩) (fun x=>s.length-x.1.1) ⟨(i0,[]),aN _,g,bF _,rfl⟩ (cG.cT [0] (by decide) (by simp only[Yd];exact bM fun i u=>by simp at u) (by simp[bC,Vg.look,SV.bP,dX])) ?_;rintro⟨⟨q0,out⟩,o,n,m,hd⟩;simp only[↓XC,X1,seval,dB,dK,dq];simp only at o n m hd;rw[bQ s n];have w:=gY s q0;have r:=gO s q0 n;have b:kN s (en s i0) q0=if wh s q0<en s i0/\bW s (wh s q0)≠35/\gN s (wh s q0)=false then sub s (wh s q0) (gp s (wh s q0))::kN s (en s i0) (gp s (wh s q0))else[]:=by rw[kN];simp only[dite_eq_ite]
 refine bH.mk hp fun _=>bH.mk (fun h=>?_) fun _=>⟨fun h=>?_,fun h=>?_⟩
 ·simp only[Yi]at h;omega
 ·have A:kN s (en s i0) q0=[]:=by rw[b,aA];rintro⟨t,j,_⟩;rw[cW (by omega)]at j;simp only[Yi]at h;omega
  rw[A,dw]at hd;subst hd;exact⟨[0],by decide,by simp only[Yd];exact aF fun _=>rfl,by simp only[↓XC,X1,seval];try simp[Yf],by simp[da,SO.ro,YC],by simp⟩
 have f:wh s q0<en s i0/\bW s (wh s q0)≠35:=by simp only[Yi]at h;exact⟨by omega,by rw[cW (by omega)];omega⟩
 have l:gN s (wh s q0)=false:=by unfold gN;rw[Jc,Nq (by omega) f.1];rfl
 rw[aB ⟨f.1,f.2,l⟩]at b;refine cF.of (ι:={x:Nat // wh s q0<=x/\x<=s.length/\gp s x=gp s (wh s q0)}) (fun x=>⟨[(0,.s s),(1,.i .i64 (wh s q0:Nat)),(6,.i .i64 (en s i0:Nat)),(7,.ew 0 0 out.length),(8,.i .i64 (x.1:Nat))],[some (.row false 1 out.length (bT ij [] out))]⟩) (fun x=>s.length-x.1) ⟨wh s q0,aN _,r,rfl⟩ (cG.refl _ _) ?_;rintro⟨q,t,j,k⟩;simp only[↓XC,X1,seval,dB,dq];refine bH.mk ⟨hp,by omega⟩ fun _=>⟨fun d=>CR fun _=>?_,fun d=>CO fun _=>⟨dz rfl rfl,CO fun _=>?_⟩⟩
 ·have a:gN s q=false:=by simpa using d
  have:=gD a;exact⟨⟨q+1,by omega,by omega,by rw[<-QU a];exact k⟩,by simp only;omega,(by first|exact cG.refl _ _|(simp only[aP,aQ];exact cG.refl _ _))⟩
 have a:gN s q=true:=by simpa using d
 rw[VY a]at k;have v:wh s q0≠q:=by intro e;rw[e]at l;rw[l]at a;cases a
 refine⟨⟨(q,out++[sub s (wh s q0) q]),by simp only;omega,j,by simp only[aC,aH];omega, ?_⟩,by simp only;omega,(cG.cT [2] (by decide) (by simp only[Yd];exact fY (y:=sub s (wh s q0) q) (fun _=>rfl) rfl (fun _ _=>rfl) rfl) (by simp[bC,Vg.look,SV.bP,dX]))⟩;simp only;rw[bS,<-hd,b,<-k];rfl
noncomputable def lD:=gC fun((s,p):Bs×Int)=>([.s s,.i .i64 p],s.length<=1048576,.fJ [.fs 1 ((kN s (en s (spot s p)) (spot s p)).map ij),.i .i64 (en s (spot s p):Nat)])
theorem dd{s:Bs}{p:Int}:lD [.s s,.i .i64 p]=some (ptr lD rfl (s,p)):=iZ
theorem sJ:fO Tryz.prog 249 lD:=gJ fun(s,p) hp=>PF.xP (uu s p hp) rfl rfl (by simp only[jf,iJ,jX,iT,du,dD];exact⟨⟨by omega,fun j a=>⟨rfl,rfl⟩⟩,by rw[et rfl]⟩)
theorem uv(s:Bs)(p:Int)(hp:s.length<=1048576):gQ Tryz.prog 224 0 [.s s,.i .i64 p] [] (fun z c=>z=.fJ [.ew 0 0 (kN s (en s (spot s p)) (spot s p)).length,.i .i64 (en s (spot s p):Nat)]/\c=[some (.row false 1 (kN s (en s (spot s p)) (spot s p)).length (bT ij [] (kN s (en s (spot s p)) (spot s p))))]):=by
 refine HE (eD.c (iM.c (fN.c iN.d))) 45 [[0,1],[0,1],[0,1,6],[0,1,6,7],[0,1,6,7],[0,1,6,7,27],[4,5],[0,1,6,7,8],[0,1,6,7,8,34],[0,1,6,7,8],[0,6,7,8],[0,1,6,7]] Tryz.func224 [.tmp 4,.tmp 5] ?_;simp only[↓XC,X1,seval,dB,eB,fi,cO,dT];refine bH.mk hp fun _=>?_;rw[bQ s (dW s p)];have g:=dW s p;generalize spot s p=i0 at *;have he:=jF s i0 g;refine cF.of (ι:={x:Nat×List Bs // i0<=x.1/\x.1<=s.length/\x.2.length<=x.1/\x.2++kN s (en s i0) x.1=kN s (en s i0) i0}) (fun x=>⟨[(0,.s s),(1,.i .i64 (x.1.1:Nat)),(6,.i .i64 (en s i0:Nat)),(7,.ew 0 0 x.1.2.length)],[some (.row false 1 x.1.2.length (bT ij [] x.1.2))]⟩) (fun x=>s.length-x.1.1) ⟨(i0,[]),aN _,g,bF _,rfl⟩ (cG.cT [0] (by decide) (by simp only[Yd];exact bM fun i u=>by simp at u) (by simp[bC,Vg.look,SV.bP,dX])) ?_;rintro⟨⟨q0,out⟩,o,n,m,hd⟩;simp only[↓XC,X1,seval,dB,cO,dT];simp only at o n m hd;rw[bQ s n];have w:=gY s q0;have r:=gO s q0 n;have b:kN s (en s i0) q0=if wh s q0<en s i0/\bW s (wh s q0)≠35/\gN s (wh s q0)=false then sub s (wh s q0) (gp s (wh s q0))::kN s (en s i0) (gp s (wh s q0))else[]:=by rw[kN];simp only[dite_eq_ite]
 refine bH.mk hp fun _=>bH.mk (fun h=>?_) fun _=>⟨fun h=>?_,fun h=>?_⟩
 ·simp only[Yi]at h;omega
 ·have A:kN s (en s i0) q0=[]:=by rw[b,aA];rintro⟨t,j,_⟩;rw[cW (by omega)]at j;simp only[Yi]at h;omega
  rw[A,dw]at hd;subst hd;exact⟨[0],by decide,by simp only[Yd];exact aF fun _=>rfl,by simp only[↓XC,X1,seval];try simp[Yf],by simp[da,SO.ro,YC],by simp⟩
 have f:wh s q0<en s i0/\bW s (wh s q0)≠35:=by simp only[Yi]at h;exact⟨by omega,by rw[cW (by omega)];omega⟩
 have l:gN s (wh s q0)=false:=by unfold gN;rw[Jc,Nq (by omega) f.1];rfl
 rw[aB ⟨f.1,f.2,l⟩]at b;refine cF.of (ι:={x:Nat // wh s q0<=x/\x<=s.length/\gp s x=gp s (wh s q0)}) (fun x=>⟨[(0,.s s),(1,.i .i64 (wh s q0:Nat)),(6,.i .i64 (en s i0:Nat)),(7,.ew 0 0 out.length),(8,.i .i64 (x.1:Nat))],[some (.row false 1 out.length (bT ij [] out))]⟩) (fun x=>s.length-x.1) ⟨wh s q0,aN _,r,rfl⟩ (cG.refl _ _) ?_;rintro⟨q,t,j,k⟩;simp only[↓XC,X1,seval,dB,dT];refine bH.mk ⟨hp,by omega⟩ fun _=>⟨fun d=>CR fun _=>?_,fun d=>CO fun _=>⟨dz rfl rfl,CO fun _=>?_⟩⟩
 ·have a:gN s q=false:=by simpa using d
  have:=gD a;exact⟨⟨q+1,by omega,by omega,by rw[<-QU a];exact k⟩,by simp only;omega,(by first|exact cG.refl _ _|(simp only[aP,aQ];exact cG.refl _ _))⟩
 have a:gN s q=true:=by simpa using d
 rw[VY a]at k;have v:wh s q0≠q:=by intro e;rw[e]at l;rw[l]at a;cases a
 refine⟨⟨(q,out++[sub s (wh s q0) q]),by simp only;omega,j,by simp only[aC,aH];omega, ?_⟩,by simp only;omega,(cG.cT [2] (by decide) (by simp only[Yd];exact fY (y:=sub s (wh s q0) q) (fun _=>rfl) rfl (fun _ _=>rfl) rfl) (by simp[bC,Vg.look,SV.bP,dX]))⟩;simp only;rw[bS,<-hd,b,<-k];rfl
noncomputable def lE:=gC fun((s,p):Bs×Int)=>([.s s,.i .i64 p],s.length<=1048576,.fJ [.fs 1 ((kN s (en s (spot s p)) (spot s p)).map ij),.i .i64 (en s (spot s p):Nat)])
theorem sK{s:Bs}{p:Int}:lE [.s s,.i .i64 p]=some (ptr lE rfl (s,p)):=iZ
theorem sL:fO Tryz.prog 224 lE:=gJ fun(s,p) hp=>PF.xP (uv s p hp) rfl rfl (by simp only[jf,iJ,jX,iT,du,dD];exact⟨⟨by omega,fun j a=>⟨rfl,rfl⟩⟩,by rw[et rfl]⟩)
end Go.T
end
section
namespace Go.T
variable[Go.Vg.df][Go.Vg.cS 0 1]
open Go.Proofs Go.Vg Go.RowKit Go.TT Go.Pl Go.TSh
set_option maxRecDepth 10000
set_option maxHeartbeats 4000000
noncomputable def wN:=gC fun((s,p):Bs×Int)=>([.s s,.i .i64 p],s.length<=1048576/\0<=p/\p<=s.length,.fJ [.i .i64 (kA s p.toNat).1,.b (kA s p.toNat).2])
theorem Ek{s:Bs}{p:Int}:wN [.s s,.i .i64 p]=some (ptr wN rfl (s,p)):=iZ
theorem El:fO Tryz.prog 105 wN:=gJ fun(s,p) hp=>by
 dsimp only at *;refine HP (dv.c (nj.c (kr.c (pc.c (o5.c (IE.c (iY.c lI.d))))))) 70 [[0,1],[0,1,6],[0,1,6,17],[8,9],[4,5],[0,1,6,29],[0,1,6,11,12],[0,1,11,12,40],[0,1,11,12],[4,5],[0,1,59],[1,13],[4,5],[4,5]] Tryz.func105 [.tmp 4,.tmp 5] ?_;simp only[↓XC,X1,seval,dB,bL,ni,dY,pb,o4,ID,cU,iQ];obtain⟨q,rfl⟩:∃q:Nat,p=q:=⟨p.toNat,by omega⟩
 have j:q<=s.length:=by omega
 have f:=xa j;have k:=vN j;have c:=hp.1;rw[bQ s j,Int.toNat_natCast];have hm:∀e:Nat,q<=e->e<=s.length->decide ((10:UInt8)∈List.drop q (List.take e s))=!Iz s q e:=fun e l f=>Rc l f;refine bH.mk c fun _=>⟨fun b=>bH.mk c fun _=>?_,fun b=>⟨fun g=>bH.mk c fun _=>⟨fun d=>bH.mk c fun _=>bH.mk (fun h=>by omega) fun _=>?_,fun d=>bH.mk (fun h=>by omega) fun _=>?_⟩,fun g=>bH.mk c fun _=>⟨fun i=>bH.mk c fun _=>?_,fun i=>?_⟩⟩⟩
 ·unfold kA;rw[aB b]
 ·unfold kA;rw[aA b,aA (by omega),aB d,hm _ k.1 k.2.1,Bool.not_not]
 ·have a:bW s q=39:=by simpa[d]using g
  unfold kA;rw[aA b,aB a,hm _ f.1 f.2.1,Bool.not_not]
 ·have a:¬bW s q=39/\¬bW s q=34:=by simpa using g
  unfold kA;rw[aA b,aA a.1,aA a.2,aB i];simp only[fg,dF]
 have a:¬bW s q=39/\¬bW s q=34:=by simpa using g
 unfold kA;rw[aA b,aA a.1,aA a.2,aA (by rw[i];simp)]
noncomputable def tI:=gC fun((s,p):Bs×Int)=>([.s s,.i .i64 p],s.length<=1048576,.fJ [.i .i64 (jg s (spot s p)).1,.i .i64 (jg s (spot s p)).2.1,.b (jg s (spot s p)).2.2])
theorem fI{s:Bs}{p:Int}:tI [.s s,.i .i64 p]=some (ptr tI rfl (s,p)):=iZ
theorem ot:fO Tryz.prog 32 tI:=gJ fun(s,p) hp=>by
 dsimp only at *;refine HP (eh.c (El.c (gI.c (dv.c iO.d)))) 43 [[0,1],[0,1],[0,1,7,8],[0,7,26],[4,5,6],[0,7,9],[7,9,40],[4,5,6],[4,5,6]] Tryz.func32 [.tmp 4,.tmp 5,.tmp 6] ?_;simp only[↓XC,X1,seval,dB,eg,Ek,dK,bL,dq];have k:=dW s p;generalize spot s p=q at *;have l:=vY k;obtain⟨e,he⟩:∃e:Nat,(kA s q).1=e:=⟨(kA s q).1.toNat,by omega⟩
 rw[he]at l |-
 have a:e<=s.length:=by omega
 rw[bQ s a];have g:=gO s e a;rw[bQ s g];have j:((wh s e:Nat)+1:Int).toNat=wh s e+1:=by omega
 rw[j];have f:(kA s q).1.toNat=e:=by omega
 refine bH.mk ⟨hp,by omega,by omega⟩ fun _=>bH.mk (fun _=>by simp only[iU];omega) fun _=>⟨fun h=>?_,fun h=>bH.mk hp fun _=>bH.mk hp fun _=>bH.mk (fun _=>by simp only[iU];omega) fun _=>bH.mk (fun h=>⟨⟨h,h⟩,hp,by omega⟩) fun _=>⟨fun d=>?_,fun d=>?_⟩⟩
 ·rw[F2];rintro⟨b,c,_⟩;rw[he]at c;rw[b,aI (by omega)]at h;cases h
 ·rw[F2];rintro⟨_,_,b,c⟩;rw[f]at b c;rw[b,c]at d;simp at d
 have m:(kA s q).2=true/\¬(e:Int)-q>1000:=by simpa using h
 have i:bW s (wh s e)=58/\gN s (wh s e+1)=true:=by simpa using d
 rw[NS ⟨m.1,by rw[he];omega,by rw[f];exact i.1,by rw[f];exact i.2⟩,he,Int.toNat_natCast]
noncomputable def pV:=gC fun((s,p,e):Bs×Int×Int)=>([.s s,.i .i64 p,.i .i64 e],s.length<=1048576,.b (decide (e<=en s (spot s p))))
theorem mc{s:Bs}{p e:Int}:pV [.s s,.i .i64 p,.i .i64 e]=some (ptr pV rfl (s,p,e)):=iZ
theorem yg:fO Tryz.prog 292 pV:=gJ fun(s,p,e) hp=>by dsimp only at *;refine HP iM.d 12 [[0,1,2],[6]] Tryz.func292 [.tmp 6] ?_;simp only[↓XC,X1,seval,dB,fi];exact bH.mk hp fun _=>trivial
noncomputable def tJ:=gC fun((s,p):Bs×Int)=>([.s s,.i .i64 p],s.length<=1048576,.fJ [.i .i64 (jg s (spot s p)).1,.i .i64 (jg s (spot s p)).2.1,.b (jg s (spot s p)).2.2])
theorem jR{s:Bs}{p:Int}:tJ [.s s,.i .i64 p]=some (ptr tJ rfl (s,p)):=iZ
theorem ov:fO Tryz.prog 258 tJ:=gJ fun(s,p) hp=>by
 dsimp only at *;refine HF (eD.c (nk.c (pd.c (yg.c (o6.c (kE.c (pa.c (fN.c iN.d)))))))) 122 [[0,1],[0,1],[0,1,24],[4,5,6],[0,1,7],[0,1,7,26],[0,1,7,9,10],[0,1,7,9,38],[0,1,7],[0,1,7,40],[0,1,7,12,13],[0,1,7,12,59],[0,1,7],[0,1,7,61],[0,1,7,15,16],[0,1,7,15,80],[0,1,7],[0,1,7,82],[0,1,7],[0,1,7,17],[7,17,119],[4,5,6],[4,5,6]] Tryz.func258 [.tmp 4,.tmp 5,.tmp 6] (fun _=>false) [19] [] ?_;simp only[↓XC,X1,seval,dB,eB,fG,kf,mc,jA,ig,iR,cO,dT,bX];have w:=dW s p;have A:=vY w;have u:=bQ s w;generalize spot s p=q at *;refine⟨fun h=>?_,fun h=>kT.of (ι:=Unit) (fun _=>⟨[(0,.s s),(1,.i .i64 (q:Nat)),(7,.i .i64 (if(kA s q).2=true then(kA s q).1 else(q:Int)))],[]⟩) ?_ (fun _=>?_)⟩
 ·rw[F2];have k:s.length<=q:=by omega
  rintro⟨m,_⟩;unfold kA at m;rw[eZ k,aA (by omega),aA (by omega),aA (by omega),aA (by rw[Ex (QT k)];simp)]at m;cases m
 ·have k:q<s.length:=by omega
  have o:=cW k;simp only[↓XC,X1,seval,dB,fG,kf,jA,ig,iR,mc,cO,dT,bX];rw[u,<-o];refine CO fun _=>⟨fun a=>bH.mk hp fun _=>?_,fun a=>CO fun _=>⟨fun b=>bH.mk hp fun _=>bH.mk (fun h=>⟨⟨h,h,h⟩,hp⟩) fun _=>?_,fun b=>CO fun _=>⟨fun c=>bH.mk hp fun _=>bH.mk (fun h=>⟨⟨h,h,h⟩,hp⟩) fun _=>?_,fun c=>bH.mk hp fun _=>⟨fun t=>bH.mk hp fun _=>?_,fun t=>?_⟩⟩⟩⟩
  ·have d:(if(kA s q).2=true then(kA s q).1 else(q:Int))=if(jm s q).2.2=true then(jm s q).2.1 else(q:Int):=by unfold kA;rw[aB a]
   rw[d];refine⟨fun h=>?_,fun h=>?_⟩
   ·rw[aB h];exact⟨(),(by(try simp only[aP,aQ]);exact cG.nil (by simp[bC,Vg.look,SV.bP]))⟩
   rw[aA (by rw[h];simp)];exact⟨(),(by(try simp only[aP,aQ]);exact cG.nil (by simp[bC,Vg.look,SV.bP]))⟩
  ·have d:(if(kA s q).2=true then(kA s q).1 else(q:Int))=if(decide ((ny s q).2.2=0)&&decide (((ny s q).2.1:Int)<=(en s q:Int)))=true then((ny s q).2.1:Int)else(q:Int):=by unfold kA Iz;rw[aA a,aB b];simp only[fB]
   rw[d];refine⟨fun h=>?_,fun h=>?_⟩
   ·rw[aB h];exact⟨(),(by(try simp only[aP,aQ]);exact cG.nil (by simp[bC,Vg.look,SV.bP]))⟩
   rw[aA (by rw[h];simp)];exact⟨(),(by(try simp only[aP,aQ]);exact cG.nil (by simp[bC,Vg.look,SV.bP]))⟩
  ·have d:(if(kA s q).2=true then(kA s q).1 else(q:Int))=if(decide ((nC s q).2.2=0)&&decide (((nC s q).2.1:Int)<=(en s q:Int)))=true then((nC s q).2.1:Int)else(q:Int):=by unfold kA Iz;rw[aA a,aA b,aB c];simp only[fB]
   rw[d];refine⟨fun h=>?_,fun h=>?_⟩
   ·rw[aB h];exact⟨(),(by(try simp only[aP,aQ]);exact cG.nil (by simp[bC,Vg.look,SV.bP]))⟩
   rw[aA (by rw[h];simp)];exact⟨(),(by(try simp only[aP,aQ]);exact cG.nil (by simp[bC,Vg.look,SV.bP]))⟩
  ·have d:(if(kA s q).2=true then(kA s q).1 else(q:Int))=(kj s q false:Int):=by have D:=Ey s q false;unfold kA;rw[aA a,aA b,aA c,aB t];simp only[aE];split<;>omega
   rw[d];exact⟨(),(by(try simp only[aP,aQ]);exact cG.nil (by simp[bC,Vg.look,SV.bP]))⟩
  have d:(if(kA s q).2=true then(kA s q).1 else(q:Int))=(q:Int):=by unfold kA;rw[aA a,aA b,aA c,aA (by rw[t];simp)];try rfl
  rw[d];exact⟨(),(by(try simp only[aP,aQ]);exact cG.nil (by simp[bC,Vg.look,SV.bP]))⟩
 have k:q<s.length:=by omega
 simp only[↓XC,X1,seval,dB,fG,kf,jA,ig,iR,mc,cO,dT,bX];obtain⟨e,he⟩:∃e:Nat,(if(kA s q).2=true then(kA s q).1 else(q:Int))=e:=⟨(if(kA s q).2=true then(kA s q).1 else(q:Int)).toNat,by split<;>omega⟩
 have i:e<=s.length:=by split at he<;>omega
 have r:(decide ((e:Int)=(q:Int)))=!(kA s q).2:=by
  cases j:(kA s q).2
  ·rw[j]at he;simp at he;simp[he]
  rw[j]at he;simp at he;have:=A.2.2 j;simp;omega
 have x:(kA s q).2=true->(kA s q).1=e:=fun j=>by rw[aB j]at he;exact he
 rw[he,bQ s i];have B:=gO s e i;have z:((wh s e:Nat)+1:Int).toNat=wh s e+1:=by omega
 rw[z,r];refine bH.mk hp fun _=>bH.mk (fun _=>by simp only[iU];omega) fun _=>bH.mk (fun h=>by simp only[Yi]at h;omega) fun _=>bH.mk (fun _=>by simp only[iU];omega) fun _=>bH.mk (fun h=>⟨⟨h,h⟩,hp,by omega⟩) fun _=>⟨fun h=>?_,fun h=>?_⟩
 ·rw[F2];rintro⟨y,C,l,v⟩;have g:=x y;rw[g]at C l v;rw[Int.toNat_natCast]at l v;have f:wh s e<s.length:=by
   rcases aU (wh s e) s.length with n|n
   ·exact n
   rw[eZ n]at l;omega
  rw[cW f]at l;rw[y,l,v,aI (show ¬((e:Int)-q>1000) by omega),aI (show ¬((wh s e:Int)>=s.length) by omega)]at h;simp at h
 simp only[Yi]at h;have g:=x (by have:=h.1.1.1.1;simpa using this);have f:wh s e<s.length:=by omega
 rw[NS ⟨by have:=h.1.1.1.1;simpa using this,by rw[g];omega,by rw[g,Int.toNat_natCast,cW f];exact h.1.2,by rw[g,Int.toNat_natCast];exact h.2⟩,g,Int.toNat_natCast]
end Go.T
end
section
namespace Go.T
variable[Go.Vg.df][Go.Vg.cS 0 1]
open Go.Proofs Go.Vg Go.RowKit Go.TT Go.Pl
set_option maxRecDepth 10000
set_option maxHeartbeats 4000000
noncomputable def wz:=gC fun((s,p):Bs×Int)=>([.s s,.i .i64 p],s.length<=1048576,.fJ [.i .i64 ((iA s (spot s p)).1:Nat),.b (iA s (spot s p)).2])
theorem fb{s:Bs}{p:Int}:wz [.s s,.i .i64 p]=some (ptr wz rfl (s,p)):=iZ
theorem kd:fO Tryz.prog 210 wz:=gJ fun(s,p) hp=>by
 dsimp only at *;refine HP (eh.c (gI.c (dv.c (lS.c (iW.c jQ.d))))) 39 [[0,1],[0,1],[0,1,6],[0,1,6,7],[0,6,34],[4,5],[4,5]] Tryz.func210 [.tmp 4,.tmp 5] ?_;simp only[↓XC,X1,seval,dB,eg,dK,bL,ko,iw,gj];have a:=dW s p;generalize spot s p=q at *;have hw:=gO s q a;simp only[bQ s a,bQ s hw];have hC:(bW s (wh s q)==10||decide (bW s (wh s q)<0)||decide (bW s (wh s q)=35)&&(!decide ((wh s q:Int)=q)||decide ((la s q:Int)=q)))=decide (kH s (wh s q)=true\/(bW s (wh s q)=35/\(wh s q≠q\/la s q=q))):=by rw[bO];simp only[kH,aV,aD,aE,aR,aO,Int.natCast_inj,ne_eq]
 rw[hC];refine bH.mk hp fun _=>bH.mk hp fun _=>bH.mk (fun h=>⟨⟨h,h⟩,hp⟩) fun _=>⟨fun h=>bH.mk hp fun _=>?_,fun h=>?_⟩
 ·unfold iA;rw[aB (aW h)]
 unfold iA;rw[aA (bE h)]
noncomputable def z8:=gC fun((s,p):Bs×Int)=>([.s s,.i .i64 p],s.length<=1048576,.i .i64 (gL s (spot s p):Nat))
theorem iv{s:Bs}{p:Int}:z8 [.s s,.i .i64 p]=some (ptr z8 rfl (s,p)):=iZ
theorem nR:fO Tryz.prog 248 z8:=gJ fun(s,p) hp=>by dsimp only at *;refine HP (eh.c iW.d) 12 [[0,1],[4]] Tryz.func248 [.tmp 4] ?_;simp only[↓XC,X1,seval,dB,eg,iw];have b:=dW s p;have a:=nP s (spot s p);exact bH.mk hp fun _=>CR fun _=>by unfold gL;rw[Int.ofNat_sub a]
noncomputable def wI:=gC fun((s,p):Bs×Int)=>([.s s,.i .i64 p],s.length<=1048576/\0<=p/\p<=s.length,.b (mT s p.toNat))
theorem fw{s:Bs}{p:Int}:wI [.s s,.i .i64 p]=some (ptr wI rfl (s,p)):=iZ
theorem p4:fO Tryz.prog 281 wI:=gJ fun(s,p) hp=>by
 dsimp only at *;refine HP (dv.c iO.d) 15 [[0,1],[4]] Tryz.func281 [.tmp 4] ?_;simp only[↓XC,X1,seval,dB,bL,dq];have a:spot s p=p.toNat:=by unfold spot;omega
 have b:(p+1).toNat=p.toNat+1:=by omega
 rw[a,b];exact bH.mk hp.1 fun _=>bH.mk (fun _=>by simp only[iU];omega) fun _=>bH.mk (fun h=>⟨⟨h,h⟩,hp.1,by omega⟩) fun _=>rfl
noncomputable def rq:=gC fun((s,p):Bs×Int)=>([.s s,.i .i64 p],s.length<=1048576,.fJ [.i .i64 (jJ s (spot s p)).1,.i .i64 (jJ s (spot s p)).2.1,.i .i64 ((jJ s (spot s p)).2.2.1:Nat),.i .i64 (jJ s (spot s p)).2.2.2])
theorem Ae{s:Bs}{p:Int}:rq [.s s,.i .i64 p]=some (ptr rq rfl (s,p)):=iZ
theorem Af:fO Tryz.prog 344 rq:=gJ fun(s,p) hp=>by
 dsimp only at *;refine HP (eh.c (dv.c (iL.c kd.d))) 71 [[0,1],[0,1],[0,1,8],[0,1,26],[4,5,6,7],[0,1,9,10,11],[0,9,10,11,12],[0,8,9,10,11,12],[9,10,13,14],[9,10,13,40],[4,5,6,7],[4,5,6,7],[0,8,9,10,11,12,45],[0,9,10,11,12],[0,8,9,10,11,12,54],[0,8,9,11,12],[0,8,9,10,11,12],[0,9,10,11,12,68],[0,9,10,11,12],[0,9,10,11,12]] Tryz.func344 [.tmp 4,.tmp 5,.tmp 6,.tmp 7] ?_;simp only[↓XC,X1,seval,dB,eg,bL,gv,fb];have m:=dW s p;generalize spot s p=q0 at *;rw[bQ s m];refine bH.mk hp fun _=>⟨fun h=>?_,fun h=>CR fun _=>?_⟩
 ·unfold jJ;rw[aA (by simp at h;omega)]
 have k:bW s q0=124\/bW s q0=62:=by simp at h;omega
 have r:q0<s.length:=by
  rcases k with h|h
  ·exact cE h (by decide)
  exact cE h (by decide)
 unfold jJ;rw[aB k];refine cF.of (ι:={x:(Nat×Int)×Int×Bool // x.1.1<=s.length/\sm s x.1.1 x.1.2 x.2.1 x.2.2=sm s (q0+1) 0 0 false}) (fun x=>⟨[(0,.s s),(9,.i .i64 x.1.1.2),(10,.i .i64 x.1.2.1),(11,.i .i64 (if x.1.2.2=true then 1 else 0)),(12,.i .i64 (x.1.1.1:Nat))],[]⟩) (fun x=>s.length-x.1.1.1) ⟨((q0+1,0),0,false),by simp only;omega,rfl⟩ (cG.refl _ _) ?_;rintro⟨⟨⟨q,e⟩,ch,sg⟩,l,hw⟩;simp only[↓XC,X1,seval,dB,bL,gv,fb];simp only at l hw;rw[bQ s l];have n:(decide (49<=bW s q)&&decide (bW s q<=57)&&decide (e=0))=decide ((49<=bW s q/\bW s q<=57)/\e=0):=by rw[eH,eH]
 have o:((decide (bW s q=43)||decide (bW s q=45))&&decide ((if sg=true then(1:Int)else 0)=0))=decide ((bW s q=43\/bW s q=45)/\sg=false):=by rw[eH,Bool.decide_or];cases sg<;>rfl
 rw[n,o];refine bH.mk hp fun _=>⟨fun f=>bH.mk (by have:=mC s q;simp only[iU];omega) fun _=>CR fun _=>?_,fun f=>⟨fun g=>bH.mk (by simp only[iU];split<;>omega) fun _=>?_,fun g=>bH.mk hp fun _=>?_⟩⟩
 ·have a:=aW f;have i:q<s.length:=cE (b:=bW s q) rfl (by omega);exact⟨⟨((q+1,bW s q-48),ch,sg),by simp only;omega,by simp only;rw[<-Se a];exact hw⟩,by simp only;omega,(by first|exact cG.refl _ _|(simp only[aP,aQ];exact cG.refl _ _))⟩
 ·have a:=bE f;have c:=aW g;have i:q<s.length:=cE (b:=bW s q) rfl (by omega);have j:=c.2;subst j;refine⟨fun d=>CR fun _=>?_,fun d=>CR fun _=>?_⟩
  ·exact⟨⟨((q+1,e),1,true),by simp only;omega,by simp only;rw[<-hw,J0 a c,Vz,aB d]⟩,by simp only;omega,(by first|exact cG.refl _ _|(simp only[aP,aQ];exact cG.refl _ _))⟩
  exact⟨⟨((q+1,e),2,true),by simp only;omega,by simp only;rw[<-hw,J0 a c,Vz,aA d]⟩,by simp only;omega,(by first|exact cG.refl _ _|(simp only[aP,aQ];exact cG.refl _ _))⟩
 rw[<-hw,Sf (bE f) (bE g)];refine⟨fun d=>?_,fun d=>?_⟩
 ·rw[aA (by simpa using d)]
 rw[aB (by simpa using d)]
noncomputable def oA:=gC fun((s,e):Bs×Int)=>([.s s,.i .i64 e],s.length<=1048576/\0<=e/\e<=s.length,.i .i64 (gZ s e.toNat:Nat))
theorem iS{s:Bs}{e:Int}:oA [.s s,.i .i64 e]=some (ptr oA rfl (s,e)):=iZ
theorem pg:fO Tryz.prog 345 oA:=gJ fun(s,e) hp=>by dsimp only at *;refine HP pn 10 [[0,1],[4]] Tryz.func345 [.tmp 4] ?_;simp only[↓XC,X1,seval,dB];exact CR fun _=>by unfold gZ;congr 1;split<;>omega
noncomputable def oE:=gC fun((s,a,n):Bs×Int×Int)=>([.s s,.i .i64 a,.i .i64 n],s.length<=1048576/\0<=a/\a<=s.length,.fJ [.i .i64 ((um s a.toNat n).1:Nat),.i .i64 ((um s a.toNat n).2:Nat)])
theorem wR{s:Bs}{a n:Int}:oE [.s s,.i .i64 a,.i .i64 n]=some (ptr oE rfl (s,a,n)):=iZ
theorem wS:fO Tryz.prog 346 oE:=gJ fun(s,a,n) hp=>by
 dsimp only at *;refine HP (hJ.c (pT.c (lG.c (jQ.c pg.d)))) 38 [[0,1,2],[0,1,2,17],[0,1,2,21],[0,1,26],[6,7],[0,1,2],[6,7]] Tryz.func346 [.tmp 6,.tmp 7] ?_;simp only[↓XC,X1,seval,dB,bR,ji,gU,gj,iS];obtain⟨a,rfl⟩:∃k:Nat,a=k:=⟨a.toNat,by omega⟩
 rw[Int.toNat_natCast];refine cF.of (ι:={q:Nat // q<=s.length/\um s q n=um s a n}) (fun x=>⟨[(0,.s s),(1,.i .i64 (x.1:Nat)),(2,.i .i64 n)],[]⟩) (fun x=>s.length-x.1) ⟨a,by omega,rfl⟩ (cG.refl _ _) ?_;rintro⟨q,e,hw⟩;simp only[↓XC,X1,seval,dB,bR,ji,gU,gj,iS];rw[bQ s e];have g:=jZ s (en s q);have he:=jF s q e;have f:(decide ((q:Int)<(s.length:Nat))&&decide (ib s q=0))=decide (q<s.length/\ib s q=0):=by rw[eH,cZ.2 (dF)]
 rw[f];refine bH.mk (fun h=>⟨⟨h,h⟩,hp.1⟩) fun _=>⟨fun b=>bH.mk hp.1 fun _=>⟨fun c=>bH.mk hp.1 fun _=>⟨fun d=>bH.mk hp.1 fun _=>?_,fun d=>?_⟩,fun c=>bH.mk hp.1 fun _=>bH.mk ⟨hp.1,by omega,by omega⟩ fun _=>?_⟩,fun b=>?_⟩
 ·rw[<-hw,Km (aW b) (by simpa using c),aB d]
 ·rw[<-hw,Km (aW b) (by simpa using c),aA d];rfl
 ·have i:=lv (aW b).1;exact⟨⟨gZ s (en s q),g,by rw[<-zI (aW b) (by simpa using c)];exact hw⟩,by simp only;omega,cG.refl _ _⟩
 rw[<-hw,Kl (bE b)];rfl
end Go.T
end
