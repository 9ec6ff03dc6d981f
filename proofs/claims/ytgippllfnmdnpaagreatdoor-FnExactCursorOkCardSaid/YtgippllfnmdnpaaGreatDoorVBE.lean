/- Own text: part VBE. -/
import Derived.Test.YtgippllfnmdnpaaGreatDoorVBD
import Derived.Test.YtgippllfnmdnpaaGreatDoorVBC
set_option linter.all false
section
namespace Go.T
variable[Go.Vg.df][Go.Vg.cS 0 1]
open Go.Proofs Go.Vg Go.RowKit Go.TT Go.Pl
set_option maxRecDepth 10000
set_option maxHeartbeats 4000000
theorem AP(s:Bs)(x:Rb)(p:Int->Bool->Bool->Rb->Rb)(n:Int)(inl E:Bool)(HM:∀(oh:Bool) (oa og:Bs) (f:Int) (oe:Nat) (ha:Bool) (an tg:Bs) (H pe:Nat) (P:Rb),Ok s P.r->P.r.dp=x.r.dp->(jg s P.r.pos).2.2=true->H<=s.length->lU Tryz.prog 280 s [.agg [.b oh,.s oa,.s og,.i .i64 f,.i .i64 (oe:Nat)],.agg [.b ha,.s an,.s tg,.i .i64 (H:Nat),.i .i64 (pe:Nat)]] P (v7 s p (⟨oh,oa,og,oe⟩:Pp) (⟨ha,an,tg,pe⟩:Pp) H P))(HL:∀(oh:Bool) (oa og:Bs) (f:Int) (oe:Nat) (P:Rb),Ok s P.r->P.r.dp=x.r.dp->P.r.pos<s.length->lU Tryz.prog 282 s [.agg [.b oh,.s oa,.s og,.i .i64 f,.i .i64 (oe:Nat)]] P (xG s p (⟨oh,oa,og,oe⟩:Pp) P))(hp:s.length<=1048576/\Ok s x.r):gQ Tryz.prog 252 1 [.ptr 0 0 0,.i .i64 n,.b inl,.b E] (iF s ((x).r) (x).fr ((x).lt:Nat)) (fun z c=>z=.b (decide ((sj s p n inl E x).r.cd=0))/\c=(iF s (((sj s p n inl E x)).r) ((sj s p n inl E x)).fr (((sj s p n inl E x)).lt:Nat))):=by
 refine l5 (kd.c (ot.c (p4.c gI.d))) 154 [[0,1,2,3],[0,1,2,3,9,10],[0,1,2,3,9,25],[8],[0,1,2,3,9,11],[0,1,2,3,9,11,28],[0,1,2,3,9,11,12,13],[0,1,2,3,9,11,12,39],[0,1,3,9,11,12,44],[8],[0,1,9,11,12,57],[],[8],[0,1,2,9,11],[0,1,2,9,10,11],[0,1,2,9,11,69],[8],[0,1,2,9,11,16],[0,1,2,9,11,83],[8],[0,1,9,11,93],[8],[0,1,9,11,115],[0,9,18],[0,9,132],[8],[8],[0,1,9,11,146],[0,1,9],[8]] Tryz.func252 [.tmp 8] (fun _=>true) [17,29] [(6,[],[],.q1 0 (.q1 1 (.q1 2 (.q1 4 (.q0 3 [3] (.q0 5 [5] (.de 6 (.q1 7 (qd (.q1 10 (.q1 11 .fin)))) .fin))))))),(17,[],[],qa (.q0 3 [3] (.q0 7 [7] (.de 8 (qg .fin) .fin)))),(20,[],[],qe (.q0 4 [4] (.q1 5 (.q1 6 (.q1 7 (qd (.q1 10 (.q1 12 (.q1 13 (.q1 14 (.q0 11 [11] (.q0 15 [15] (.de 16 (.q1 17 (.q1 18 .fin)) .fin))))))))))))),(23,[],[],.q1 0 (.q1 1 (.q1 2 (.q1 4 (.q0 3 [3] (.q0 5 [5] (.de 6 (.q1 7 (qd (.q1 10 (.q1 11 .fin)))) .fin))))))),(25,[],[],qe (.q1 5 (.q0 4 [4,7,8,9] (.q0 6 [6,7,8,9] (.seq [7,8,9])))))] ?_;simp only[↓XC,X1,seval,X2,fb,fI,fw,dK,bX];obtain⟨F,W⟩:=hp;have I:=W.pos;have Z:=W.cd;refine Wm (AU s x.r x.fr (x.lt:Nat) false ⟨F,Z,I,W.hd,W.pf⟩) ?_;simp only[↓X9,X0,seval,X2,bX,bI,XM];obtain⟨q,Q⟩:∃q,q=iP s false x.r:=⟨_,rfl⟩
 obtain⟨a,m⟩:∃a,a=ia s false x.r:=⟨_,rfl⟩
 rw[<-Q,<-m];by_cases i:q.cd=0
 ·simp only[aJ i];simp only[↓X9,X0,seval,X2,bX,bI];obtain⟨qp,X,l9,ap,ak,Y⟩:=jr (fl:=false) I Z (show(iP s false x.r).cd=0 by rw[<-Q];exact i);rw[<-Q]at X;rw[<-m]at ak;have al:Ok s q:=by rw[X];exact W.at l9 ap
  have ae:q.dp=x.r.dp:=by rw[X];rfl
  have L:a.has=true->x.r.pos<a.en/\a.en<=s.length/\a.en<=qp:=fun h=>by
   have h1:=oI I Y (by rw[<-m];exact h);have h2:(lk s x.r.hd false x.r.pos (kF x.r.pos)).1=qp:=by have h3:=X;rw[Q]at h3;unfold iP at h3;rw[aB Y]at h3;exact cD Rd.pos h3
   rw[h2,<-m]at h1;exact h1
  refine kT.of (ι:={u:(Bool×Pp×Int)×Pp×Nat×Rd // (sj s p n inl E x)=qZ s p n u.1.1 u.1.2.1 u.2.1 u.2.2.1 (bI x u.2.2.2)/\Ok s u.2.2.2/\u.2.2.2.dp=x.r.dp/\u.2.2.1<=s.length/\(u.2.1.has=true->u.2.1.en<=s.length)}) (fun u=>⟨[(0,.ptr 0 0 0),(1,.i .i64 n),(2,.b u.1.1.1),(9,.ptr 5 0 0),(11,.ptr 6 0 0)],(Mt s (u.1.2.2.2) x.fr (x.lt:Nat) [some (.gA false [.b u.1.2.1.has,.s u.1.2.1.an,.s u.1.2.1.tg,.i .i64 (u.1.2.2.1:Nat),.i .i64 (u.1.2.1.en:Nat)]),some (.gA false [.b u.1.1.2.1.has,.s u.1.1.2.1.an,.s u.1.1.2.1.tg,.i .i64 u.1.1.2.2,.i .i64 (u.1.1.2.1.en:Nat)])])⟩) ?_ ?_
  ·simp only[↓X9,X0,seval,X2,fb,bX,bI];have hW:¬(a.has=true/\(iA s a.en).2=true)->(sj s p n inl E x)=qZ s p n inl (kF 0) a x.r.pos (bI x q):=fun h=>by unfold sj;rw[<-Q,<-m,aA (by simpa using i),aA h]
   have hP:¬(a.has=true/\(iA s a.en).2=true)->(sj s p n inl E x)=qZ s p n inl (kF 0) a x.r.pos (bI x q)/\Ok s q/\q.dp=x.r.dp/\x.r.pos<=s.length/\(a.has=true->a.en<=s.length):=fun h=>⟨hW h,al,ae,I,fun h=>(L h).2.1⟩
   refine⟨fun T=>?_,fun T=>?_⟩
   ·rw[bQ s (L T).2.1];refine⟨by decide +kernel,bH.mk F fun _=>⟨fun M=>?_,fun M=>?_⟩⟩
    ·have R:a.has=true/\(iA s a.en).2=true:=⟨T,M⟩
     refine Wm (GV s q x.fr (x.lt:Nat) a.en ⟨F,i,(L T).2.1⟩) ?_;simp only[↓X9,X0,seval,X2,bX,bI,XM];obtain⟨v,U⟩:∃v,v=jn s q a.en:=⟨_,rfl⟩
     rw[<-U];by_cases g:v.cd=0
     ·simp only[aJ g];simp only[↓X9,X0,seval,X2,bX,bI];have au:=fq s a.en;have ab:=ez s a.en (L T).2.1;have ag:v=atR q (dR s a.en):=by rw[U];exact jU (by rw[<-U];exact g)
      have o:Ok s v:=by rw[ag,X];exact W.at (q:=dR s a.en) (by have:=(L T).1;omega) ab
      have K:=o.pos;have ah:v.ev.length<=16777216:=cv (o.size F) (by decide);have ao:v.dp=x.r.dp:=by rw[ag];exact ae
      refine Wm (qc s v x.fr (x.lt:Nat) v.pos ⟨F,K⟩) ?_;simp only[↓X9,X0,seval,X2,bX,bI,XM];cases af:fV s v.pos
      ·simp only[↓X9,X0,seval,X2,bX,bI];refine Wm (K4 s v x.fr (x.lt:Nat) n E ⟨F,K⟩) ?_;simp only[↓X9,X0,seval,X2,bX,bI,XM];cases aa:Ib s v.pos n E
       ·simp only[↓X9,X0,seval,X2,bX,bI];refine Wb (r4 s v x.fr (x.lt:Nat) a.has a.an a.tg (x.r.pos:Nat) a.en (iA s a.en).1 ⟨ah,o.dn,o.bs⟩) ?_;simp only[↓X9,X0,seval,X2,bX,bI,XM];have e:(sj s p n inl E x)=qJ x v a (iA s a.en).1:=by unfold sj;rw[<-Q,<-m,aA (by simpa using i),aB R,<-U,aA (by simpa using g),aB (.inr aa)]
        rw[e];try simp only[qJ,BD,atR,cY,bB,aC,aK,aL,aX]
        exact Wf (by simp only[↓XC,X1,seval];try simp[Yf,bI,g])
       simp only[↓X9,X0,seval,X2,bX,bI];refine Wm (AU s v x.fr (x.lt:Nat) false ⟨F,g,K,o.hd,o.pf⟩) ?_;simp only[↓X9,X0,seval,X2,bX,bI,XM];obtain⟨q2,S⟩:∃q2,q2=iP s false v:=⟨_,rfl⟩
       obtain⟨O,J⟩:∃O,O=ia s false v:=⟨_,rfl⟩
       rw[<-S,<-J];have hU:(sj s p n inl E x)=if q2.cd≠0 then bI x q2 else qZ s p n false a O v.pos (bI x q2):=by unfold sj;rw[<-Q,<-m,aA (by simpa using i),aB R,<-U,aA (by simpa using g),aA (by rw[af,aa];simp),<-S,<-J]
       by_cases l:q2.cd=0
       ·simp only[aJ l];simp only[↓X9,X0,seval,X2,bX,bI];obtain⟨ax,f9,m9,m10,g11,g12⟩:=jr (fl:=false) K g (show(iP s false v).cd=0 by rw[<-S];exact l);rw[<-S]at f9;have ad:Ok s q2:=by rw[f9];exact o.at m9 m10
        refine⟨⟨((false,a,(x.r.pos:Nat)),O,v.pos,q2), ?_,ad, ?_,K,fun h=>?_⟩,(cG.cT [0,1,2,3,4,5,6] (by decide) (by simp only[Yd];exact⟨aM (by simp[Yf,Yh,bI]),aF fun _=>rfl,aF fun _=>rfl,cB,aF fun _=>rfl,aM (by simp[Yf]),aM (by simp[Yf])⟩) (by simp[bC,Vg.look,SV.bP,dX,bI]))⟩
        ·rw[hU,aA (by simpa using l)];rfl
        ·show q2.dp=_;rw[f9];exact ao
        show O.en<=s.length;rw[J];exact(oI K g12 (by rw[<-J];exact h)).2.1
       simp only[aI l];simp only[↓X9,X0,seval,X2,bX,bI];rw[hU,aB l];exact Wf (by simp only[↓XC,X1,seval];try simp[Yf,bI,l])
      simp only[↓X9,X0,seval,X2,bX,bI];refine Wb (r4 s v x.fr (x.lt:Nat) a.has a.an a.tg (x.r.pos:Nat) a.en (iA s a.en).1 ⟨ah,o.dn,o.bs⟩) ?_;simp only[↓X9,X0,seval,X2,bX,bI,XM];have e:(sj s p n inl E x)=qJ x v a (iA s a.en).1:=by unfold sj;rw[<-Q,<-m,aA (by simpa using i),aB R,<-U,aA (by simpa using g),aB (.inl af)]
      rw[e];try simp only[qJ,BD,atR,cY,bB,aC,aK,aL,aX]
      exact Wf (by simp only[↓XC,X1,seval];try simp[Yf,bI,g])
     simp only[aI g];simp only[↓X9,X0,seval,X2,bX,bI];have e:(sj s p n inl E x)=bI x v:=by unfold sj;rw[<-Q,<-m,aA (by simpa using i),aB R,<-U,aB g]
     rw[e];exact Wf (by simp only[↓XC,X1,seval];try simp[Yf,bI,g])
    exact⟨⟨((inl,(⟨false,[],[],0⟩:Pp),0),a,x.r.pos,q),hP (by rw[M];simp)⟩,(cG.cT [0,1,2,3,4,5,6] (by decide) (by simp only[Yd];exact⟨aM (by simp[Yf,Yh,bI,kF]),aF fun _=>rfl,aF fun _=>rfl,cB,aF fun _=>rfl,aM (by simp[Yf]),aM (by simp[Yf])⟩) (by simp[bC,Vg.look,SV.bP,dX,bI,kF]))⟩
   exact⟨⟨((inl,(⟨false,[],[],0⟩:Pp),0),a,x.r.pos,q),hP (by rw[T];simp)⟩,(cG.cT [0,1,2,3,4,5,6] (by decide) (by simp only[Yd];exact⟨aM (by simp[Yf,Yh,bI,kF]),aF fun _=>rfl,aF fun _=>rfl,cB,aF fun _=>rfl,aM (by simp[Yf]),aM (by simp[Yf])⟩) (by simp[bC,Vg.look,SV.bP,dX,bI,kF]))⟩
  rintro⟨⟨⟨aj,ou,f⟩,own,H,y⟩,b,d,G,N,V⟩;simp only at b d G N V;have aw:=d.pos;simp only[↓X9,X0,seval,X2,fI,bX,bI];rw[bQ s d.pos];refine⟨by decide +kernel,bH.mk F fun _=>?_⟩;refine kT.of (ι:={u:Pp×Int // (sj s p n inl E x)=qD s (bI x y) u.1 n}) (fun u=>⟨[(0,.ptr 0 0 0),(1,.i .i64 n),(9,.ptr 5 0 0)],(Mt s (y) x.fr (x.lt:Nat) [some (.gA false [.b u.1.1.has,.s u.1.1.an,.s u.1.1.tg,.i .i64 u.1.2,.i .i64 (u.1.1.en:Nat)]),some (.gA false [.b ou.has,.s ou.an,.s ou.tg,.i .i64 f,.i .i64 (ou.en:Nat)])])⟩) ?_ ?_
  ·simp only[↓X9,X0,seval,X2,fI,fw,fb,dK,bX,bI];obtain⟨aq,t,B,A⟩:=ou;obtain⟨ar,C,D,k⟩:=own;cases aj<;>cases ar<;>cases aq
   ·simp only[↓X9,X0,seval,X2,fI,fw,fb,dK,bX,bI];refine⟨fun j=>?_,fun j=>?_⟩
    ·have r:=HM false t B f A false C D H k (bI x y) d G j N;unfold lU iF at r;refine Wb (r) ?_;simp only[↓X9,X0,seval,X2,bX,bI,XM];rw[b,qZ,aB ⟨rfl,j⟩];exact Wf
    refine⟨by decide +kernel,bH.mk ⟨F,by omega,by omega⟩ fun _=>⟨fun hd=>?_,fun hd=>?_⟩⟩
    ·have r:=HL false t B f A (bI x y) d G (uP hd);unfold lU iF at r;refine Wb (r) ?_;simp only[↓X9,X0,seval,X2,bX,bI,XM];rw[b,qZ,aA (by simp[bI,j]),aB ⟨rfl,rfl,hd⟩];exact Wf
    exact⟨⟨((⟨false,C,D,k⟩:Pp),(H:Nat)),by rw[b,qZ,aA (by simp[bI,j]),aA (by simp[bI,hd]),aA (by simp),aA (by simp)];rfl⟩,(cG.cT [0,1,2,3,4,5,6] (by decide) (by simp only[Yd];exact⟨aM (by simp[Yf,Yh,bI]),aF fun _=>rfl,aF fun _=>rfl,cB,aF fun _=>rfl,aM (by simp[Yf]),aM (by simp[Yf])⟩) (by simp[bC,Vg.look,SV.bP,dX,bI]))⟩
   ·simp only[↓X9,X0,seval,X2,fI,fw,fb,dK,bX,bI];refine⟨fun j=>?_,fun j=>?_⟩
    ·have r:=HM true t B f A false C D H k (bI x y) d G j N;unfold lU iF at r;refine Wb (r) ?_;simp only[↓X9,X0,seval,X2,bX,bI,XM];rw[b,qZ,aB ⟨rfl,j⟩];exact Wf
    refine⟨by decide +kernel,bH.mk ⟨F,by omega,by omega⟩ fun _=>⟨fun hd=>?_,fun hd=>?_⟩⟩
    ·have r:=HL true t B f A (bI x y) d G (uP hd);unfold lU iF at r;refine Wb (r) ?_;simp only[↓X9,X0,seval,X2,bX,bI,XM];rw[b,qZ,aA (by simp[bI,j]),aB ⟨rfl,rfl,hd⟩];exact Wf
    exact⟨⟨((⟨true,t,B,A⟩:Pp),f),by rw[b,qZ,aA (by simp[bI,j]),aA (by simp[bI,hd]),aA (by simp),aB rfl];rfl⟩,(cG.cT [0,1,2,3,4,5,6] (by decide) (by simp only[Yd];exact⟨aM (by simp[Yf,Yh,bI]),aF fun _=>rfl,aF fun _=>rfl,cB,aF fun _=>rfl,aM (by simp[Yf]),aM (by simp[Yf])⟩) (by simp[bC,Vg.look,SV.bP,dX,bI]))⟩
   ·simp only[↓X9,X0,seval,X2,fI,fw,fb,dK,bX,bI];refine⟨fun j=>?_,fun j=>?_⟩
    ·have r:=HM false t B f A true C D H k (bI x y) d G j N;unfold lU iF at r;refine Wb (r) ?_;simp only[↓X9,X0,seval,X2,bX,bI,XM];rw[b,qZ,aB ⟨rfl,j⟩];exact Wf
    exact⟨by decide +kernel,⟨((⟨true,C,D,k⟩:Pp),(H:Nat)),by rw[b,qZ,aA (by simp[bI,j]),aA (by simp),aA (by simp),aA (by simp)];rfl⟩,(cG.cT [0,1,2,3,4,5,6] (by decide) (by simp only[Yd];exact⟨aM (by simp[Yf,Yh,bI]),aF fun _=>rfl,aF fun _=>rfl,cB,aF fun _=>rfl,aM (by simp[Yf]),aM (by simp[Yf])⟩) (by simp[bC,Vg.look,SV.bP,dX,bI]))⟩
   ·simp only[↓X9,X0,seval,X2,fI,fw,fb,dK,bX,bI];refine⟨fun j=>?_,fun j=>?_⟩
    ·have r:=HM true t B f A true C D H k (bI x y) d G j N;unfold lU iF at r;refine Wb (r) ?_;simp only[↓X9,X0,seval,X2,bX,bI,XM];rw[b,qZ,aB ⟨rfl,j⟩];exact Wf
    rw[bQ s (V rfl)];refine⟨by decide +kernel,by decide +kernel,bH.mk F fun _=>⟨fun M=>?_,fun M=>?_⟩⟩
    ·refine⟨by decide +kernel,bH.mk F fun _=>?_⟩;refine Wm (gP s y x.fr (x.lt:Nat) 10 (wh s k) d.cd) ?_;simp only[↓X9,X0,seval,X2,bX,bI,XM];rw[b,qZ,aA (by simp[bI,j]),aA (by simp),aB ⟨rfl,rfl⟩,aB M];exact Wf
    refine Wm (gP s y x.fr (x.lt:Nat) 7 H d.cd) ?_;simp only[↓X9,X0,seval,X2,bX,bI,XM];rw[b,qZ,aA (by simp[bI,j]),aA (by simp),aB ⟨rfl,rfl⟩,aA (by rw[M];simp)];exact Wf
   ·simp only[↓X9,X0,seval,X2,fI,fw,fb,dK,bX,bI];exact⟨by decide +kernel,⟨((⟨false,C,D,k⟩:Pp),(H:Nat)),by rw[b,qZ,aA (by simp),aA (by simp),aA (by simp),aA (by simp)];rfl⟩,(cG.cT [0,1,2,3,4,5,6] (by decide) (by simp only[Yd];exact⟨aM (by simp[Yf,Yh,bI]),aF fun _=>rfl,aF fun _=>rfl,cB,aF fun _=>rfl,aM (by simp[Yf]),aM (by simp[Yf])⟩) (by simp[bC,Vg.look,SV.bP,dX,bI]))⟩
   ·simp only[↓X9,X0,seval,X2,fI,fw,fb,dK,bX,bI];exact⟨by decide +kernel,⟨((⟨true,t,B,A⟩:Pp),f),by rw[b,qZ,aA (by simp),aA (by simp),aA (by simp),aB rfl];rfl⟩,(cG.cT [0,1,2,3,4,5,6] (by decide) (by simp only[Yd];exact⟨aM (by simp[Yf,Yh,bI]),aF fun _=>rfl,aF fun _=>rfl,cB,aF fun _=>rfl,aM (by simp[Yf]),aM (by simp[Yf])⟩) (by simp[bC,Vg.look,SV.bP,dX,bI]))⟩
   ·simp only[↓X9,X0,seval,X2,fI,fw,fb,dK,bX,bI];exact⟨by decide +kernel,⟨((⟨true,C,D,k⟩:Pp),(H:Nat)),by rw[b,qZ,aA (by simp),aA (by simp),aA (by simp),aA (by simp)];rfl⟩,(cG.cT [0,1,2,3,4,5,6] (by decide) (by simp only[Yd];exact⟨aM (by simp[Yf,Yh,bI]),aF fun _=>rfl,aF fun _=>rfl,cB,aF fun _=>rfl,aM (by simp[Yf]),aM (by simp[Yf])⟩) (by simp[bC,Vg.look,SV.bP,dX,bI]))⟩
   simp only[↓X9,X0,seval,X2,fI,fw,fb,dK,bX,bI];rw[bQ s (V rfl)];refine⟨by decide +kernel,by decide +kernel,bH.mk F fun _=>⟨fun M=>?_,fun M=>?_⟩⟩
   ·refine⟨by decide +kernel,bH.mk F fun _=>?_⟩;refine Wm (gP s y x.fr (x.lt:Nat) 10 (wh s k) d.cd) ?_;simp only[↓X9,X0,seval,X2,bX,bI,XM];rw[b,qZ,aA (by simp),aA (by simp),aB ⟨rfl,rfl⟩,aB M];exact Wf
   refine Wm (gP s y x.fr (x.lt:Nat) 7 H d.cd) ?_;simp only[↓X9,X0,seval,X2,bX,bI,XM];rw[b,qZ,aA (by simp),aA (by simp),aB ⟨rfl,rfl⟩,aA (by rw[M];simp)];exact Wf
  rintro⟨⟨w,wf⟩,hw⟩;simp only at hw;simp only[↓X9,X0,seval,X2,bX,bI];refine Wb (RF s y x.fr (x.lt:Nat) w.has w.an w.tg wf w.en n ⟨F,d⟩) ?_;simp only[↓X9,X0,seval,X2,bX,bI,XM];rw[hw,U4];exact Wf
 simp only[aI i];simp only[↓X9,X0,seval,X2,bX,bI];have e:(sj s p n inl E x)=bI x q:=by unfold sj;rw[<-Q,aB i]
 rw[e];exact Wf (by simp only[↓XC,X1,seval];try simp[Yf,bI,i])
end Go.T
end
section
namespace Go.T
variable[Go.Vg.df][Go.Vg.cS 0 1]
open Go.Proofs Go.Vg Go.RowKit Go.TT Go.Pl
set_option maxRecDepth 10000
set_option maxHeartbeats 4000000
theorem IV(s:Bs)(r:s.length<=1048576):∀(d:Nat) (x:Rb) (n:Int) (i l:Bool),Ok s x.r->x.r.dp+d=40->lU Tryz.prog 252 s [.i .i64 n,.b i,.b l] x (uE s d n i l x):=by
 intro d
 induction d with
 |zero=>
  intro x n i l y hd;refine AP s x (fun _ _ _ x=>x) n i l (fun o j m a k w an tg t B p b u c v=>?_) (fun o j m a k p b u c=>?_) ⟨r,y⟩
  ·exact Db s p (fun _ _ _ x=>x) o j m a k w an tg t B (fun h=>by omega) ⟨r,b,c,v⟩
  ·exact AO s p (fun _ _ _ x=>x) o j m a k (fun h=>by omega) ⟨r,b,c⟩
 |succ d C=>
  intro x n i l y hd;refine AP s x (uE s d) n i l (fun o j m a k w an tg t B p b u c v=>?_) (fun o j m a k p b u c=>?_) ⟨r,y⟩
  ·exact Db s p (uE s d) o j m a k w an tg t B (fun h=>⟨fun g i2 f q e z A=>sQ d g i2 f q e (by omega) A,fun g i2 f q e z=>C q g i2 f e (by omega)⟩) ⟨r,b,c,v⟩
  exact AO s p (uE s d) o j m a k (fun h=>⟨fun g i2 f q e z A=>sQ d g i2 f q e (by omega) A,fun g i2 f q e z=>C q g i2 f e (by omega)⟩) ⟨r,b,c⟩
end Go.T
end
section
namespace Go.T
variable[Go.Vg.df][Go.Vg.cS 0 1]
open Go.Proofs Go.Vg Go.RowKit Go.TT Go.Pl
set_option maxRecDepth 10000
set_option maxHeartbeats 4000000
theorem O7(s:Bs)(r:Rd)(fr:Bool)(la:Int)(hp:s.length<=1048576/\r.pos<=s.length):gQ Tryz.prog 212 5 [.ptr 0 0 0] (iF s (r) fr la) (fun z c=>z=.b (lY s r.pos)/\c=(iF s (r) fr la)):=by
 refine l5 (dv.c nR.d) 25 [[0],[2]] Tryz.func212 [.tmp 2] (fun _=>true) [] [(1,[],[],qa (.q0 3 [3] (.q0 7 [7] (.de 8 (qh (.q1 15 (.q1 16 (.q1 17 (.q0 14 [14] (.q0 18 [18] (.de 19 (.q1 20 (.q1 21 (.q1 22 .fin))) .fin))))))) .fin))))] ?_;simp only[↓XC,X1,seval,X2,bL,iv];rw[bQ s hp.2];have e:(decide (bW s r.pos=37)&&decide (((gL s r.pos:Nat):Int)=0))=lY s r.pos:=by unfold lY;congr 1;rw[cZ];omega
 rw[e];exact⟨by decide +kernel,bH.mk hp.1 fun _=>bH.mk (fun h=>⟨⟨h,h⟩,hp.1⟩) fun _=>⟨[0,1,2,3,4],by decide,by simp only[Yd];exact⟨aM (by simp[Yf,Yh]),aF fun _=>rfl,aF fun _=>rfl,cB,aF fun _=>rfl⟩,by simp only[↓XC,X1,seval];try first|rfl|simp[Yf],by simp[da,SO.ro,YC],by simp⟩⟩
theorem SK(s:Bs)(r:Rd)(fr:Bool)(la:Int)(hp:s.length<=1048576/\r.cd=0/\r.pos+3<=s.length):gQ Tryz.prog 145 5 [.ptr 0 0 0] (iF s (r) fr la) (fun z c=>z=.b (decide ((sZ s r).cd=0))/\c=(iF s (sZ s r) fr la)):=by
 refine l5 kd.d 27 [[0],[0,3,4],[0,3,19],[2],[],[2]] Tryz.func145 [.tmp 2] (fun _=>false) [] [(1,[],[],qa (.q0 3 [3] (.q0 7 [7] (.q1 8 (.de 9 (.q1 10 (.q1 11 (.q1 12 (.q1 13 (.q1 14 .fin))))) .fin)))))] ?_;simp only[↓XC,X1,seval,X2,fb];rw[show spot s ((r.pos:Int)+3)=r.pos+3 from by unfold spot;omega];refine⟨by decide +kernel,CR fun _=>bH.mk hp.1 fun _=>⟨fun h=>?_,fun h=>?_⟩⟩
 ·have e:sZ s r=er r 8 (iA s (r.pos+3)).1:=by unfold sZ;rw[aB (by simpa using h)]
  rw[e];refine Wm (gP s r fr la 8 (iA s (r.pos+3)).1 hp.2.1) ?_;simp only[↓XC,X1,seval,X2,XM];exact Wf
 have e:sZ s r=atR r (iA s (r.pos+3)).1:=by unfold sZ;rw[aA (by simpa using h)]
 rw[e,aJ (show(atR r (iA s (r.pos+3)).1).cd=0 from hp.2.1)];exact Wf
theorem IW(s:Bs)(r:Rd)(fr:Bool)(la:Int)(y:Bool)(hp:s.length<=1048576/\DD s r/\lY s r.pos=true):gQ Tryz.prog 213 2 [.ptr 0 0 0,.ptr 1 0 0] [some (.gA false [.s s,.i .i64 ((r).pos:Nat),.ew 2 0 (r).ev.length,.ew 3 0 (r).ev.length,.mp 4,.ew 5 0 (r).hd.length,.i .i64 ((r).dp:Nat),.i .i64 (r).cd,.i .i64 ((r).pl:Nat),.b fr,.i .i64 la]),some (.gA false [.b y]),some (.row false 8 (r).ev.length (bT jO ec (r).ev)),some (.row false 1 (r).ev.length (bT mL false (r).dn)),some (.jY (xL (r).ev (r).bs)),some (.row false 2 (r).hd.length (bT kl lO (r).hd))] (fun z c=>z=.b (decide ((lN s r y).cd=0))/\c=[some (.gA false [.s s,.i .i64 ((lN s r y).pos:Nat),.ew 2 0 (lN s r y).ev.length,.ew 3 0 (lN s r y).ev.length,.mp 4,.ew 5 0 (lN s r y).hd.length,.i .i64 ((lN s r y).dp:Nat),.i .i64 (lN s r y).cd,.i .i64 ((lN s r y).pl:Nat),.b fr,.i .i64 la]),some (.gA false [.b (By s r.pos y)]),some (.row false 8 (lN s r y).ev.length (bT jO ec (lN s r y).ev)),some (.row false 1 (lN s r y).ev.length (bT mL false (lN s r y).dn)),some (.jY (xL (lN s r y).ev (lN s r y).bs)),some (.row false 2 (lN s r y).hd.length (bT kl lO (lN s r y).hd))]):=by
 refine l5 (sJ.c (wu.c (l1.c hJ.d))) 137 [[0,1],[0,1,5,6],[0,1,5,6,7],[0,1,5,6,7,23],[0,1,6,7],[0,6,7],[0,5,6,7,51],[0,6,8],[0,6,7,8],[0,6,7,8,73,74,75],[0,6,7,8,73,74,75,76],[0,6,7,8,10,73,74,75],[0,6,7,8,73,74,75],[0,6,7,8,73,74,75],[0,6,7],[0,6,99],[4],[0],[4]] Tryz.func213 [.tmp 4] (fun _=>true) [2,15] [(1,[],[],qa (.q0 3 [3,8,9,10,11,12,13] (.q0 7 [7,8,9,10,11,12,13] (.de 8 (.q1 9 (.q1 10 (.de 11 (.seq [12,13]) (.de 12 (.seq [11,13]) .fin)))) .fin)))),(7,[],[],.q1 0 (.q1 1 (.q1 3 (.q1 4 (.q0 2 [2] (.q0 5 [5] (.q1 6 (.de 7 (.de 8 .fin .fin) .fin)))))))),(14,[7,10],[0,5],qe (.q0 4 [4,7,8,9,10] (.q0 5 [5,6,7,8,9,10] (.de 6 (.sw (.de 7 (qd (.de 10 .fin .fin)) .fin)) .fin)))),(18,[],[],qa (.q0 3 [3,8,9,10,11,12,13,14,15,16,17,18,19,20,21,22] (.q0 7 [7,8,9,10,11,12,13,14,15,16,17,18,19,20,21,22] (.de 8 (.q1 9 (.q1 10 (.q1 11 (.sw (.de 12 (.q1 13 (.q1 14 (.q1 15 (.q1 16 (.q1 17 (.q1 18 (.de 19 (.sw (.de 20 (.seq [21,22]) .fin)) .fin))))))) .fin))))) .fin))))] ?_;simp only[↓XC,X1,seval,X2,dd,dH,dE,bR,bX];obtain⟨o,D,hd⟩:=hp;have k:=D.pos;have G:=D.cd;have M:=D.hd;have O:=JJ hd;have P:=JI s r.pos k;have A:=fun i=>JH (s:=s) (p:=r.pos) i;refine kT.of (ι:=Unit) (fun _=>⟨[(0,.ptr 0 0 0),(1,.ptr 1 0 0),(5,.fs 1 ((qG s r.pos).map ij)),(6,.i .i64 (en s r.pos:Nat))],[some (.gA false [.s s,.i .i64 ((r).pos:Nat),.ew 2 0 (r).ev.length,.ew 3 0 (r).ev.length,.mp 4,.ew 5 0 (r).hd.length,.i .i64 ((r).dp:Nat),.i .i64 (r).cd,.i .i64 ((r).pl:Nat),.b fr,.i .i64 la]),some (.gA false [.b y]),some (.row false 8 (r).ev.length (bT jO ec (r).ev)),some (.row false 1 (r).ev.length (bT mL false (r).dn)),some (.jY (xL (r).ev (r).bs)),some (.row false 2 (r).hd.length (bT kl lO (r).hd))]⟩) ?_ ?_
 ·simp only[↓X9,X0,seval,X2,dd,dH,dE,bR,bX,bI];rw[bQ s k];rw[show kN s (en s r.pos) r.pos=qG s r.pos from rfl];exact⟨by decide +kernel,bH.mk o fun _=>⟨⟨(),(cG.cT [0,1,2,3,4,5] (by decide) (by simp only[Yd];exact⟨aM (by simp[Yf,Yh,bI]),aM (by simp[Yf]),aF fun _=>rfl,aF fun _=>rfl,cB,aF fun _=>rfl⟩) (by simp[bC,Vg.look,SV.bP,dX,bI]))⟩,⟨(),(cG.cT [0,1,2,3,4,5] (by decide) (by simp only[Yd];exact⟨aM (by simp[Yf,Yh,bI]),aM (by simp[Yf]),aF fun _=>rfl,aF fun _=>rfl,cB,aF fun _=>rfl⟩) (by simp[bC,Vg.look,SV.bP,dX,bI]))⟩⟩⟩
 rintro⟨⟩;simp only[↓X9,X0,seval,X2,dd,dH,dE,bR,bX,bI];have N:∀i,(qG s r.pos).getD i []=(qG s r.pos).getD i []:=fun _=>rfl;refine kT.of (ι:=Unit) (fun _=>⟨[(0,.ptr 0 0 0),(6,.i .i64 (en s r.pos:Nat)),(7,.b (uG s r y))],[some (.gA false [.s s,.i .i64 ((lj r (mD s r)).pos:Nat),.ew 2 0 (lj r (mD s r)).ev.length,.ew 3 0 (lj r (mD s r)).ev.length,.mp 4,.ew 5 0 (lj r (mD s r)).hd.length,.i .i64 ((lj r (mD s r)).dp:Nat),.i .i64 (lj r (mD s r)).cd,.i .i64 ((lj r (mD s r)).pl:Nat),.b fr,.i .i64 la]),some (.gA false [.b (By s r.pos y)]),some (.row false 8 (lj r (mD s r)).ev.length (bT jO ec (lj r (mD s r)).ev)),some (.row false 1 (lj r (mD s r)).ev.length (bT mL false (lj r (mD s r)).dn)),some (.jY (xL (lj r (mD s r)).ev (lj r (mD s r)).bs)),some (.row false 2 (lj r (mD s r)).hd.length (bT kl lO (lj r (mD s r)).hd))]⟩) ?_ ?_
 ·simp only[↓X9,X0,seval,X2,dd,dH,dE,bR,bX,bI];refine CO fun _=>?_;by_cases q:(qG s r.pos).getD 0 []=[37,89,65,77,76]
  ·have n:¬(qG s r.pos).getD 0 []=[37,84,65,71]:=by rw[q];decide
   simp only[aJ q,aI n];simp only[↓X9,X0,seval,X2,dd,dH,dE,bR,bX,bI];refine⟨fun E=>CO fun _=>?_,fun E=>CO fun _=>?_⟩
   ·have a:uT s r.pos=true:=by unfold uT Qn;rw[aJ q,aJ (show(qG s r.pos).length=2 by omega)];rfl
    have l:lj r (mD s r)=r:=by unfold mD;rw[aB a];rfl
    have m:By s r.pos y=true:=by unfold By;rw[a];rfl
    have j:uG s r y=((decide ((qG s r.pos).getD 1 []=[49,46,49])||decide ((qG s r.pos).getD 1 []=[49,46,50]))&&!y):=by unfold uG;rw[aB a]
    rw[l,m];by_cases t:(qG s r.pos).getD 1 []=[49,46,49]
    ·simp only[aJ t];simp only[↓X9,X0,seval,X2,dd,dH,dE,bR,bX,bI];rw[show uG s r y=!y by rw[j,aJ t];rfl];exact⟨(),(cG.cT [0,1,2,3,4,5] (by decide) (by simp only[Yd];exact⟨aM (by simp[Yf,Yh,bI]),aM (by simp[Yf]),aF fun _=>rfl,aF fun _=>rfl,cB,aF fun _=>rfl⟩) (by simp[bC,Vg.look,SV.bP,dX,bI]))⟩
    simp only[aI t];simp only[↓X9,X0,seval,X2,dd,dH,dE,bR,bX,bI];refine CO fun _=>?_;by_cases B:(qG s r.pos).getD 1 []=[49,46,50]
    ·simp only[aJ B];simp only[↓X9,X0,seval,X2,dd,dH,dE,bR,bX,bI];rw[show uG s r y=!y by rw[j,aI t,aJ B];rfl];exact⟨(),(cG.cT [0,1,2,3,4,5] (by decide) (by simp only[Yd];exact⟨aM (by simp[Yf,Yh,bI]),aM (by simp[Yf]),aF fun _=>rfl,aF fun _=>rfl,cB,aF fun _=>rfl⟩) (by simp[bC,Vg.look,SV.bP,dX,bI]))⟩
    simp only[aI B];simp only[↓X9,X0,seval,X2,dd,dH,dE,bR,bX,bI];rw[show uG s r y=false by rw[j,aI t,aI B];rfl];exact⟨(),(cG.cT [0,1,2,3,4,5] (by decide) (by simp only[Yd];exact⟨aM (by simp[Yf,Yh,bI]),aM (by simp[Yf]),aF fun _=>rfl,aF fun _=>rfl,cB,aF fun _=>rfl⟩) (by simp[bC,Vg.look,SV.bP,dX,bI]))⟩
   simp only[aI n];simp only[↓X9,X0,seval,X2,dd,dH,dE,bR,bX,bI];have a:¬uT s r.pos=true:=by unfold uT;rw[aI (show ¬(qG s r.pos).length=2 by omega)];simp
   have d:¬vX s r.pos=true:=by unfold vX;first|(unfold I6;rw[aI n];simp;done)|(rw[aI (show ¬(qG s r.pos).length=3 by omega)];simp)
   have l:lj r (mD s r)=r:=by unfold mD;rw[aA a,aA d];rfl
   have m:By s r.pos y=y:=by unfold By;rw[ga]at a;rw[a];rfl
   have j:uG s r y=false:=by unfold uG;rw[aA a,aA d]
   rw[l,m,j];exact⟨(),(cG.cT [0,1,2,3,4,5] (by decide) (by simp only[Yd];exact⟨aM (by simp[Yf,Yh,bI]),aM (by simp[Yf]),aF fun _=>rfl,aF fun _=>rfl,cB,aF fun _=>rfl⟩) (by simp[bC,Vg.look,SV.bP,dX,bI]))⟩
  simp only[aI q];simp only[↓X9,X0,seval,X2,dd,dH,dE,bR,bX,bI];refine CO fun _=>?_;have a:¬uT s r.pos=true:=by unfold uT Qn;rw[aI q];simp
  by_cases n:(qG s r.pos).getD 0 []=[37,84,65,71]
  ·simp only[aJ n];simp only[↓X9,X0,seval,X2,dd,dH,dE,bR,bX,bI];refine⟨fun E=>⟨by decide +kernel,CO fun _=>CO fun _=>bH.mk ⟨cv (A 1) o,cv (A 2) o⟩ fun _=>?_⟩,fun E=>?_⟩
   ·have d:vX s r.pos=true:=by unfold vX I6;rw[aJ n,aJ (show(qG s r.pos).length=3 by omega)];rfl
    refine cF.of (ι:={i:Nat // i<=r.hd.length}) (fun x=>⟨[(0,.ptr 0 0 0),(6,.i .i64 (en s r.pos:Nat)),(7,.b (HH (Bx s r.pos)&&(r.hd.take x.1).all fun h=>!decide (h.name=(Bx s r.pos).name))),(8,.ptr 6 0 0),(73,.ew 5 0 r.hd.length),(74,.i .i64 (r.hd.length:Nat)),(75,.i .i64 (x.1:Nat))],[some (.gA false [.s s,.i .i64 ((r).pos:Nat),.ew 2 0 (r).ev.length,.ew 3 0 (r).ev.length,.mp 4,.ew 5 0 (r).hd.length,.i .i64 ((r).dp:Nat),.i .i64 (r).cd,.i .i64 ((r).pl:Nat),.b fr,.i .i64 la]),some (.gA false [.b y]),some (.row false 8 (r).ev.length (bT jO ec (r).ev)),some (.row false 1 (r).ev.length (bT mL false (r).dn)),some (.jY (xL (r).ev (r).bs)),some (.row false 2 (r).hd.length (bT kl lO (r).hd)),some (.gA false [.s ((qG s r.pos).getD 1 []),.s ((qG s r.pos).getD 2 [])])]⟩) (fun x=>r.hd.length-x.1) ⟨0,bF _⟩ (by rw[show(HH (Bx s r.pos)&&(r.hd.take 0).all fun h=>!decide (h.name=(Bx s r.pos).name))=HH ⟨(qG s r.pos).getD 1 [],(qG s r.pos).getD 2 []⟩ by simp[Bx]];exact(cG.cT [0,1,2,3,4,5,6] (by decide) (by simp only[Yd];exact⟨aM (by simp[Yf,Yh,bI]),aM (by simp[Yf]),aF fun _=>rfl,aF fun _=>rfl,cB,aF fun _=>rfl,aM (by simp[Yf])⟩) (by simp[bC,Vg.look,SV.bP,dX,bI]))) ?_;rintro⟨i,H⟩;simp only[↓X9,X0,seval,X2,bX,bI];have K:∀i,i<r.hd.length->(HH (Bx s r.pos)&&(List.take (i+1) r.hd).all fun h=>!decide (h.name=(Bx s r.pos).name))=((HH (Bx s r.pos)&&(List.take i r.hd).all fun h=>!decide (h.name=(Bx s r.pos).name))&&!decide ((r.hd.getD i lO).name=(qG s r.pos).getD 1 [])):=fun i H=>by rw[fR,aS H,Option.toList_some,List.all_append,List.all_cons,List.all_nil,Bool.and_true,<-Bool.and_assoc,aG,aS H];rfl
    refine⟨fun h=>bH.mk ⟨by omega,h⟩ fun _=>CO fun _=>?_,fun h=>?_⟩
    ·have u:=K i (by omega);generalize (HH (Bx s r.pos)&&(List.take i r.hd).all fun h=>!decide (h.name=(Bx s r.pos).name))=b at *;cases b
     ·simp only[↓X9,X0,seval,X2,bX,bI];refine CR fun _=>⟨⟨i+1,by omega⟩,by simp only;omega, ?_⟩
      simp only[u,Bool.false_and];exact(cG.cT [0,1,2,3,4,5,6] (by decide) (by simp only[Yd];exact⟨aM (by simp[Yf,Yh,bI]),aM (by simp[Yf]),aF fun _=>rfl,aF fun _=>rfl,cB,aF fun _=>rfl,aM (by simp[Yf])⟩) (by simp[bC,Vg.look,SV.bP,dX,bI]))
     simp only[↓X9,X0,seval,X2,bX,bI];refine CR fun _=>⟨⟨i+1,by omega⟩,by simp only;omega, ?_⟩
     simp only[u,di];exact(cG.cT [0,1,2,3,4,5,6] (by decide) (by simp only[Yd];exact⟨aM (by simp[Yf,Yh,bI]),aM (by simp[Yf]),aF fun _=>rfl,aF fun _=>rfl,cB,aF fun _=>rfl,aM (by simp[Yf])⟩) (by simp[bC,Vg.look,SV.bP,dX,bI]))
    have I:i=r.hd.length:=by omega
    have L:=D.hd;subst I;have l:mD s r=r.hd++[Bx s r.pos]:=by unfold mD;rw[aA a,aB d]
    have m:By s r.pos y=y:=by unfold By;rw[ga]at a;rw[a];rfl
    have j:uG s r y=(HH (Bx s r.pos)&&(List.take r.hd.length r.hd).all fun h=>!decide (h.name=(Bx s r.pos).name)):=by unfold uG;rw[aA a,aB d,eY]
    rw[l,m,j];exact⟨by decide +kernel,dz rfl rfl,bH.mk ⟨aN _,by omega⟩ fun _=>⟨(),(cG.cT [0,1,2,3,4,8] (by decide) (by simp only[Yd];exact⟨aM (by simp[Yf,lj]),aM (by simp[Yf]),aF fun _=>rfl,aF fun _=>rfl,cB,eU r.hd (Bx s r.pos) (fun _=>rfl) rfl rfl (by simp[lj]) (fun _ _=>rfl) rfl rfl⟩) (by simp[bC,Vg.look,SV.bP,dX,lj]))⟩⟩
   have d:¬vX s r.pos=true:=by unfold vX;first|(unfold I6;rw[aI n];simp;done)|(rw[aI (show ¬(qG s r.pos).length=3 by omega)];simp)
   have l:lj r (mD s r)=r:=by unfold mD;rw[aA a,aA d];rfl
   have m:By s r.pos y=y:=by unfold By;rw[ga]at a;rw[a];rfl
   have j:uG s r y=false:=by unfold uG;rw[aA a,aA d]
   rw[l,m,j];exact⟨(),(cG.cT [0,1,2,3,4,5] (by decide) (by simp only[Yd];exact⟨aM (by simp[Yf,Yh,bI]),aM (by simp[Yf]),aF fun _=>rfl,aF fun _=>rfl,cB,aF fun _=>rfl⟩) (by simp[bC,Vg.look,SV.bP,dX,bI]))⟩
  simp only[aI n];simp only[↓X9,X0,seval,X2,dd,dH,dE,bR,bX,bI];have d:¬vX s r.pos=true:=by unfold vX;first|(unfold I6;rw[aI n];simp;done)|(rw[aI (show ¬(qG s r.pos).length=3 by omega)];simp)
  have l:lj r (mD s r)=r:=by unfold mD;rw[aA a,aA d];rfl
  have m:By s r.pos y=y:=by unfold By;rw[ga]at a;rw[a];rfl
  have j:uG s r y=false:=by unfold uG;rw[aA a,aA d]
  rw[l,m,j];exact⟨(),(cG.cT [0,1,2,3,4,5] (by decide) (by simp only[Yd];exact⟨aM (by simp[Yf,Yh,bI]),aM (by simp[Yf]),aF fun _=>rfl,aF fun _=>rfl,cB,aF fun _=>rfl⟩) (by simp[bC,Vg.look,SV.bP,dX,bI]))⟩
 rintro⟨⟩;simp only[↓X9,X0,seval,X2,dd,dH,dE,bR,bX,bI];have w:=jF s r.pos k;have J:=ez s (en s r.pos) w;rw[bQ s w,bQ s J];have f:(lj r (mD s r)).cd=0:=G;refine⟨fun h=>?_,fun h=>bH.mk o fun _=>⟨by decide +kernel,bH.mk o fun _=>?_⟩⟩
 ·refine eS.mut (gP s (lj r (mD s r)) fr la 13 (lj r (mD s r)).pos f) rfl [0,2,3,4,5] (by simp[Yf]) (by simp only[Ye];exact⟨by omega,aM (by simp[Yf,Yh,bI]),by omega,aF fun _=>rfl,by omega,aF fun _=>rfl,by omega,cB,by omega,aF fun _=>rfl⟩) (by decide) ?_;simp only[↓X9,X0,seval,X2,bX,bI,XM];have e:lN s r y=er (lj r (mD s r)) 13 r.pos:=by unfold lN;rw[aB (by simpa using h)]
  rw[e];exact⟨[0,1,2,3,4,5],by decide,by simp only[Yd];exact⟨aM (by simp[Yf,Yh,bI,lj]),aM (by simp[Yf]),aF fun _=>rfl,aF fun _=>rfl,cB,aF fun _=>rfl⟩,by simp only[↓XC,X1,seval];try first|rfl|simp[Yf,bI,lj],by simp[da,SO.ro,YC],by simp⟩
 have F:lN s r y=if ib s (dR s (en s r.pos))=1\/lY s (dR s (en s r.pos))=true then atR (lj r (mD s r)) (dR s (en s r.pos))else er (atR (lj r (mD s r)) (dR s (en s r.pos))) 13 (dR s (en s r.pos)):=by unfold lN;rw[aA (by simpa using h)]
 generalize dR s (en s r.pos)=g at *;by_cases hm:ib s g=1
 ·simp only[aJ hm];simp only[↓X9,X0,seval,X2,dd,dH,dE,bR,bX,bI];rw[F,aB (.inl hm)];exact⟨[0,1,2,3,4,5],by decide,by simp only[Yd];exact⟨aM (by simp[Yf,Yh,bI,lj]),aM (by simp[Yf]),aF fun _=>rfl,aF fun _=>rfl,cB,aF fun _=>rfl⟩,by simp only[↓XC,X1,seval];try simp[Yf,bI,f,atR],by simp[da,SO.ro,YC],by simp⟩
 simp only[aI hm];simp only[↓X9,X0,seval,X2,dd,dH,dE,bR,bX,bI];refine eS.Vo (args':=[.ptr 0 0 0]) ?_ (fun σ vs h=>by rwa[ED]at h);refine eS.mut (O7 s (atR (lj r (mD s r)) g) fr la ⟨o,J⟩) rfl [0,2,3,4,5] (by simp[Yf]) (by simp only[Ye];exact⟨by omega,aM (by simp[Yf,Yh,bI]),by omega,aF fun _=>rfl,by omega,aF fun _=>rfl,by omega,cB,by omega,aF fun _=>rfl⟩) (by decide) ?_;simp only[↓X9,X0,seval,X2,bX,bI,XM];cases v:lY s g
 ·simp only[↓X9,X0,seval,X2,dd,dH,dE,bR,bX,bI];refine eS.Vo (args':=[.ptr 0 0 0,.i .i64 13,.i .i64 (g:Nat)]) ?_ (fun σ vs h=>by rwa[ED,O3]at h);refine eS.mut (gP s (atR (lj r (mD s r)) g) fr la 13 g f) rfl [0,2,3,4,5] (by simp[Yf]) (by simp only[Ye];exact⟨by omega,aM (by simp[Yf,Yh,bI]),by omega,aF fun _=>rfl,by omega,aF fun _=>rfl,by omega,cB,by omega,aF fun _=>rfl⟩) (by decide) ?_;simp only[↓X9,X0,seval,X2,bX,bI,XM];rw[F,aA (by rintro(C|C);exact hm C;rw[v]at C;cases C)];exact⟨[0,1,2,3,4,5],by decide,by simp only[Yd];exact⟨aM (by simp[Yf,Yh,bI,lj]),aM (by simp[Yf]),aF fun _=>rfl,aF fun _=>rfl,cB,aF fun _=>rfl⟩,by simp only[↓XC,X1,seval];try first|rfl|simp[Yf,bI,lj],by simp[da,SO.ro,YC],by simp⟩
 simp only[↓X9,X0,seval,X2,dd,dH,dE,bR,bX,bI];rw[F,aB (.inr v)];exact⟨[0,1,2,3,4,5],by decide,by simp only[Yd];exact⟨aM (by simp[Yf,Yh,bI,lj]),aM (by simp[Yf]),aF fun _=>rfl,aF fun _=>rfl,cB,aF fun _=>rfl⟩,by simp only[↓XC,X1,seval];try simp[Yf,bI,f,atR],by simp[da,SO.ro,YC],by simp⟩
end Go.T
end
section
namespace Go.T
variable[Go.Vg.df][Go.Vg.cS 0 1]
open Go.Proofs Go.Vg Go.RowKit Go.TT Go.Pl
set_option maxRecDepth 10000
set_option maxHeartbeats 4000000
theorem Wc(s:Bs)(x:Rb)(m:Bool)(hp:s.length<=1048576/\Ok s x.r/\x.r.dp=0/\(m=true->x.r.pos+3<=s.length)):gQ Tryz.prog 214 1 [.ptr 0 0 0,.b m] (iF s ((x).r) (x).fr ((x).lt:Nat)) (fun z c=>z=.b (decide ((AV s m x).r.cd=0))/\c=(iF s (((AV s m x)).r) ((AV s m x)).fr (((AV s m x)).lt:Nat))):=by
 refine l5 (kd.c gI.d) 59 [[0,1],[0,9],[4],[0,5],[0,5,6,7],[0,5,6,31],[0],[4],[0,6,46],[4],[0,6,52],[],[4],[4]] Tryz.func214 [.tmp 4] (fun _=>true) [] [] ?_;simp only[↓X9,X1,seval,X2,fb,dK,bI];obtain⟨f,n,hd,hm⟩:=hp;have o:=n.pos;have l:=n.cd;refine⟨fun h=>?_,fun h=>CR fun _=>bH.mk f fun _=>?_⟩
 ·have j:m=false:=by simpa using h
  subst j;refine Wm (O8 s x.r x.fr (x.lt:Nat) ⟨f,l,o⟩) ?_;simp only[↓X9,X0,seval,X2,bX,bI,XM];obtain⟨v,g⟩:∃v,v=kB s x.r:=⟨_,rfl⟩
  rw[<-g];have k:AV s false x=if v.cd≠0 then bI x v else uE s 40 (-1) false false (bI x v):=by unfold AV;rw[aB rfl,<-g]
  by_cases a:v.cd=0
  ·have b:v=x.r:=by rw[g];exact uW (by rw[<-g];exact a)
   simp only[aJ a];simp only[↓X9,X0,seval,X2,bX,bI];have i:=IV s f 40 (bI x v) (-1) false false (by show Ok s v;rw[b];exact n) (by show v.dp+40=40;rw[b];omega);unfold lU iF at i;refine Wb (i) ?_;simp only[↓X9,X0,seval,X2,bX,bI,XM];rw[k,aA (by simpa using a)];exact Wf
  simp only[aI a];simp only[↓X9,X0,seval,X2,bX,bI];rw[k,aB a];exact Wf (by simp only[↓XC,X1,seval];try simp[Yf,bI,a])
 have j:m=true:=by simpa using h
 subst j;have t:=hm rfl;have y:=gY s (x.r.pos+3);have u:=gO s (x.r.pos+3) t;have w:=fq s (x.r.pos+3);have r:=ez s (x.r.pos+3) t;rw[show spot s ((x.r.pos:Int)+3)=x.r.pos+3 from by unfold spot;omega,show(x.r.pos:Int)+3=((x.r.pos+3:Nat):Int) by omega];refine⟨fun q=>bH.mk f fun _=>?_,fun q=>?_⟩
 ·have i:=IV s f 40 (bI x (atR x.r (wh s (x.r.pos+3)))) (-1) true false (n.at (by omega) u) (by show x.r.dp+40=40;omega);unfold lU iF at i;refine Wb (i) ?_;simp only[↓X9,X0,seval,X2,bX,bI,XM];have e:AV s true x=uE s 40 (-1) true false (bI x (atR x.r (wh s (x.r.pos+3)))):=by unfold AV;rw[aA (by simp),aB (by simpa using q)]
  rw[e];exact Wf
 refine Wm (GV s x.r x.fr (x.lt:Nat) (x.r.pos+3) ⟨f,l,t⟩) ?_;simp only[↓X9,X0,seval,X2,bX,bI,XM];obtain⟨v,g⟩:∃v,v=jn s x.r (x.r.pos+3):=⟨_,rfl⟩
 rw[<-g];have k:AV s true x=if v.cd≠0 then bI x v else if fV s v.pos=true then qJ x v (kF 0) (iA s (x.r.pos+3)).1 else uE s 40 (-1) false false (bI x v):=by unfold AV;rw[aA (by simp),aA (by simpa using q),<-g]
 by_cases a:v.cd=0
 ·have b:v=atR x.r (dR s (x.r.pos+3)):=by rw[g];exact jU (by rw[<-g];exact a)
  have d:Ok s v:=by rw[b];exact n.at (by omega) r
  simp only[aJ a];simp only[↓X9,X0,seval,X2,bX,bI];refine Wm (qc s v x.fr (x.lt:Nat) v.pos ⟨f,d.pos⟩) ?_;simp only[↓X9,X0,seval,X2,bX,bI,XM];cases p:fV s v.pos
  ·simp only[↓X9,X0,seval,X2,bX,bI];have i:=IV s f 40 (bI x v) (-1) false false d (by show v.dp+40=40;rw[b];show x.r.dp+40=40;omega);unfold lU iF at i;refine Wb (i) ?_;simp only[↓X9,X0,seval,X2,bX,bI,XM];rw[k,aA (by simpa using a),aA (by rw[p];simp)];exact Wf
  simp only[↓X9,X0,seval,X2,bX,bI];refine Wb (r4 s v x.fr (x.lt:Nat) false [] [] 0 0 (iA s (x.r.pos+3)).1 ⟨cv (d.size f) (by decide),d.dn,d.bs⟩) ?_;simp only[↓X9,X0,seval,X2,bX,bI,XM];rw[k,aA (by simpa using a),aB p];try simp only[qJ,kF,BD,atR,cY,bB,aC,aK,aL,aX]
  exact Wf (by simp only[↓XC,X1,seval];try simp[Yf,bI,a])
 simp only[aI a];simp only[↓X9,X0,seval,X2,bX,bI];rw[k,aB a];exact Wf (by simp only[↓XC,X1,seval];try simp[Yf,bI,a])
end Go.T
end
