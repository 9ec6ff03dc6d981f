/- Own text: part VBF. -/
import Derived.Test.YtgippllfnmdnpaaGreatDoorVBE
import Derived.Test.YtgippllfnmdnpaaGreatDoorVBC
import Derived.Test.YtgippllfnmdnpaaGreatDoorVAU
import Derived.Test.YtgippllfnmdnpaaGreatDoorVAT
import Derived.Test.YtgippllfnmdnpaaGreatDoorVAK
import Derived.Test.YtgippllfnmdnpaaGreatDoorVAR
set_option linter.all false
section
namespace Go.T
variable[Go.Vg.df][Go.Vg.cS 0 1]
open Go.Proofs Go.Vg Go.RowKit Go.TT Go.Pl
set_option maxRecDepth 10000
set_option maxHeartbeats 4000000
theorem Mu(s:Bs)(x:Rb)(hp:s.length<=1048576/\yv s x.r):gQ Tryz.prog 146 1 [.ptr 0 0 0] (iF s ((x).r) (x).fr ((x).lt:Nat)) (fun z c=>z=.b (decide ((zc s x).r.cd=0))/\c=(iF s (((zc s x)).r) ((zc s x)).fr (((zc s x)).lt:Nat))):=by
 refine l5 hJ.d 77 [[0],[0],[0],[0,3],[0,3,14],[0,3,17],[2],[0,4],[0,4],[0,4],[0,43],[2],[0,50],[2],[0,5],[0,5,72],[2],[],[2]] Tryz.func146 [.tmp 2] (fun _=>true) [] [(7,[],[],qa (.q0 3 [3] (.q0 7 [7] (.de 8 (.q1 9 (.q1 10 .fin)) .fin)))),(14,[],[],qa (.q0 3 [3] (.q0 7 [7] (.de 8 (.q1 9 (.q1 10 .fin)) .fin))))] ?_;simp only[↓X9,X1,reduceIte,Nat.reduceAdd,Nat.reduceLT,Nat.reduceEqDiff,Nat.reduceBEq,Nat.reduceLeDiff,reduceCtorEq,Nat.reduceSub,Nat.reduceMul,Int.reduceToNat,Int.reduceLT,Int.reduceLE,X2,bR,bI];obtain⟨l,L⟩:=hp;have q:=L.ok;have C:=q.pos;have K:=q.cd;refine cF.of (ι:={u:Bool×Rd // DD s u.2/\u.2.ev=x.r.ev/\vO s u.1 u.2=ka s x.r}) (fun u=>⟨[(0,.ptr 0 0 0),(3,.ptr 5 0 0)],[some (.gA false [.s s,.i .i64 ((u.1.2).pos:Nat),.ew 1 0 (u.1.2).ev.length,.ew 2 0 (u.1.2).ev.length,.mp 3,.ew 4 0 (u.1.2).hd.length,.i .i64 ((u.1.2).dp:Nat),.i .i64 (u.1.2).cd,.i .i64 ((u.1.2).pl:Nat),.b x.fr,.i .i64 (x.lt:Nat)]),some (.row false 8 (u.1.2).ev.length (bT jO ec (u.1.2).ev)),some (.row false 1 (u.1.2).ev.length (bT mL false (u.1.2).dn)),some (.jY (xL (u.1.2).ev (u.1.2).bs)),some (.row false 2 (u.1.2).hd.length (bT kl lO (u.1.2).hd)),some (.gA false [.b u.1.1])]⟩) (fun u=>s.length-u.1.2.pos) ⟨(false,{ x.r with bs:=x.r.ev.length,hd:=[] }),⟨K,C,q.dn,aN _,L.dp,L.sz,bF _,fun h S=>by simp at S⟩,rfl,rfl⟩ (cG.trans (b:=⟨[(0,.ptr 0 0 0),(3,.ptr 6 0 0)],[some (.gA false [.s s,.i .i64 (x.r.pos:Nat),.ew 1 0 x.r.ev.length,.ew 2 0 x.r.ev.length,.mp 5,.ew 7 0 0,.i .i64 (x.r.dp:Nat),.i .i64 x.r.cd,.i .i64 (x.r.pl:Nat),.b x.fr,.i .i64 (x.lt:Nat)]),some (.row false 8 (x.r).ev.length (bT jO ec (x.r).ev)),some (.row false 1 (x.r).ev.length (bT mL false (x.r).dn)),some (.jY (xL (x.r).ev (x.r).bs)),some (.row false 2 (x.r).hd.length (bT kl lO (x.r).hd)),some (.jY []),some (.gA false [.b false])]++([(2,bT kl lO [])].map fun p=>some (.row false p.1 0 p.2))⟩) (cG.nl [(2,bT kl lO [])] (by simp[Od,E3,Vg.look]) (by simp[L7,MI,L8,E3])) (by simp only[Of,cC,eO,eL,gy];exact(cG.cT [0,1,2,5,7,6] (by decide) (by simp only[Yd];exact⟨aM (by simp[Yf,Yh]),aF fun _=>rfl,aF fun _=>rfl,cB,aF fun _=>rfl,aM (by simp[Yf])⟩) (by simp[bC,Vg.look,SV.bP,dX])))) ?_;rintro⟨⟨B,u⟩,a,E,f⟩;simp only[↓X9,X0,reduceIte,Nat.reduceAdd,Nat.reduceLT,Nat.reduceEqDiff,Nat.reduceBEq,Nat.reduceLeDiff,reduceCtorEq,Nat.reduceSub,Nat.reduceMul,Int.reduceToNat,Int.reduceLT,Int.reduceLE,X2,bX,bI];simp only at a E f;have F:=a.pos;refine Wm (O7 s u x.fr (x.lt:Nat) ⟨l,F⟩) ?_;simp only[↓X9,X0,reduceIte,Nat.reduceAdd,Nat.reduceLT,Nat.reduceEqDiff,Nat.reduceBEq,Nat.reduceLeDiff,reduceCtorEq,Nat.reduceSub,Nat.reduceMul,Int.reduceToNat,Int.reduceLT,Int.reduceLE,X2,bX,bI,XM];cases j:lY s u.pos
 ·simp only[↓X9,X0,reduceIte,Nat.reduceAdd,Nat.reduceLT,Nat.reduceEqDiff,Nat.reduceBEq,Nat.reduceLeDiff,reduceCtorEq,Nat.reduceSub,Nat.reduceMul,Int.reduceToNat,Int.reduceLT,Int.reduceLE,X2,bR,bX,bI];have R:ka s x.r=u:=by rw[<-f,vO,aA (by rw[j];simp)]
  rw[bQ s F];refine⟨by decide +kernel,bH.mk l fun _=>?_⟩;obtain⟨m,hm⟩:∃m,m=decide (ib s u.pos=1):=⟨_,rfl⟩
  rw[<-hm];have Q:=a.sz;refine Wb (s3 s u x.fr (x.lt:Nat) 2 0 m [] [] [] 0 0 ⟨by omega,a.dn,a.bs⟩) ?_;simp only[↓X9,X0,reduceIte,Nat.reduceAdd,Nat.reduceLT,Nat.reduceEqDiff,Nat.reduceBEq,Nat.reduceLeDiff,reduceCtorEq,Nat.reduceSub,Nat.reduceMul,Int.reduceToNat,Int.reduceLT,Int.reduceLE,X2,bX,bI,XM];have J:=Wc s ⟨bB u (mQ m) true,false,x.lt⟩ m ⟨l,a.tell l,a.dp,fun h=>(jH (s:=s) (p:=u.pos) (by rw[hm]at h;rw[aW h];decide)).1⟩;obtain⟨y,O⟩:∃y,y=AV s m ⟨bB u (mQ m) true,false,x.lt⟩:=⟨_,rfl⟩
  rw[<-O]at J;try simp only[YC,bB,mQ,aC,aK,aL,aX]at J
  try simp only[show(!decide ((2:Int)=3)&&!decide ((2:Int)=4))=true from rfl]
  refine eS.K6 (J) [0,1,2,3,4] (by simp[Yf]) (by simp only[Ye];exact⟨by omega,aM (by simp[Yf,Yh,mQ,bI]),by omega,aF fun _=>rfl,by omega,aF fun _=>rfl,by omega,cB,by omega,aF fun _=>rfl⟩) (by decide) (by simp[da,SO.ro,YC]) (by decide) (by simp[iI,lh,jw,kQ,ma,SO.ro,fF,YC]) ?_;simp only[↓X9,X0,reduceIte,Nat.reduceAdd,Nat.reduceLT,Nat.reduceEqDiff,Nat.reduceBEq,Nat.reduceLeDiff,reduceCtorEq,Nat.reduceSub,Nat.reduceMul,Int.reduceToNat,Int.reduceLT,Int.reduceLE,X2,mQ,bX,bI,XM];have kl:zc s x=if y.r.cd≠0 then y else if(nG s y).r.cd≠0 then nG s y else QC s (nG s y):=by unfold zc;rw[R,aA (show ¬u.cd≠0 by have:=a.cd;simpa using this),<-hm];unfold DO;rw[O];rfl
  by_cases i:y.r.cd=0
  ·simp only[aJ i];simp only[↓X9,X0,reduceIte,Nat.reduceAdd,Nat.reduceLT,Nat.reduceEqDiff,Nat.reduceBEq,Nat.reduceLeDiff,reduceCtorEq,Nat.reduceSub,Nat.reduceMul,Int.reduceToNat,Int.reduceLT,Int.reduceLE,X2,bR,bX,bI];have P:xh s (bB u (mQ m) true) y.r:=by
    have h:=i;rw[O]at h |-
    exact Pf (x:=⟨bB u (mQ m) true,false,x.lt⟩) (a.tell l) a.dp (fun h=>(jH (s:=s) (p:=u.pos) (by rw[hm]at h;rw[aW h];decide)).1) h
   have o:=P.ok;refine Wm (Pd s y.r y.fr (y.lt:Nat) ⟨l,i,o.pos⟩) ?_;simp only[↓X9,X0,reduceIte,Nat.reduceAdd,Nat.reduceLT,Nat.reduceEqDiff,Nat.reduceBEq,Nat.reduceLeDiff,reduceCtorEq,Nat.reduceSub,Nat.reduceMul,Int.reduceToNat,Int.reduceLT,Int.reduceLE,X2,bX,bI,XM];obtain⟨w,hw⟩:∃w,w=nG s y:=⟨_,rfl⟩
   have N:(nG s ⟨y.r,y.fr,0⟩).r=w.r:=by rw[hw];rfl
   rw[N,show y.r.pos=w.lt by rw[hw,(rm s y).2],show y.fr=w.fr by rw[hw,(rm s y).1]];rw[aA (by simpa using i),<-hw]at kl;by_cases d:w.r.cd=0
   ·simp only[aJ d];simp only[↓X9,X0,reduceIte,Nat.reduceAdd,Nat.reduceLT,Nat.reduceEqDiff,Nat.reduceBEq,Nat.reduceLeDiff,reduceCtorEq,Nat.reduceSub,Nat.reduceMul,Int.reduceToNat,Int.reduceLT,Int.reduceLE,X2,bR,bX,bI];have t:=wb (s:=s) (x:=y) (by rw[<-hw];exact d);rw[<-hw]at t;have H:w.r.pos<=s.length:=by rw[t];exact ez s _ o.pos
    have n:Ok s w.r:=by rw[t];exact o.at (fq s _) (ez s _ o.pos)
    have G:w.r.ev.length<=16777216:=cv (n.size l) (by decide);rw[aA (by simpa using d)]at kl;unfold QC at kl;refine Wm (qc s w.r w.fr (w.lt:Nat) w.r.pos ⟨l,H⟩) ?_;simp only[↓X9,X0,reduceIte,Nat.reduceAdd,Nat.reduceLT,Nat.reduceEqDiff,Nat.reduceBEq,Nat.reduceLeDiff,reduceCtorEq,Nat.reduceSub,Nat.reduceMul,Int.reduceToNat,Int.reduceLT,Int.reduceLE,X2,bR,bX,bI,XM];cases D:fV s w.r.pos
    ·simp only[↓X9,X0,reduceIte,Nat.reduceAdd,Nat.reduceLT,Nat.reduceEqDiff,Nat.reduceBEq,Nat.reduceLeDiff,reduceCtorEq,Nat.reduceSub,Nat.reduceMul,Int.reduceToNat,Int.reduceLT,Int.reduceLE,X2,bR,bX,bI];refine Wm (gP s w.r w.fr (w.lt:Nat) 9 w.r.pos d) ?_;simp only[↓X9,X0,reduceIte,Nat.reduceAdd,Nat.reduceLT,Nat.reduceEqDiff,Nat.reduceBEq,Nat.reduceLeDiff,reduceCtorEq,Nat.reduceSub,Nat.reduceMul,Int.reduceToNat,Int.reduceLT,Int.reduceLE,X2,bX,bI,XM];rw[kl,aB D];exact Wf (by simp only[↓XC,X1,reduceIte,Nat.reduceAdd,Nat.reduceLT,Nat.reduceEqDiff,Nat.reduceBEq,Nat.reduceLeDiff,reduceCtorEq,Nat.reduceSub,Nat.reduceMul,Int.reduceToNat,Int.reduceLT,Int.reduceLE];try first|rfl|simp[Yf,bI])
    simp only[↓X9,X0,reduceIte,Nat.reduceAdd,Nat.reduceLT,Nat.reduceEqDiff,Nat.reduceBEq,Nat.reduceLeDiff,reduceCtorEq,Nat.reduceSub,Nat.reduceMul,Int.reduceToNat,Int.reduceLT,Int.reduceLE,X2,bR,bX,bI];rw[aA (by rw[D];simp)]at kl;rw[bQ s H];refine⟨by decide +kernel,bH.mk l fun _=>?_⟩;by_cases k:ib s w.r.pos=2
    ·simp only[aJ k];simp only[↓X9,X0,reduceIte,Nat.reduceAdd,Nat.reduceLT,Nat.reduceEqDiff,Nat.reduceBEq,Nat.reduceLeDiff,reduceCtorEq,Nat.reduceSub,Nat.reduceMul,Int.reduceToNat,Int.reduceLT,Int.reduceLE,X2,bR,bX,bI];rw[aB k]at kl;refine Wm (SK s w.r w.fr (w.lt:Nat) ⟨l,d,(jH (s:=s) (p:=w.r.pos) (by rw[k];decide)).1⟩) ?_;simp only[↓X9,X0,reduceIte,Nat.reduceAdd,Nat.reduceLT,Nat.reduceEqDiff,Nat.reduceBEq,Nat.reduceLeDiff,reduceCtorEq,Nat.reduceSub,Nat.reduceMul,Int.reduceToNat,Int.reduceLT,Int.reduceLE,X2,bR,bX,bI,XM];obtain⟨v,I⟩:∃v,v=sZ s w.r:=⟨_,rfl⟩
     rw[<-I];rw[<-I]at kl;by_cases g:v.cd=0
     ·simp only[aJ g];simp only[↓X9,X0,reduceIte,Nat.reduceAdd,Nat.reduceLT,Nat.reduceEqDiff,Nat.reduceBEq,Nat.reduceLeDiff,reduceCtorEq,Nat.reduceSub,Nat.reduceMul,Int.reduceToNat,Int.reduceLT,Int.reduceLE,X2,bR,bX,bI];have r:v=atR w.r (iA s (w.r.pos+3)).1:=by rw[I];exact(EF (by rw[<-I];exact g)).1
      refine Wb (s3 s v w.fr (w.lt:Nat) 8 0 true [] [] [] 0 0 ⟨by rw[r];exact G,by rw[r];exact n.dn,by rw[r];exact n.bs⟩) ?_;simp only[↓X9,X0,reduceIte,Nat.reduceAdd,Nat.reduceLT,Nat.reduceEqDiff,Nat.reduceBEq,Nat.reduceLeDiff,reduceCtorEq,Nat.reduceSub,Nat.reduceMul,Int.reduceToNat,Int.reduceLT,Int.reduceLE,X2,bX,bI,XM];rw[kl,aA (by simpa using g)];try simp only[bI,bB,hY,show(!decide ((8:Int)=3)&&!decide ((8:Int)=4))=true from rfl,aC,aK,aL,aX]
      exact Wf (by simp only[↓XC,X1,reduceIte,Nat.reduceAdd,Nat.reduceLT,Nat.reduceEqDiff,Nat.reduceBEq,Nat.reduceLeDiff,reduceCtorEq,Nat.reduceSub,Nat.reduceMul,Int.reduceToNat,Int.reduceLT,Int.reduceLE];try simp[Yf,bI,g])
     simp only[aI g];simp only[↓X9,X0,reduceIte,Nat.reduceAdd,Nat.reduceLT,Nat.reduceEqDiff,Nat.reduceBEq,Nat.reduceLeDiff,reduceCtorEq,Nat.reduceSub,Nat.reduceMul,Int.reduceToNat,Int.reduceLT,Int.reduceLE,X2,bR,bX,bI];rw[kl,aB g];exact Wf (by simp only[↓XC,X1,reduceIte,Nat.reduceAdd,Nat.reduceLT,Nat.reduceEqDiff,Nat.reduceBEq,Nat.reduceLeDiff,reduceCtorEq,Nat.reduceSub,Nat.reduceMul,Int.reduceToNat,Int.reduceLT,Int.reduceLE];try simp[Yf,bI,g])
    simp only[aI k];simp only[↓X9,X0,reduceIte,Nat.reduceAdd,Nat.reduceLT,Nat.reduceEqDiff,Nat.reduceBEq,Nat.reduceLeDiff,reduceCtorEq,Nat.reduceSub,Nat.reduceMul,Int.reduceToNat,Int.reduceLT,Int.reduceLE,X2,bR,bX,bI];rw[aA k]at kl;refine Wb (s3 s w.r w.fr (w.lt:Nat) 8 0 false [] [] [] 0 0 ⟨G,n.dn,n.bs⟩) ?_;simp only[↓X9,X0,reduceIte,Nat.reduceAdd,Nat.reduceLT,Nat.reduceEqDiff,Nat.reduceBEq,Nat.reduceLeDiff,reduceCtorEq,Nat.reduceSub,Nat.reduceMul,Int.reduceToNat,Int.reduceLT,Int.reduceLE,X2,bX,bI,XM];rw[kl];try simp only[bI,bB,hY,show(!decide ((8:Int)=3)&&!decide ((8:Int)=4))=true from rfl,aC,aK,aL,aX]
    exact Wf (by simp only[↓XC,X1,reduceIte,Nat.reduceAdd,Nat.reduceLT,Nat.reduceEqDiff,Nat.reduceBEq,Nat.reduceLeDiff,reduceCtorEq,Nat.reduceSub,Nat.reduceMul,Int.reduceToNat,Int.reduceLT,Int.reduceLE];try simp[Yf,bI,d])
   simp only[aI d];simp only[↓X9,X0,reduceIte,Nat.reduceAdd,Nat.reduceLT,Nat.reduceEqDiff,Nat.reduceBEq,Nat.reduceLeDiff,reduceCtorEq,Nat.reduceSub,Nat.reduceMul,Int.reduceToNat,Int.reduceLT,Int.reduceLE,X2,bR,bX,bI];rw[kl,aB d];exact Wf (by simp only[↓XC,X1,reduceIte,Nat.reduceAdd,Nat.reduceLT,Nat.reduceEqDiff,Nat.reduceBEq,Nat.reduceLeDiff,reduceCtorEq,Nat.reduceSub,Nat.reduceMul,Int.reduceToNat,Int.reduceLT,Int.reduceLE];try simp[Yf,bI,d])
  simp only[aI i];simp only[↓X9,X0,reduceIte,Nat.reduceAdd,Nat.reduceLT,Nat.reduceEqDiff,Nat.reduceBEq,Nat.reduceLeDiff,reduceCtorEq,Nat.reduceSub,Nat.reduceMul,Int.reduceToNat,Int.reduceLT,Int.reduceLE,X2,bR,bX,bI];rw[kl,aB i];exact Wf (by simp only[↓XC,X1,reduceIte,Nat.reduceAdd,Nat.reduceLT,Nat.reduceEqDiff,Nat.reduceBEq,Nat.reduceLeDiff,reduceCtorEq,Nat.reduceSub,Nat.reduceMul,Int.reduceToNat,Int.reduceLT,Int.reduceLE];try simp[Yf,bI,i])
 simp only[↓X9,X0,reduceIte,Nat.reduceAdd,Nat.reduceLT,Nat.reduceEqDiff,Nat.reduceBEq,Nat.reduceLeDiff,reduceCtorEq,Nat.reduceSub,Nat.reduceMul,Int.reduceToNat,Int.reduceLT,Int.reduceLE,X2,bR,bX,bI];refine eS.K6 (IW s u x.fr (x.lt:Nat) B ⟨l,a,j⟩) [0,5,1,2,3,4] (by simp[Yf]) (by simp only[Ye];exact⟨by omega,aM (by simp[Yf,Yh,bI]),by omega,aM (by simp[Yf]),by omega,aF fun _=>rfl,by omega,aF fun _=>rfl,by omega,cB,by omega,aF fun _=>rfl⟩) (by decide) (by simp[da,SO.ro,YC]) (by decide) (by simp[iI,lh,jw,kQ,ma,SO.ro,fF,YC]) ?_;simp only[↓X9,X0,reduceIte,Nat.reduceAdd,Nat.reduceLT,Nat.reduceEqDiff,Nat.reduceBEq,Nat.reduceLeDiff,reduceCtorEq,Nat.reduceSub,Nat.reduceMul,Int.reduceToNat,Int.reduceLT,Int.reduceLE,X2,bX,bI,XM];rw[vO,aB j]at f;refine⟨fun h=>?_,fun h=>?_⟩
 ·have A:¬(lN s u B).cd=0:=by simpa using h
  rw[aB A]at f;have e:zc s x=bI x (lN s u B):=by unfold zc;rw[<-f,aB A]
  rw[e];exact Wf (by simp only[↓XC,X1,reduceIte,Nat.reduceAdd,Nat.reduceLT,Nat.reduceEqDiff,Nat.reduceBEq,Nat.reduceLeDiff,reduceCtorEq,Nat.reduceSub,Nat.reduceMul,Int.reduceToNat,Int.reduceLT,Int.reduceLE];try simp[Yf,bI,A])
 have A:(lN s u B).cd=0:=by simpa using h
 obtain⟨_,T,U⟩:=Ic a j A;have M:=(pJ j).2.1;rw[aA (by simpa using A),bV ⟨U,M⟩]at f;exact⟨⟨(By s u.pos B,lN s u B),T,by simp only;rw[Ns];exact E,f⟩,by simp only;omega,(cG.cT [0,1,2,3,4,5] (by decide) (by simp only[Yd];exact⟨aM (by simp[Yf,Yh,bI]),aF fun _=>rfl,aF fun _=>rfl,cB,aF fun _=>rfl,aM (by simp[Yf])⟩) (by simp[bC,Vg.look,SV.bP,dX,bI]))⟩
theorem RG(s:Bs)(x:Rb)(hp:s.length<=1048576/\yv s x.r):gQ Tryz.prog 71 1 [.ptr 0 0 0] (iF s ((x).r) (x).fr ((x).lt:Nat)) (fun z c=>z=.b (decide ((vI s x).r.cd=0))/\c=(iF s (((vI s x)).r) ((vI s x)).fr (((vI s x)).lt:Nat))):=by
 refine l5 (l1.c hJ.d) 47 [[0],[0],[0,15],[],[2],[0,29],[0,42],[2],[0,43],[2]] Tryz.func71 [.tmp 2] (fun _=>true) [] [(1,[12],[0],qf (.q0 4 [4,9,10,11,12] (.q0 8 [8,9,10,11,12] (.de 9 (.q1 10 (.q1 11 (.sw (.de 12 .fin .fin)))) .fin)))),(2,[],[],qa (.q0 3 [3] (.q0 7 [7] (qd (.q1 10 .fin))))),(5,[],[],qa (.q0 3 [3] (.q0 7 [7] (.de 8 (.q1 9 (.q1 10 .fin)) .fin))))] ?_;simp only[↓X9,X1,seval,X2,dE,bR,bI];obtain⟨l,J⟩:=hp;refine cF.of (ι:={y:Rb // yv s y.r/\vI s y=vI s x}) (fun y=>⟨[(0,.ptr 0 0 0)],(iF s ((y.1).r) (y.1).fr ((y.1).lt:Nat))⟩) (fun y=>s.length-y.1.r.pos) ⟨x,J,rfl⟩ (cG.refl _ _) ?_;rintro⟨y,h,m⟩;simp only[YC];simp only[↓X9,X0,seval,X2,dE,bR,bX,bI];have d:=h.ok;have n:=d.pos;have H:=h.sz;have D:=h.gN;have I:=fq s y.r.pos;have r:=ez s y.r.pos n;rw[bQ s n,bQ s r];obtain⟨G,k⟩:∃G,G=bI y (atR y.r (dR s y.r.pos)):=⟨_,rfl⟩
 have C:∀w:Rb,Dl s G=w->¬s.length<=dR s y.r.pos->(¬w.r.cd=0->vI s x=w)/\(w.r.cd=0->yv s w.r/\y.r.pos<w.r.pos/\vI s x=vI s w):=fun w i j=>by
  rw[k]at i;have F:vI s x=if w.r.cd≠0 then w else if y.r.pos<w.r.pos/\y.r.pos<s.length then vI s w else y:=by
   rw[<-m,vI,aA j,i];by_cases f:w.r.cd=0
   ·rw[aA (by simpa using f),aA (by simpa using f)];by_cases g:y.r.pos<w.r.pos/\y.r.pos<s.length
    ·rw[bV g,aB g]
    rw[cV g,aA g]
   rw[aB f,aB f]
  refine⟨fun f=>by rw[F,aB f],fun f=>?_⟩;obtain⟨g,B⟩:=Lm (x:=bI y (atR y.r (dR s y.r.pos))) l D (by rw[i];exact f);rw[i]at g B;simp only[bI,atR]at B;exact⟨g,by omega,by rw[F,aA (by simpa using f),aB ⟨by omega,by omega⟩]⟩
 refine⟨by decide +kernel,bH.mk l fun _=>⟨by decide +kernel,fun i=>?_,fun i=>⟨by decide +kernel,bH.mk l fun _=>⟨fun j=>?_,fun j=>?_⟩⟩⟩⟩
 ·refine Wb (s3 s (atR y.r (dR s y.r.pos)) y.fr (y.lt:Nat) 9 0 false [] [] [] 0 0 ⟨by simp only[atR];omega,d.dn,d.bs⟩) ?_;simp only[↓X9,X0,seval,X2,bX,bI,XM];have e:vI s x=bI y (bB (atR y.r (dR s y.r.pos)) Bz true):=by rw[<-m,vI,aB (by omega)]
  have t:=d.cd;rw[e];try simp only[bI,bB,atR,Bz,show(!decide ((9:Int)=3)&&!decide ((9:Int)=4))=true from rfl,aC,aK,aL,aX]
  exact Wf (by simp only[↓XC,X1,seval];try simp[Yf,bI,t])
 ·have q:=SK s (atR y.r (dR s y.r.pos)) y.fr (y.lt:Nat) ⟨l,d.cd,(jH (s:=s) (p:=dR s y.r.pos) (by rw[j];decide)).1⟩;obtain⟨v,E⟩:∃v,v=sZ s (atR y.r (dR s y.r.pos)):=⟨_,rfl⟩
  rw[<-E]at q;try simp only[bI,atR]at q
  refine Wm (q) ?_;simp only[↓X9,X0,seval,X2,dE,bR,bX,bI,XM];obtain⟨u,A⟩:=C (bI y v) (by rw[k,Dl,aB (by exact j),E];rfl) (by omega);by_cases a:v.cd=0
  ·simp only[aJ a];simp only[↓X9,X0,seval,X2,dE,bR,bX,bI];obtain⟨m1,m2,m3⟩:=A a;have L:y.r.pos<v.pos:=m2;exact⟨⟨bI y v,m1,m3.symm⟩,by show s.length-v.pos<_;omega,(cG.cT [0,1,2,3,4] (by decide) (by simp only[Yd];exact⟨aM (by simp[Yf,Yh,bI]),aF fun _=>rfl,aF fun _=>rfl,cB,aF fun _=>rfl⟩) (by simp[bC,Vg.look,SV.bP,dX,bI]))⟩
  simp only[aI a];simp only[↓X9,X0,seval,X2,dE,bR,bX,bI];rw[u a];exact Wf (by simp only[↓XC,X1,seval];try simp[Yf,bI,a])
 have o:=Mu s G ⟨l,by rw[k];exact D⟩;obtain⟨w,hw⟩:∃w,w=zc s G:=⟨_,rfl⟩
 rw[<-hw,k]at o;simp only[bI,atR]at o;refine Wb (o) ?_;simp only[↓X9,X0,seval,X2,bX,bI,XM];obtain⟨u,A⟩:=C w (by rw[Dl,aA (by rw[k];exact j),hw]) (by omega);by_cases b:w.r.cd=0
 ·simp only[aJ b];simp only[↓X9,X0,seval,X2,dE,bR,bX,bI];obtain⟨m1,m2,m3⟩:=A b;have K:=m1.ok.pos;exact⟨⟨w,m1,m3.symm⟩,by simp only;omega,(cG.cT [0,1,2,3,4] (by decide) (by simp only[Yd];exact⟨aM (by simp[Yf,Yh,bI]),aF fun _=>rfl,aF fun _=>rfl,cB,aF fun _=>rfl⟩) (by simp[bC,Vg.look,SV.bP,dX,bI]))⟩
 simp only[aI b];simp only[↓X9,X0,seval,X2,dE,bR,bX,bI];rw[u b];exact Wf (by simp only[↓XC,X1,seval];try simp[Yf,bI,b])
end Go.T
end
section
namespace Go.T
variable[Go.Vg.df][Go.Vg.cS 0 1]
open Go.Proofs Go.Vg Go.RowKit Go.TT Go.Pl
set_option maxRecDepth 10000
set_option maxHeartbeats 4000000
def tt(r:Rd):Rd:={ r with dn:=(List.range r.ev.length).map fun i=>r.dn.getD i false,bs:=min r.bs r.ev.length }
theorem QR{r:Rd}(h:r.ev.length<=16777216):(tt r).ev.length<=16777216/\(tt r).dn.length=(tt r).ev.length/\(tt r).bs<=(tt r).ev.length:=⟨h,by simp[tt],by simp only[tt];omega⟩
theorem QQ{r:Rd}:xL (tt r).ev (tt r).bs=xL r.ev r.bs:=by
 simp only[tt];by_cases h:r.bs<=r.ev.length
 ·rw[Nat.min_eq_left h]
 have e:∀b,r.ev.length<=b->si r.ev b=[]:=fun b d=>by unfold si;rw[List.filter_eq_nil_iff];intro a c;have:=List.mem_range.1 c;simp;omega
 unfold xL;rw[e _ (by omega),e _ (by omega)]
theorem QP{r:Rd}{μ:Nat->Nat}{j:Nat}(a:j<r.ev.length):hZ μ (bT mL false (tt r).dn j)=bT mL false r.dn j:=by simp only[bT,tt,mL,aG,cu,List.getElem?_range a,Option.map_some,fK,hZ,SV.bP]
theorem Fa(s:Bs)(hp:s.length<=1048576):gQ Tryz.prog 16 0 [.s s] [] (fun z c=>z=.ew 0 0 (xU s).length/\c=[some (.row false 8 (xU s).length (bT jO ec (xU s)))]):=by
 refine l5 BF.d 44 [[0],[0,7],[2],[0,3],[0,3,16],[2],[4],[4],[4,28],[4],[2]] Tryz.func16 [.tmp 2] (fun _=>true) [] [(9,[],[],qf (.q0 4 [4,9,10] (.q0 8 [8,9,10] (.seq [9,10]))))] ?_;simp only[↓X9,X1,seval,X2,BE,bI];obtain⟨G,f⟩:∃G,G=xU s:=⟨_,rfl⟩
 rw[<-f];have n:=H3 s 0 (bF _);refine⟨fun h=>?_,fun h=>bH.mk hp fun _=>⟨fun g=>?_,fun g=>?_⟩⟩
 ·have e:G=[ln,uJ 1 60000]:=by rw[f,xU,Rv,aB (by omega)]
  rw[e];exact⟨[0],by decide,by simp only[Yd];exact bM fun j d=>by rcases j with _|_|j;rfl;rfl;simp only[aK,aL]at d;omega,by simp only[↓XC,X1,seval];try simp[Yf],by simp[da,SO.ro,YC],by simp⟩
 ·have a:vM s 0≠s.length:=by simp at g;omega
  have e:G=[ln,uJ 1 (vM s 0)]:=by rw[f,xU,Rv,aA (by omega),aB a]
  rw[e];exact⟨[0],by decide,by simp only[Yd];exact bM fun j d=>by rcases j with _|_|j;rfl;rfl;simp only[aK,aL]at d;omega,by simp only[↓XC,X1,seval];try simp[Yf],by simp[da,SO.ro,YC],by simp⟩
 have a:vM s 0=s.length:=by simp at g;omega
 refine eS.own (BC s 0 hp) rfl ?_;rw[show spot s 0=0 from by unfold spot;omega];simp only[↓X9,X0,seval,X2,bX,bI,XM];have l:=su s;refine Wb (s3 s (oS 0) false 0 1 0 false [] [] [] 0 0 ⟨bF _,rfl,aN _⟩) ?_;simp only[↓X9,X0,seval,X2,bX,bI,XM];have k:=RG s ⟨bB (oS 0) ln true,false,0⟩ ⟨hp,l⟩;obtain⟨w,hw⟩:∃w,w=vI s ⟨bB (oS 0) ln true,false,0⟩:=⟨_,rfl⟩
 rw[<-hw]at k;try simp only[oS,bB,ln]at k
 try simp only[oS,bB,ln,aC,aK,aL,aX]
 refine Wb (k) ?_;simp only[↓X9,X0,seval,X2,bX,bI,XM];have b:G=if w.r.cd≠0 then w.r.ev++[uJ w.r.cd w.r.pl]else w.r.ev:=by rw[f,xU,Rv,aA (by omega),aA (by omega),xV,<-hw]
 have o:w.r.ev.length<=8*s.length+71:=by rw[hw];exact IT hp
 refine⟨fun i=>⟨by decide +kernel, ?_⟩,fun i=>?_⟩
 ·rw[b,aB (by simpa using i)];have m:=s3 s (tt w.r) w.fr (w.lt:Nat) 10 0 false [] [] [] w.r.pl w.r.cd (QR (by omega));simp only[YC,QQ]at m;refine eS.K6 (m) [0,1,2,3,4] (by simp[Yf]) (by simp only[Ye];exact⟨by omega,aM (by simp[Yf,Yh,bI,tt]),by omega,aF fun _=>rfl,by omega,bM (fun j d=>QP d),by omega,cB,by omega,aF fun _=>rfl⟩) (by decide) (by simp[da,SO.ro,YC]) (by decide) (by simp[iI,lh,jw,kQ,ma,SO.ro,fF,YC]) ?_;simp only[↓X9,X0,seval,X2,bX,bI,XM];exact⟨[1],by decide,by simp only[Yd];exact aF fun _=>rfl,by simp only[↓XC,X1,seval];try simp[Yf,tt],by simp[da,SO.ro,YC],by simp⟩
 rw[b,aA (by simpa using i)];exact⟨[1],by decide,by simp only[Yd];exact aF fun _=>rfl,by simp only[↓XC,X1,seval];try simp[Yf],by simp[da,SO.ro,YC],by simp⟩
noncomputable def tL:=gC fun(s:Bs)=>([.s s],s.length<=1048576,.fs 8 ((xU s).map jO))
theorem BK{s:Bs}:tL [.s s]=some (ptr tL rfl s):=iZ
theorem BL:fO Tryz.prog 16 tL:=gJ fun s hp=>PF.xP (Fa s hp) rfl rfl (by simp only[jf,iJ,jX,iT,du,dD];exact⟨⟨by omega,fun j a=>⟨rfl,rfl⟩⟩,by rw[et rfl]⟩)
end Go.T
end
section
namespace Go.T
variable[Go.Vg.df]
open Go.Proofs Go.Vg Go.RowKit Go.TT Go.Pl
set_option maxRecDepth 10000
set_option maxHeartbeats 4000000
noncomputable def rX:=gC fun((l,ev,up,dc,i):List Ev×List Int×List Int×List Int×Int)=>([.agg [.fs 8 (l.map jO),.fs 1 (ev.map dC),.fs 1 (up.map dC),.fs 1 (dc.map dC)],.i .i64 i],l.length<=1048576,.b (decide (0<=i)&&decide (i<=(l.length:Int)-1)))
theorem nr{l:List Ev}{ev up dc:List Int}{i:Int}:rX [.agg [.fs 8 (l.map jO),.fs 1 (ev.map dC),.fs 1 (up.map dC),.fs 1 (dc.map dC)],.i .i64 i]=some (ptr rX rfl (l,ev,up,dc,i)):=qK (ai @mo @gT)
theorem rY:fO Tryz.prog 195 rX:=gJ fun(l,ev,up,dc,i) hp=>by dsimp only at *;refine HP iL.d 11 [[1,2],[4]] Tryz.func195 [.tmp 4] ?_;simp only[↓XC,X1,seval,dB,gv,jE,XR];exact CR fun _=>trivial
end Go.T
end
section
namespace Go.T
variable[Go.Vg.df]
open Go.Proofs Go.Vg Go.RowKit Go.TT Go.Pl
set_option maxRecDepth 10000
set_option maxHeartbeats 4000000
noncomputable def wQ:=gC fun((l,i):List Ev×Int)=>([.fs 8 (l.map jO),.i .i64 i],l.length<=1048576/\0<=i/\i<l.length,.i .i64 (if Pl.ie (l.getD i.toNat ec).kind then yK l i.toNat 0 else -1))
theorem mv{l:List Ev}{i:Int}:wQ [.fs 8 (l.map jO),.i .i64 i]=some (ptr wQ rfl (l,i)):=qK @mo
theorem vh:fO Tryz.prog 93 wQ:=gJ fun(l,i) hp=>by
 dsimp only at *;refine HP (rT.c Au.d) 38 [[0,1],[0,1,12],[4],[0,1,5],[0,5,6],[0,5,6,17],[0,5,6],[0,5,6,24],[0,5,6],[0,5,6,32],[0,5,6],[0,5,6,36],[4],[4]] Tryz.func93 [.tmp 4] ?_;simp only[↓XC,X1,seval,dB,nq,rP,jE,XR];refine CO fun _=>⟨fun h=>?_,fun h=>?_⟩
 ·rw[aA (fun p=>by rw[p]at h;cases h)]
 have e:Pl.ie (l.getD i.toNat ec).kind=true:=by simpa using h
 rw[aB e];refine cF.of (ι:={x:Nat×Nat // i.toNat<=x.1/\x.1<=l.length/\(x.2=0->x.1=i.toNat)/\x.2<=x.1/\yK l x.1 x.2=yK l i.toNat 0}) (fun x=>⟨[(0,.fs 8 (l.map jO)),(5,.i .i64 (x.1.2:Nat)),(6,.i .i64 (x.1.1:Nat))],[]⟩) (fun x=>l.length-x.1.1) ⟨(i.toNat,0),aN _,by simp only;omega,fun _=>rfl,bF _,rfl⟩ (by simp only[show((i.toNat:Nat):Int)=i by omega];exact cG.refl _ _) ?_;rintro⟨⟨k,c⟩,r,m,f,j,hu⟩;simp only[↓XC,X1,seval,dB,rP,jE];simp only at r m f j hu;refine⟨fun n=>CO fun _=>?_,fun n=>by rw[<-hu,AW (by omega)]⟩;rw[uf (by omega)]at hu;refine⟨fun a=>CR fun _=>CO fun _=>?_,fun a=>CO fun _=>?_⟩
 ·have d:(l.getD k ec).kind≠7:=fun h=>by rw[h]at a;cases a
  have b:Cd (l.getD k ec).kind c=c+1:=by unfold Cd;rw[aB a]
  rw[b,aA (by omega)]at hu;refine⟨fun h=>absurd h d,fun _=>⟨fun h=>by omega,fun _=>CR fun _=>⟨⟨(k+1,c+1),by simp only;omega,by simp only;omega,by simp only;omega,by simp only;omega,hu⟩,by simp only;omega, ?_⟩⟩⟩;simp only[aP,aQ];exact cG.refl _ _
 have g:¬fS (l.getD k ec).kind=true:=by rw[a];simp
 refine⟨fun d=>?_,fun d=>?_⟩
 ·have b:Cd (l.getD k ec).kind c=c-1:=by unfold Cd;rw[aA g,aB d]
  have q:c≠0:=fun o=>by have:=f o;rw[this]at d;rw[d]at e;cases e
  rw[b]at hu;refine CR fun _=>⟨fun h=>?_,fun h=>CR fun _=>?_⟩
  ·rw[aB (by omega)]at hu;rw[hu]
  rw[aA (by omega)]at hu;refine⟨⟨(k+1,c-1),by simp only;omega,by simp only;omega,by simp only;omega,by simp only;omega,hu⟩,by simp only;omega, ?_⟩;simp only[aP,aQ,show((c-1:Nat):Int)=(c:Int)-1 by omega];exact cG.refl _ _
 have b:Cd (l.getD k ec).kind c=c:=by unfold Cd;rw[aA g,aA d]
 rw[b]at hu;refine⟨fun h=>?_,fun h=>CR fun _=>?_⟩
 ·rw[aB (by omega)]at hu;rw[hu]
 rw[aA (by omega)]at hu;refine⟨⟨(k+1,c),by simp only;omega,by simp only;omega,by simp only;omega,by simp only;omega,hu⟩,by simp only;omega, ?_⟩;simp only[aP,aQ];exact cG.refl _ _
noncomputable def oF:=gC fun((l,i):List Ev×Int)=>([.agg [.fs 8 (l.map jO),.fs 1 ((mn l).map dC),.fs 1 ((HR l).map dC),.fs 1 ((pD l).map dC)],.i .i64 i],l.length<=1048576/\eQ l=true,.i .i64 (if 0<=i/\i<l.length/\(l.getD i.toNat ec).kind=6 then lz l i.toNat i.toNat else -1))
theorem wV{l:List Ev}{i:Int}:oF [.agg [.fs 8 (l.map jO),.fs 1 ((mn l).map dC),.fs 1 ((HR l).map dC),.fs 1 ((pD l).map dC)],.i .i64 i]=some (ptr oF rfl (l,i)):=qK (ai @mo @gT)
theorem wW:fO Tryz.prog 127 oF:=gJ fun(l,i) hp=>by
 dsimp only at *;refine HF (rY.c rR.d) 67 [[1,2],[1,2,18],[4],[1,2,5],[1,2,5,27],[1,2,5],[1,2,5,50],[5,65],[4],[4],[4]] Tryz.func127 [.tmp 4] (fun _=>false) [] [(6,[],[],.q1 0 (.q1 2 (.q0 1 [1] (.q1 3 (.q0 4 [4] (.de 5 (.q1 6 (.q1 7 (.q1 9 (.q1 13 (.q1 15 (.q0 8 [8] (.q1 10 (.q1 11 (.q0 12 [12] (.q0 14 [14] (.q1 16 (.q1 17 (.q0 18 [18] (.q1 19 (.q1 20 .fin))))))))))))))) .fin))))))] ?_;simp only[↓XC,X1,seval,dB,nr,k0,jE,XR];obtain⟨g,m⟩:=hp;refine bH.mk g fun _=>bH.mk (fun h=>by simp at h;omega) fun _=>⟨fun h=>?_,fun h=>?_⟩
 ·simp only[Yi]at h;rw[aA];intro o;omega
 simp only[Yi]at h;have e:0<=i/\i<l.length:=by omega
 have b:=h.2;obtain⟨n,rfl⟩:=Int.eq_ofNat_of_zero_le e.1;simp only[Int.toNat_natCast]at b |-
 rw[aB ⟨e.1,e.2,b⟩];have c:(pD l).getD n 0=((kO l (n+1):Nat):Int):=by unfold pD;rw[cI (by omega)]
 have d:=Nk m (i:=n) (by omega) b;refine CR fun _=>?_;refine cF.of (ι:={k:Nat // k<=n/\H9 l n ((kO l (n+1):Nat):Int) k=lz l n n}) (fun x=>⟨[(1,.i .i64 (n:Nat)),(2,.ptr 0 0 0),(5,.i .i64 ((x.1:Nat)-1:Int))],[some (.gA false [.fs 8 (l.map jO),.fs 1 ((mn l).map dC),.fs 1 ((HR l).map dC),.fs 1 ((pD l).map dC)])]⟩) (fun x=>x.1) ⟨n,aN _,d⟩ (cG.refl _ _) ?_;rintro⟨k,p,hd⟩;simp only[↓XC,X1,seval,dB,k0,jE,XR];have j:(mn l).length=l.length:=lC;refine bH.mk (by rw[show(pD l).length=l.length from lC];omega) fun _=>?_;rw[c];rcases k with _|k
 ·exact⟨fun h=>by omega,fun _=>by rw[<-hd];rfl⟩
 simp only[show((k+1:Nat):Int)-1=(k:Int) by omega,Int.toNat_natCast];simp only[H9]at hd;refine⟨fun h=>⟨by decide +kernel,CO fun _=>bH.mk (fun _=>by omega) fun _=>bH.mk (fun _=>by omega) fun _=>⟨fun a=>?_,fun a=>?_⟩⟩,fun h=>?_⟩
 ·simp only[Yi]at a;rw[aB h,aB a]at hd;refine CO fun _=>bH.mk (fun _=>by omega) fun _=>⟨fun he=>?_,fun he=>?_⟩
  ·simp only[Yi]at he;rw[aB (by omega)]at hd;rw[hd]
  simp only[Yi]at he;rw[aA (by omega)]at hd;rw[hd]
 ·simp only[Yi]at a;rw[aB h,aA (by intro f;rcases a with a|a;(rw[f.1]at a;cases a);exact a f.2)]at hd;refine CR fun _=>⟨⟨k,by omega,hd⟩,by simp only;omega,cG.refl _ _⟩
 rw[aA h]at hd;rw[hd]
noncomputable def wP:=gC fun((l,i):List Ev×Int)=>([.fs 8 (l.map jO),.i .i64 i],l.length<=1048576/\0<=i/\i<l.length,.i .i64 (lz l i.toNat i.toNat))
theorem vg{l:List Ev}{i:Int}:wP [.fs 8 (l.map jO),.i .i64 i]=some (ptr wP rfl (l,i)):=qK @mo
theorem Eo:fO Tryz.prog 125 wP:=gJ fun(l,i) hp=>by
 dsimp only at *;refine HF (rT.c vh.d) 58 [[0,1],[0,1,5],[0,1,5,18],[0,1,5],[0,1,5,46],[1,5,6],[5,56],[4],[4],[4]] Tryz.func125 [.tmp 4] (fun _=>false) [] [(4,[],[],.q1 0 (.q1 1 (.q1 2 (.q0 3 [3] (.de 4 (.q1 5 (.q1 6 (.q1 7 (qd (.q0 10 [10] (.q1 11 (.q1 12 (.q1 13 (.q1 14 (.q1 15 (.q1 16 (.q1 17 (.q1 19 (.q1 20 (.q1 21 (.q1 22 (.q0 18 [18] (.q0 23 [23] (.q1 24 (.q1 25 .fin)))))))))))))))))))) .fin)))))] ?_;simp only[↓XC,X1,seval,dB,nq,mv,jE,XR];obtain⟨d,c,f⟩:=hp;obtain⟨n,rfl⟩:=Int.eq_ofNat_of_zero_le c;simp only[Int.toNat_natCast];refine CR fun _=>?_;refine cF.of (ι:={k:Nat // k<=n/\lz l n k=lz l n n}) (fun x=>⟨[(0,.fs 8 (l.map jO)),(1,.i .i64 (n:Nat)),(5,.i .i64 ((x.1:Nat)-1:Int))],[]⟩) (fun x=>x.1) ⟨n,aN _,rfl⟩ (cG.refl _ _) ?_;rintro⟨k,e,hd⟩;simp only[↓XC,X1,seval,dB,nq,mv,jE,XR];rcases k with _|k
 ·exact bH.mk (fun h=>by omega) fun _=>⟨fun h=>by simp at h,fun _=>by rw[<-hd];rfl⟩
 simp only[show((k+1:Nat):Int)-1=(k:Int) by omega,Int.toNat_natCast];simp only[lz]at hd;refine bH.mk (fun _=>by omega) fun _=>⟨fun h=>⟨by decide +kernel,CO fun _=>bH.mk (fun _=>by omega) fun _=>bH.mk (fun _=>by omega) fun _=>bH.mk (fun _=>by omega) fun _=>⟨fun a=>?_,fun a=>?_⟩⟩,fun h=>?_⟩
 ·simp only[Yi]at h;simp only[Yi]at a;rw[aA h.2,aB ⟨a.1.1,a.1.2,a.2⟩]at hd;rw[aB a.1.1];refine CO fun _=>⟨fun he=>?_,fun he=>?_⟩
  ·simp only[Yi]at he;rw[aB (by omega)]at hd;rw[hd]
  simp only[Yi]at he;rw[aA (by omega)]at hd;rw[hd]
 ·simp only[Yi]at h;simp only[Yi]at a;rw[aA h.2,aA (by intro b;rcases a with(a|a)|a;(rw[b.1]at a;cases a);exact b.2.1 a;exact a b.2.2)]at hd;refine CR fun _=>⟨⟨k,by omega,hd⟩,by simp only;omega,cG.refl _ _⟩
 simp only[Yi]at h;rw[aB (by omega)]at hd;rw[hd]
end Go.T
end
section
namespace Go.T
variable[Go.Vg.df]
open Go.Proofs Go.Vg Go.RowKit Go.TT Go.Pl
set_option maxRecDepth 10000
set_option maxHeartbeats 4000000
noncomputable def p3:=gC fun((l,a,at_):List Ev×Int×Int)=>([.agg [.fs 8 (l.map jO),.fs 1 ((mn l).map dC),.fs 1 ((HR l).map dC),.fs 1 ((pD l).map dC)],.i .i64 a,.i .i64 at_],l.length<=1048576/\eQ l=true,.b (Ul l a at_))
theorem qw{l:List Ev}{a at_:Int}:p3 [.agg [.fs 8 (l.map jO),.fs 1 ((mn l).map dC),.fs 1 ((HR l).map dC),.fs 1 ((pD l).map dC)],.i .i64 a,.i .i64 at_]=some (ptr p3 rfl (l,a,at_)):=qK (ai @mo @gT)
theorem ym:fO Tryz.prog 180 p3:=gJ fun(l,a,at_) hp=>by dsimp only at *;refine HP (wW.c iL.d) 23 [[1,2,3],[2,3,7],[6]] Tryz.func180 [.tmp 6] ?_;simp only[↓XC,X1,seval,dB,wV,gv,jE,XR,XM];obtain⟨c,d⟩:=hp;have b:=Nn (l:=l) (i:=a);rw[show(if 0<=a/\a<l.length/\(l.getD a.toNat ec).kind=6 then lz l a.toNat a.toNat else -1)=Ia l a from rfl];exact bH.mk ⟨c,d⟩ fun _=>bH.mk (fun h=>⟨h,by rw[FJ];exact b⟩) fun _=>bH.mk (fun h=>⟨h,h,h⟩) fun _=>rfl
theorem fits(l:List Ev)(at_:Int)(st:List Int)(hp:l.length<=1048576/\eQ l=true):PF Tryz.prog 179 [.agg [.fs 8 (l.map jO),.fs 1 ((mn l).map dC),.fs 1 ((HR l).map dC),.fs 1 ((pD l).map dC)],.i .i64 at_,.fs 1 (st.map dC)] (.b (decide (Fit l at_ st))):=by
 refine HF (rY.c ym.d) 69 [[1,2,3],[1,2,3,18],[6],[1,2,3,19,20,21],[1,2,3,19,20,21,22],[1,2,3,7,8,19,20,21],[1,2,3,19,20,21,53],[6],[1,2,3,19,20,21],[1,2,3,9],[6]] Tryz.func179 [.tmp 6] (fun _=>false) [] [(6,[],[],.q1 1 (.q0 0 [0] (.de 2 (.q1 3 (.q1 4 (.q1 5 (.q1 7 (.q0 6 [6] (qd (.q0 10 [10] (.q1 11 (.q1 12 (.q1 13 (.q1 14 (.q1 15 (.q1 16 (.q1 18 (.q1 19 (.q1 20 (.q1 21 (.q1 23 (.q0 17 [17] (.q0 22 [22] (.de 24 (.q1 25 (.q1 26 (.q1 27 .fin))) .fin))))))))))))))))))))) .fin))),(10,[],[],qa (.q1 7 (.q1 9 (.q0 3 [3] (.q0 8 [8] (.de 10 (.q1 11 (.q1 12 .fin)) .fin))))))] ?_;simp only[↓XC,X1,seval,dB,nr,qw,jE,XR,XM];obtain⟨c,g⟩:=hp;refine bH.mk c fun _=>⟨fun h=>?_,fun h=>?_⟩
 ·have:¬Fit l at_ st:=fun b=>by have p:=b.1;have q:=b.2.1;simp only[aV,aY,aR,bD,aD,bA,aO,aE]at h;omega
  rw[aI this]
 have f:(0<=at_/\at_<l.length)/\st.length<=6:=by simp only[aV,aY,aR,bD,aD,bA,aO,aE]at h;omega
 refine cF.of (ι:={i:Nat // i<=st.length/\DG l st i}) (fun x=>⟨[(1,.i .i64 at_),(2,.fs 1 (st.map dC)),(3,.ptr 0 0 0),(19,.fs 1 (st.map dC)),(20,.i .i64 (st.length:Nat)),(21,.i .i64 (x.1:Nat))],[some (.gA false [.fs 8 (l.map jO),.fs 1 ((mn l).map dC),.fs 1 ((HR l).map dC),.fs 1 ((pD l).map dC)])]⟩) (fun x=>st.length-x.1) ⟨0,bF _,fun i h=>absurd h (aT _)⟩ (cG.refl _ _) ?_;rintro⟨i,r,a⟩;simp only[↓XC,X1,seval,dB,qw,nr,jE,XR,XM];rw[show((i:Int)-1).toNat=i-1 by omega,show((st.length:Int)-1).toNat=st.length-1 by omega];refine⟨fun k=>CO fun _=>⟨by decide +kernel,bH.mk c fun _=>bH.mk (fun h=>?_) fun _=>bH.mk (fun h=>?_) fun _=>bH.mk (fun h=>?_) fun _=>bH.mk (fun h=>⟨⟨h,h,h⟩,c,g⟩) fun _=>⟨fun h=>?_,fun h=>?_⟩⟩,fun j=>⟨by decide +kernel,bH.mk (fun h=>by simp only[aV,aY,aR,bD,aD,bA,aO,aE]at h;simp only[iU];omega) fun _=>bH.mk (fun h=>by simp only[aV,aY,aR,bD,aD,bA,aO,aE]at h;omega) fun _=>bH.mk (fun h=>⟨⟨h,h,h⟩,c,g⟩) fun _=>?_⟩⟩
 ·simp only[Bool.not_not,aV,aY,aR,bD,aD,bA,aO,aE]at h;omega
 ·simp only[aV,aY,aR,bD,aD,bA,aO,aE]at h;simp only[iU];omega
 ·simp only[aV,aY,aR,bD,aD,bA,aO,aE]at h;omega
 ·have:¬Fit l at_ st:=fun b=>by
   obtain⟨⟨s,t⟩,m,n⟩:=b.2.2.1 i (by omega);simp only[aV,aY,aR,bD,aD,bA,aO,aE]at h;rcases h with(h|h)|⟨h,e⟩
   ·omega
   ·exact h m
   rw[n (by omega)]at e;cases e
  rw[aI this]
 ·simp only[aV,aY,aR,bD,aD,bA,aO,aE]at h;exact CR fun _=>⟨⟨i+1,by omega,a.step (by omega) h.1.2 fun o=>h.2.resolve_left (by omega)⟩,by simp only;omega,(by first|exact cG.refl _ _|(simp only[aP,aQ];exact cG.refl _ _))⟩
 have d:i=st.length:=by omega
 subst d;congr 1;rw[bO,aE,aV,aE];exact⟨fun h=>⟨f.1,f.2,a,h.imp (fun h=>by omega) id⟩,fun h=>h.2.2.2.imp (fun h=>by omega) id⟩
noncomputable def KV:PE:=KS (fun(x:List Ev×Int×List Int)=>match x with|(l,at_,st)=>[.agg [.fs 8 (l.map jO),.fs 1 ((mn l).map dC),.fs 1 ((HR l).map dC),.fs 1 ((pD l).map dC)],.i .i64 at_,.fs 1 (st.map dC)]) (fun(x:List Ev×Int×List Int)=>match x with|(l,at_,st)=>l.length<=1048576/\eQ l=true) (fun(x:List Ev×Int×List Int)=>match x with|(l,at_,st)=>.b (decide (Fit l at_ st)))
theorem tS{l:List Ev}{at_:Int}{st:List Int}:KV [.agg [.fs 8 (l.map jO),.fs 1 ((mn l).map dC),.fs 1 ((HR l).map dC),.fs 1 ((pD l).map dC)],.i .i64 at_,.fs 1 (st.map dC)]=some (l.length<=1048576/\eQ l=true,.b (decide (Fit l at_ st))):=tB (by rintro⟨a0,a,a2⟩ ⟨b,c,d⟩ h;simp_all[mo,gT]) (l,at_,st)
theorem II:fO Tryz.prog 179 KV:=OO (by rintro⟨l,at_,st⟩ hp;exact fits l at_ st hp)
end Go.T
end
section
namespace Go.T
variable[Go.Vg.df][Go.Vg.cS 0 1]
open Go.Proofs Go.Vg Go.RowKit Go.TT Go.Pl
set_option maxRecDepth 10000
set_option maxHeartbeats 4000000
theorem Jb(a:Cu)(hp:a.tx.length<=1048576/\a.st.length<=1048576/\a.ms.length<=1048576/\∀m∈a.ms,m.st.length<=1048576):gQ Tryz.prog 96 0 [.agg [.s a.tx,.i .i64 a.place,.fs 1 (a.st.map dC),.fs 3 (a.ms.map kD),.i .i64 a.la]] [] (fun z c=>z=.fJ [.ptr 0 0 0,.b (decide (sH (xU a.tx) a))]/\c=[some (.gA false [.fs 8 ((xU a.tx).map jO),.fs 1 ((mn (xU a.tx)).map dC),.fs 1 ((HR (xU a.tx)).map dC),.fs 1 ((pD (xU a.tx)).map dC),.s a.tx,.i .i64 a.place,.fs 1 (a.st.map dC),.fs 3 (a.ms.map kD),.i .i64 a.la])]):=by
 refine l5 (BL.c (Et.c (wF.c (II.c iL.d)))) 71 [[1],[1,4],[1,4,37],[2,3],[1,4,5],[1,4,5,40,41,42],[1,4,5,40,41,42,43],[1,4,5,7,40,41,42],[1,4,7,40,41,42,65],[2,3],[1,4,5,40,41,42],[1,4,5,40,41,42],[2,3]] Tryz.func96 [.tmp 2,.tmp 3] (fun _=>false) [] [(1,[],[],.g (.q1 0 (.q0 1 [1] (.q0 4 [4] (.de 2 (.de 3 (.de 5 (.q1 6 (.de 7 (.q1 8 .fin) .fin)) .fin) .fin) .fin))))),(2,[],[],.q1 0 (.q1 1 (.q1 2 (.q1 4 (.q1 6 (.q0 3 [3] (.q0 5 [5] (.q0 7 [7] (.de 8 (.q1 9 (.q1 10 (.q1 11 (.q0 12 [12] (.de 13 (.q1 14 (.q1 15 (.q1 16 (.q1 17 (.q0 18 [18] (.q1 19 (.q1 20 (.q1 21 .fin)))))))) .fin))))) .fin))))))))),(8,[],[],.q1 0 (.q1 2 (.q1 3 (.q1 4 (.q0 1 [1] (.q0 5 [5] (.de 6 (.q1 7 (qd (.q1 10 (.q1 11 (.q1 13 (.q1 15 (.q0 12 [12] (.q0 14 [14] (.q0 16 [16] (.de 17 (.q1 18 (.q1 19 .fin)) .fin)))))))))) .fin)))))))] ?_;simp only[↓XC,X1,seval,dB,BK,Es,wE,tS,gv,jE,XR,XM,uB];obtain⟨q,p,hm,f⟩:=hp;have g:=OZ (s:=a.tx);have n:=K1 a.tx;obtain⟨G,l⟩:∃G,G=xU a.tx:=⟨_,rfl⟩
 rw[<-l]at g n;rw[<-l];have k:=g.nd;refine⟨by decide +kernel,bH.mk q fun _=>bH.mk ⟨by omega,k⟩ fun _=>bH.mk ⟨p,hm,f⟩ fun _=>⟨by decide +kernel,bH.mk ⟨by omega,k⟩ fun _=>⟨fun h=>?_,fun h=>?_⟩⟩⟩
 ·have:¬sH G a:=fun⟨r,u,v,_⟩=>by
   simp only[aV,aY,aR,bD,aD,bA,aO,aE]at h;rcases h with(h|h)|h
   ·exact h r
   ·omega
   omega
  rw[aI this];exact⟨[1],by decide,by simp only[Yd];exact aM (by simp[Yf]),by simp only[↓XC,X1,seval];try simp[Yf],by simp[da,SO.ro,YC],by simp⟩
 have j:Fit G a.place a.st/\(0<=a.la/\a.la<=4294967295)/\a.ms.length<=10:=by simp only[aV,aY,aR,bD,aD,bA,aO,aE]at h;exact⟨h.1.1,h.1.2,by omega⟩
 refine cF.of (ι:={i:Nat // i<=a.ms.length/\x9 G a i}) (fun x=>⟨[(1,.ptr 0 0 0),(4,.ptr 1 0 0),(5,.i .i64 (qt a.ms x.1)),(40,.fs 3 (a.ms.map kD)),(41,.i .i64 (a.ms.length:Nat)),(42,.i .i64 (x.1:Nat))],[some (.gA false [.s a.tx,.i .i64 a.place,.fs 1 (a.st.map dC),.fs 3 (a.ms.map kD),.i .i64 a.la]),some (.gA false [.fs 8 ((G).map jO),.fs 1 ((mn (G)).map dC),.fs 1 ((HR (G)).map dC),.fs 1 ((pD (G)).map dC),.s a.tx,.i .i64 a.place,.fs 1 (a.st.map dC),.fs 3 (a.ms.map kD),.i .i64 a.la])]⟩) (fun x=>a.ms.length-x.1) ⟨0,bF _,fun i h=>absurd h (aT _)⟩ (cG.refl _ _) ?_;rintro⟨i,t,b⟩;simp only[↓XC,X1,seval,dB,tS,gv,jE,XR,XM,uB];refine⟨fun h=>CO fun _=>?_,fun h=>?_⟩
 ·have d:i<a.ms.length:=by omega
  have hm:=f _ (kW (z:=nB) d);rw[uh d];simp only[↓XC,X1,seval,dB,tS,gv,jE,XR,XM,uB];have g1:=b.pos;have g2:=b.le j.2.1.1;refine⟨by decide +kernel,CR fun _=>bH.mk (fun h=>⟨⟨h,h,h⟩,by omega,k⟩) fun _=>⟨fun h=>?_,fun h=>?_⟩⟩
  ·have:¬sH G a:=fun o=>by have e:=o.2.2.2 i d;rw[aJ e.1.1,aJ e.1.2,aJ e.2]at h;cases h
   rw[aI this];exact⟨[1],by decide,by simp only[Yd];exact aM (by simp[Yf]),by simp only[↓XC,X1,seval];try simp[Yf],by simp[da,SO.ro,YC],by simp⟩
  simp only[aV,aY,aR,bD,aD,bA,aO,aE]at h;refine CR fun _=>⟨⟨i+1,by omega,b.step h.1 h.2⟩,by simp only;omega, ?_⟩
  simp only[Ik,aP,aQ];exact(cG.cT [0,1] (by decide) (by simp only[Yd];exact⟨aM (by simp[Yf]),aM (by simp[Yf])⟩) (by simp[bC,Vg.look,SV.bP,dX]))
 obtain rfl:i=a.ms.length:=by omega
 rw[aJ (show sH G a from⟨j.1,j.2.1,j.2.2,b⟩)];exact⟨[1],by decide,by simp only[Yd];exact aM (by simp[Yf]),by simp only[↓XC,X1,seval];try simp[Yf],by simp[da,SO.ro,YC],by simp⟩
end Go.T
end
section
namespace Go.T
variable[Go.Vg.df]
open Go.Proofs Go.Vg Go.RowKit Go.TT Go.Pl
set_option maxRecDepth 10000
set_option maxHeartbeats 4000000
noncomputable def tZ:=gC fun((l,at_,st):List Ev×Int×List Int)=>([.fs 8 (l.map jO),.i .i64 at_,.fs 1 (st.map dC)],l.length<=1048576/\eQ l=true/\nW l=true,.b (decide (Fit l at_ st)))
theorem oD{l:List Ev}{at_:Int}{st:List Int}:tZ [.fs 8 (l.map jO),.i .i64 at_,.fs 1 (st.map dC)]=some (ptr tZ rfl (l,at_,st)):=qK (ai @mo @gT)
theorem BW:fO Tryz.prog 79 tZ:=gJ fun(l,at_,st) hp=>by
 dsimp only at *;refine HP (Eo.c vh.d) 64 [[0,1,2],[0,1,2,23],[6],[0,1,2,7],[0,1,2,7,8],[0,1,7,8,27,28,29],[0,1,7,8,27,28,29,30],[0,1,7,8,10,27,28,29],[0,1,10,27,28,29,48],[6],[0,1,7,27,28,29],[0,1,7,8,27,28,29],[0,1,7,8,27,28,29],[6]] Tryz.func79 [.tmp 6] ?_;simp only[↓XC,X1,seval,dB,vg,mv,jE,XR,XM];obtain⟨j,e,f⟩:=hp;have s:=tz e;refine⟨fun h=>?_,fun h=>CR fun _=>?_⟩
 ·have:¬Fit l at_ st:=fun g=>by have t:=g.1;have u:=g.2.1;simp only[aV,aY,aR,bD,aD,bA,aO,aE]at h;omega
  rw[aI this]
 have k:(0<=at_/\at_<l.length)/\st.length<=6:=by simp only[aV,aY,aR,bD,aD,bA,aO,aE]at h;omega
 refine cF.of (ι:={i:Nat // i<=st.length/\DG l st i}) (fun x=>⟨[(0,.fs 8 (l.map jO)),(1,.i .i64 at_),(7,.i .i64 (Q7 l st x.1)),(8,.i .i64 (Sh l st x.1)),(27,.fs 1 (st.map dC)),(28,.i .i64 (st.length:Nat)),(29,.i .i64 (x.1:Nat))],[]⟩) (fun x=>st.length-x.1) ⟨0,bF _,fun i h=>absurd h (aT _)⟩ (cG.refl _ _) ?_;rintro⟨i,v,b⟩;simp only[↓XC,X1,seval,dB,vg,mv,jE,XR,XM];have d:=NM e f b (a:=st.getD i 0);have w:=Ss e f b;refine⟨fun n=>CO fun _=>bH.mk (fun h=>?_) fun _=>⟨fun h=>?_,fun h=>?_⟩,fun m=>?_⟩
 ·simp only[aR,aV,aY,aR,bD,aD,bA,aO,aE]at h;omega
 ·have:¬Fit l at_ st:=fun g=>by
   obtain⟨o,p,q⟩:=g.2.2.1 i (by omega);have c:=d.2 ⟨o,q⟩;simp only[aV,aY,aR,bD,aD,bA,aO,aE]at h;rcases h with(h|h)|h
   ·omega
   ·omega
   exact h p
  rw[aI this]
 ·simp only[aV,aY,aR,bD,aD,bA,aO,aE]at h;have c:=d.1 ⟨by omega,by omega⟩;have r:=A2 f (i:=(st.getD i 0).toNat) (by omega) h.2;have y:=yw (l:=l) (i:=(st.getD i 0).toNat) (st.getD i 0).toNat;refine bH.mk ⟨j,c.1⟩ fun _=>bH.mk ⟨j,r,by omega⟩ fun _=>CR fun _=>⟨⟨i+1,by omega,b.step c.1 h.2 c.2⟩,by simp only;omega, ?_⟩
  simp only[NZ c.1 h.2,NG e f c.1 h.2,aP,aQ];exact cG.refl _ _
 obtain rfl:i=st.length:=by omega
 congr 1;rw[bO,aD,aE,aE,aE];exact QO e f k.2 b
end Go.T
end
