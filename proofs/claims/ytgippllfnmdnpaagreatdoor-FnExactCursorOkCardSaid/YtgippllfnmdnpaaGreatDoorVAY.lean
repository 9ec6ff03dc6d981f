/- Own text: part VAY. -/
import Derived.Test.YtgippllfnmdnpaaGreatDoorVAX
set_option linter.all false
section
namespace Go.T
variable[Go.Vg.df][Go.Vg.cS 0 1]
open Go.Proofs Go.Vg Go.RowKit Go.TT Go.Pl
set_option maxRecDepth 10000
set_option maxHeartbeats 4000000
noncomputable def oy:=gC fun((s,p):Bs×Int)=>([.s s,.i .i64 p],s.length<=1048576,.fJ [.s (ny s (spot s p)).1,.i .i64 ((ny s (spot s p)).2.1:Nat),.i .i64 (ny s (spot s p)).2.2])
theorem pb{s:Bs}{p:Int}:oy [.s s,.i .i64 p]=some (ptr oy rfl (s,p)):=iZ
theorem pc:fO Tryz.prog 192 oy:=gJ fun(s,p) hp=>by
 dsimp only at *;refine HF (eh.c (dv.c jo.d)) 79 [[0,1],[0,1],[0,1,15],[4,5,6],[0,7],[0,7,28],[0,7,8],[0,7],[0,7,8,44],[0,7,49],[4,5,6],[0,7,8,54],[0,7],[0,7,8,69],[4,5,6],[4,5,6]] Tryz.func192 [.tmp 4,.tmp 5,.tmp 6] (fun _=>false) [] [(10,[],[],.q1 0 (.q1 1 (.q1 2 (.q1 4 (.q0 3 [3] (.q1 5 (.q1 6 .fin))))))),(7,[],[],.q1 0 (.q1 1 (.q1 4 (.q1 5 (.de 2 (.de 3 (.seq [6,7,8]) (.de 6 (.de 3 (.seq [7,8]) (.de 7 (.seq [3,8]) .fin)) .fin)) (.de 6 (.de 2 (.de 3 (.seq [7,8]) (.de 7 (.seq [3,8]) .fin)) (.de 7 (.seq [2,3,8]) .fin)) .fin))))))] ?_;simp only[↓XC,X1,seval,dB,eg,bL,dL,nX,XR];have G:=dW s p;rw[bQ s G];refine bH.mk hp fun _=>⟨fun h=>?_,fun h=>CR fun _=>?_⟩
 ·rw[show ny s (spot s p)=([],spot s p,10) by unfold ny;rw[aA (by simp only[Yi]at h;omega)]]
 have F:bW s (spot s p)=39:=by simp only[Yi]at h;omega
 have O:spot s p<s.length:=by
  rcases aU (spot s p) s.length with o|o
  ·exact o
  rw[eZ o]at F;omega
 refine cF.of (ι:={x:Nat×List Pc×Bs×Nat // x.1<=s.length/\x.2.2.1.length+mm x.2.1<=1*x.1/\x.2.2.2<=x.2.2.1.length/\sO s x.1 x.2.1 x.2.2.1=ny s (spot s p)/\x.2.2.2=0}) (fun x=>⟨[(0,.s s),(7,.ptr 0 0 0)],[some (.gA false [.s s,.i .i64 ((x.1.1:Nat)),.ew 1 0 (x.1.2.1).length,.s (x.1.2.2.1),.i .i64 (((jl x.1.2.2.2 x.1.2.2.1).length:Nat))]),some (.row false 2 (x.1.2.1).length (bT mb iH (x.1.2.1)))]⟩) (fun x=>s.length-x.1.1) ⟨(spot s p+1,[],[],0),by simp only;omega,by simp[mm],bF _,by unfold ny;rw[aB F],rfl⟩ (cG.nl (d:=[some (.gA false [.s s,.i .i64 ((spot s p:Nat)+1),.ew 1 0 0,.s [],.i .i64 0])]) [(2,bT mb iH [])] (by simp[Od,E3,Vg.look]) (by simp[L7,MI,L8,E3,ra])) ?_;rintro⟨⟨i,L,cur,k⟩,H,I,o,g,t⟩;simp only[↓XC,X1,seval,dB,bL,dL,nX,XR];simp only at H I o g t;have T:=pS L;have y:=mO k cur;refine⟨fun z=>CO fun _=>?_,fun z=>?_⟩
 ·have b:i<s.length:=by omega
  have l:=cW b;rw[<-l];have e:bW s (spot s ((i:Int)+1))=bW s (i+1):=by rw[j0 (by omega)];rfl
  rw[e];refine⟨fun a=>?_,fun a=>bH.mk (fun _=>by simp only[iU];omega) fun _=>bH.mk (fun h=>⟨⟨h,h⟩,hp⟩) fun _=>⟨fun m=>?_,fun m=>⟨fun u=>?_,fun u=>?_⟩⟩⟩
  ·refine eS.K6 (O1 s i L cur (jl k cur).length false ⟨hp,b,y,by omega,by omega⟩) [0,1] (by simp[Yf]) (by simp only[Ye];exact⟨by omega,aM (by simp[Yf]),by omega,aF fun _=>rfl⟩) (by decide) (by simp[da,SO.ro,YC]) (by decide) (by simp[iI,lh,jw,kQ,ma,SO.ro,fF,YC]) ?_;simp only[↓XC,X1,seval,dB,bL,dL,nX,XR,XM];subst t;by_cases hm:ib s (i+1)=0
   ·simp only[hm,eE,dQ,bU,ei,cP,eV,dy];have w:=Cg 0 cur;have D:=gO s (i+1) b;have R:=gY s (i+1);rw[w];exact⟨⟨(wh s (i+1),L++[⟨jl 0 cur,false⟩],[],0),D,by simp only[gh,jc,aL];omega,aN _,by simp only;rw[<-Pm b a hm];exact g,rfl⟩,by simp only;omega,(cG.cT [0,1] (by decide) (by simp only[Yd];exact⟨aM (by simp[Yf,ra]),jC (by simp) fun j A=>rfl⟩) (by simp[bC,Vg.look,SV.bP,dX]))⟩
   simp only[hm,dS,ej,fL,ei,dD,eV,bG];refine⟨by decide +kernel, ?_⟩;rw[<-g,Pk b a hm]
  ·refine eS.K6 (Ry s i L cur (jl k cur).length [39] 2 true ⟨by omega,by simp,by omega,by omega,by omega⟩) [0,1] (by simp[Yf]) (by simp only[Ye];exact⟨by omega,aM (by simp[Yf]),by omega,aF fun _=>rfl⟩) (by decide) (by simp[da,SO.ro,YC]) (by decide) (by simp[iI,lh,jw,kQ,ma,SO.ro,fF,YC]) ?_;simp only[↓XC,X1,seval,dB,bL,dL,nX,XR,XM];have f:bW s i=39/\bW s (i+1)=39:=by simpa using m
   have N:i+1<s.length:=by
    rcases aU (i+1) s.length with v|v
    ·exact v
    rw[eZ v]at f;omega
   have M:jl k (cur++[39])=cur++[39]:=za (by decide);exact⟨⟨(i+2,L,cur++[39],k),by simp only;omega,by simp only[aC,aH];omega,by simp only[aC,aH];omega,by simp only;rw[<-Pn b f.1 f.2];exact g,t⟩,by simp only;omega,(cG.cT [0,1] (by decide) (by simp only[Yd];exact⟨aM (by simp[Yf,M]),jC (by simp) fun j A=>rfl⟩) (by simp[bC,Vg.look,SV.bP,dX]))⟩
  ·refine eS.K6 (SI s i L cur (jl k cur).length ⟨by omega,by omega⟩) [0,1] (by simp[Yf]) (by simp only[Ye];exact⟨by omega,aM (by simp[Yf]),by omega,aF fun _=>rfl⟩) (by decide) (by simp[da,SO.ro,YC]) (by decide) (by simp[iI,lh,jw,kQ,ma,SO.ro,fF,YC]) ?_;simp only[↓XC,X1,seval,dB,bL,dL,nX,XR,XM];have Q:¬bW s (i+1)=39:=by intro r;simp[u,r]at m
   rw[<-g,SP b u Q];rfl
  refine⟨by decide +kernel,bH.mk (by have:=mC s i;simp only[iU];omega) fun _=>?_⟩;have B:qH ((fF [SV.i .u8 (bW s i)] 1 0).getD 0 .u)=true:=by rfl
  have J:∀j,j<1->qH ((fF [SV.i .u8 (bW s i)] 1 j).getD 0 .u)=true:=by
   intro j A;obtain rfl:j=0:=by omega
   exact B
  simp only[Tu];have C:(!(bW s i==32||bW s i==9))=false->(s.getD i 0=32\/s.getD i 0=9):=fun hw=>by have e:=jW (c:=s.getD i 0) (n:=32) (by decide);have q:=jW (c:=s.getD i 0) (n:=9) (by decide);simp only[dM]at e q;rw[l]at hw;simp only[bD,aV,dx,e,q]at hw;exact hw
  have E:(!(bW s i==32||bW s i==9))=true->¬(s.getD i 0=32\/s.getD i 0=9):=fun hw=>by
   have e:=jW (c:=s.getD i 0) (n:=32) (by decide);have q:=jW (c:=s.getD i 0) (n:=9) (by decide);simp only[dM]at e q;rw[l]at hw;simp only[aR,aY,gS,ne_eq,e,q]at hw;rintro(r|r)
   ·exact hw.1 r
   exact hw.2 r
  have hlen:((if(!(bW s i==32||bW s i==9))=true then cur.length+1 else(jl k cur).length:Nat):Int)=((jl k (cur++[s.getD i 0])).length:Nat):=by
   cases hw:(!(bW s i==32||bW s i==9))
   ·rw[zb o (C hw)];rfl
   rw[za (E hw)];simp
  have S:∀{P:Program} {kk:Nat} {st:St} {K:Sl (SV×St)},True:=fun{_ _ _ _}=>trivial
  repeat' (with_reducible refine And.intro ?_ ?_)
  all_goals first
   |exact J
   |(
     refine eS.K6 (Ry s i L cur (jl k cur).length [s.getD i 0] 1 (!(bW s i==32||bW s i==9)) ⟨by omega,by simp,by omega,by omega,by omega⟩) [0,1] (by simp[Yf]) (by simp only[Ye];exact⟨by omega,aM (by simp[Yf]),by omega,aF fun _=>rfl⟩) (by decide) (by simp[da,SO.ro,YC]) (by decide) (by simp[iI,lh,jw,kQ,ma,SO.ro,fF,YC]) ?_;simp only[↓XC,X1,seval,dB,bL,dL,nX,XR,XM];rw[hlen];exact⟨⟨(i+1,L,cur++[s.getD i 0],k),by simp only;omega,by simp only[aC,aH];omega,by simp only[aC,aH];omega,by simp only;rw[<-SN b a u];exact g,t⟩,by simp only;omega,(cG.cT [0,1] (by decide) (by simp only[Yd];exact⟨aM (by simp[Yf]),jC (by simp) fun j A=>rfl⟩) (by simp[bC,Vg.look,SV.bP,dX]))⟩)
 rw[<-g,Ll (by omega)]
noncomputable def n7:=gC fun((s,p):Bs×Int)=>([.s s,.i .i64 p],s.length<=1048576,.fJ [.s (nC s (spot s p)).1,.i .i64 ((nC s (spot s p)).2.1:Nat),.i .i64 (nC s (spot s p)).2.2])
theorem o4{s:Bs}{p:Int}:n7 [.s s,.i .i64 p]=some (ptr n7 rfl (s,p)):=iZ
theorem o5:fO Tryz.prog 193 n7:=gJ fun(s,p) hp=>by
 dsimp only at *;refine HF (eh.c (dv.c (wk.c jo.d))) 118 [[0,1],[0,1],[0,1,18],[4,5,6],[0,7],[0,7,31],[0,7,8],[0,7,8,9],[0,7],[0,7,8,9,59],[0,7,9,65],[0,7,9],[0,7,76],[4,5,6],[0,7,8,81],[0,7,10,11],[0,7,10,11,94],[4,5,6],[0,7],[0,7,8,108],[4,5,6],[4,5,6]] Tryz.func193 [.tmp 4,.tmp 5,.tmp 6] (fun _=>false) [] [(13,[],[],.q1 0 (.q1 1 (.q1 2 (.q1 4 (.q0 3 [3] (.q1 5 (.q1 6 .fin))))))),(17,[],[],.q1 0 (.q1 1 (.q1 2 (.q1 4 (.q0 3 [3] (.q1 5 (.q1 6 .fin))))))),(8,[],[],.q1 0 (.q1 1 (.q1 4 (.q1 5 (.de 2 (.de 3 (.seq [6,7,8]) (.de 6 (.de 3 (.seq [7,8]) (.de 7 (.seq [3,8]) .fin)) .fin)) (.de 6 (.de 2 (.de 3 (.seq [7,8]) (.de 7 (.seq [3,8]) .fin)) (.de 7 (.seq [2,3,8]) .fin)) .fin))))))] ?_;simp only[↓XC,X1,seval,dB,eg,bL,o7,dL,nX,XR];have R:=dW s p;rw[bQ s R];refine bH.mk hp fun _=>⟨fun h=>?_,fun h=>CR fun _=>?_⟩
 ·rw[show nC s (spot s p)=([],spot s p,10) by unfold nC;rw[aA (by simp only[Yi]at h;omega)]]
 have O:bW s (spot s p)=34:=by simp only[Yi]at h;omega
 have W:spot s p<s.length:=by
  rcases aU (spot s p) s.length with q|q
  ·exact q
  rw[eZ q]at O;omega
 refine cF.of (ι:={x:Nat×List Pc×Bs×Nat // x.1<=s.length/\x.2.2.1.length+mm x.2.1<=2*x.1/\x.2.2.2<=x.2.2.1.length/\oT s x.1 x.2.1 x.2.2.1 x.2.2.2=nC s (spot s p)}) (fun x=>⟨[(0,.s s),(7,.ptr 0 0 0)],[some (.gA false [.s s,.i .i64 ((x.1.1:Nat)),.ew 1 0 (x.1.2.1).length,.s (x.1.2.2.1),.i .i64 (((jl x.1.2.2.2 x.1.2.2.1).length:Nat))]),some (.row false 2 (x.1.2.1).length (bT mb iH (x.1.2.1)))]⟩) (fun x=>s.length-x.1.1) ⟨(spot s p+1,[],[],0),by simp only;omega,by simp[mm],bF _,by unfold nC;rw[aB O]⟩ (cG.nl (d:=[some (.gA false [.s s,.i .i64 ((spot s p:Nat)+1),.ew 1 0 0,.s [],.i .i64 0])]) [(2,bT mb iH [])] (by simp[Od,E3,Vg.look]) (by simp[L7,MI,L8,E3,ra])) ?_;rintro⟨⟨i,L,cur,k⟩,N,S,q,f⟩;simp only[↓XC,X1,seval,dB,bL,dL,o7,nX,XR];simp only at N S q f;have X:=pS L;have y:=mO k cur;refine⟨fun F=>CO fun _=>?_,fun F=>?_⟩
 ·have e:i<s.length:=by omega
  have m:=cW e;rw[<-m];have l:bW s (spot s ((i:Int)+1))=bW s (i+1):=by rw[j0 (by omega)];rfl
  rw[l,bQ s N];refine bH.mk (fun _=>by simp only[iU];omega) fun _=>bH.mk (fun h=>⟨⟨h,h⟩,hp⟩) fun _=>⟨fun r=>⟨fun z=>CR fun _=>?_,fun z=>?_⟩,fun r=>⟨fun a=>bH.mk hp fun _=>⟨fun he=>?_,fun he=>bH.mk (by have:=zm s i;simp only[iU];omega) fun _=>?_⟩,fun a=>⟨fun I=>?_,fun I=>?_⟩⟩⟩
  ·rw[z];have b:bW s i=92/\bW s (i+1)=10:=by simpa using z
   have A:i+1<s.length:=by
    rcases aU (i+1) s.length with D|D
    ·exact D
    rw[eZ D]at b;omega
   refine eS.K6 (O1 s (i+1) L cur (jl k cur).length true ⟨hp,A,y,by omega,by omega⟩) [0,1] (by simp[Yf]) (by simp only[Ye];exact⟨by omega,aM (by simp[Yf]),by omega,aF fun _=>rfl⟩) (by decide) (by simp[da,SO.ro,YC]) (by decide) (by simp[iI,lh,jw,kQ,ma,SO.ro,fF,YC]) ?_;simp only[↓XC,X1,seval,dB,bL,dL,nX,XR,XM];by_cases hm:ib s (i+1+1)=0
   ·simp only[hm,eE,dQ,bU,ei,cP,eV,dy];have o:=gO s (i+1+1) A;have J:=gY s (i+1+1);exact⟨⟨(wh s (i+1+1),L++[⟨cur,true⟩],[],0),o,by simp only[gh,jc,aL];omega,aN _,by simp only;rw[<-Nb e b.1 b.2 hm];exact f⟩,by simp only;omega,(cG.cT [0,1] (by decide) (by simp only[Yd];exact⟨aM (by simp[Yf,ra]),jC (by simp) fun j C=>rfl⟩) (by simp[bC,Vg.look,SV.bP,dX]))⟩
   simp only[hm,dS,ej,fL,ei,dD,eV,bG];refine⟨by decide +kernel, ?_⟩;rw[<-f,Nc e b.1 b.2 hm]
  ·rw[z];have v:bW s i=10:=by rw[z]at r;simpa using r
   refine eS.K6 (O1 s i L cur (jl k cur).length false ⟨hp,e,y,by omega,by omega⟩) [0,1] (by simp[Yf]) (by simp only[Ye];exact⟨by omega,aM (by simp[Yf]),by omega,aF fun _=>rfl⟩) (by decide) (by simp[da,SO.ro,YC]) (by decide) (by simp[iI,lh,jw,kQ,ma,SO.ro,fF,YC]) ?_;simp only[↓XC,X1,seval,dB,bL,dL,nX,XR,XM];by_cases hm:ib s (i+1)=0
   ·simp only[hm,eE,dQ,bU,ei,cP,eV,dy,bG];have E:=Cg k cur;have o:=gO s (i+1) e;have J:=gY s (i+1);rw[E];exact⟨⟨(wh s (i+1),L++[⟨jl k cur,false⟩],[],0),o,by simp only[gh,jc,aL];omega,aN _,by simp only;rw[<-Ng e v hm];exact f⟩,by simp only;omega,(cG.cT [0,1] (by decide) (by simp only[Yd];exact⟨aM (by simp[Yf,ra]),jC (by simp) fun j C=>rfl⟩) (by simp[bC,Vg.look,SV.bP,dX]))⟩
   simp only[hm,dS,ej,fL,ei,dD,eV,bG];refine⟨by decide +kernel, ?_⟩;rw[<-f,Nf e v hm]
  ·have H:¬bW s (i+1)=10:=by intro g;simp[a,g]at r
   refine⟨by decide +kernel, ?_⟩;rw[<-f,M9 e a H (by omega)]
  ·have H:¬bW s (i+1)=10:=by intro g;simp[a,g]at r
   have V:=DS s i;have P:=DR s i;have Q:=zm s i;have w:=Na (L:=L) (cur:=cur) (k:=k) e a H (by omega);rw[f]at w;generalize nY s i=t at *;refine eS.K6 (Ry s i L cur (jl k cur).length t.1 ((t.2:Int)-i) true ⟨by omega,by omega,by omega,by omega,by omega⟩) [0,1] (by simp[Yf]) (by simp only[Ye];exact⟨by omega,aM (by simp[Yf]),by omega,aF fun _=>rfl⟩) (by decide) (by simp[da,SO.ro,YC]) (by decide) (by simp[iI,lh,jw,kQ,ma,SO.ro,fF,YC]) ?_;simp only[↓XC,X1,seval,dB,bL,dL,nX,XR,XM];have U:jl (cur.length+t.1.length) (cur++t.1)=cur++t.1:=by rw[<-aC];exact FD _
   rw[show(i:Int)+((t.2:Int)-i)=(t.2:Int) by omega];exact⟨⟨(t.2,L,cur++t.1,(cur++t.1).length),by simp only;omega,by simp only[aC];omega,aN _,w.symm⟩,by simp only;omega,(cG.cT [0,1] (by decide) (by simp only[Yd];exact⟨aM (by simp[Yf,U]),jC (by simp) fun j C=>rfl⟩) (by simp[bC,Vg.look,SV.bP,dX]))⟩
  ·refine eS.K6 (SI s i L cur (jl k cur).length ⟨by omega,by omega⟩) [0,1] (by simp[Yf]) (by simp only[Ye];exact⟨by omega,aM (by simp[Yf]),by omega,aF fun _=>rfl⟩) (by decide) (by simp[da,SO.ro,YC]) (by decide) (by simp[iI,lh,jw,kQ,ma,SO.ro,fF,YC]) ?_;simp only[↓XC,X1,seval,dB,bL,dL,nX,XR,XM];rw[<-f,R1 e I];rfl
  have B:¬bW s i=10:=by intro g;simp[g]at r
  refine⟨by decide +kernel,bH.mk (by have:=mC s i;simp only[iU];omega) fun _=>?_⟩;have G:qH ((fF [SV.i .u8 (bW s i)] 1 0).getD 0 .u)=true:=by rfl
  have T:∀j,j<1->qH ((fF [SV.i .u8 (bW s i)] 1 j).getD 0 .u)=true:=by
   intro j C;obtain rfl:j=0:=by omega
   exact G
  simp only[Tu];have K:(!(bW s i==32||bW s i==9))=false->(s.getD i 0=32\/s.getD i 0=9):=fun hw=>by have l:=jW (c:=s.getD i 0) (n:=32) (by decide);have u:=jW (c:=s.getD i 0) (n:=9) (by decide);simp only[dM]at l u;rw[m]at hw;simp only[bD,aV,dx,l,u]at hw;exact hw
  have M:(!(bW s i==32||bW s i==9))=true->¬(s.getD i 0=32\/s.getD i 0=9):=fun hw=>by
   have l:=jW (c:=s.getD i 0) (n:=32) (by decide);have u:=jW (c:=s.getD i 0) (n:=9) (by decide);simp only[dM]at l u;rw[m]at hw;simp only[aR,aY,gS,ne_eq,l,u]at hw;rintro(g|g)
   ·exact hw.1 g
   exact hw.2 g
  have hlen:((if(!(bW s i==32||bW s i==9))=true then cur.length+1 else(jl k cur).length:Nat):Int)=((jl k (cur++[s.getD i 0])).length:Nat):=by
   cases hw:(!(bW s i==32||bW s i==9))
   ·rw[zb q (K hw)];rfl
   rw[za (M hw)];simp
  repeat' (with_reducible refine And.intro ?_ ?_)
  all_goals first
   |exact T
   |(
     refine eS.K6 (Ry s i L cur (jl k cur).length [s.getD i 0] 1 (!(bW s i==32||bW s i==9)) ⟨by omega,by simp,by omega,by omega,by omega⟩) [0,1] (by simp[Yf]) (by simp only[Ye];exact⟨by omega,aM (by simp[Yf]),by omega,aF fun _=>rfl⟩) (by decide) (by simp[da,SO.ro,YC]) (by decide) (by simp[iI,lh,jw,kQ,ma,SO.ro,fF,YC]) ?_;simp only[↓XC,X1,seval,dB,bL,dL,nX,XR,XM];rw[hlen];exact⟨⟨(i+1,L,cur++[s.getD i 0],k),by simp only;omega,by simp only[aC,aH];omega,by simp only[aC,aH];omega,by simp only;rw[<-R0 e B a I];exact f⟩,by simp only;omega,(cG.cT [0,1] (by decide) (by simp only[Yd];exact⟨aM (by simp[Yf]),jC (by simp) fun j C=>rfl⟩) (by simp[bC,Vg.look,SV.bP,dX]))⟩)
 rw[<-f,JC (by omega)]
noncomputable def oz:=gC fun((s,p):Bs×Int)=>([.s s,.i .i64 p],s.length<=1048576,.fJ [.s (ny s (spot s p)).1,.i .i64 ((ny s (spot s p)).2.1:Nat),.i .i64 (ny s (spot s p)).2.2])
theorem kf{s:Bs}{p:Int}:oz [.s s,.i .i64 p]=some (ptr oz rfl (s,p)):=iZ
theorem pd:fO Tryz.prog 291 oz:=gJ fun(s,p) hp=>by
 dsimp only at *;refine HP (eD.c (lF.c (xR.c (hO.c fN.d)))) 105 [[0,1],[0,1],[0,1,22],[4,5,6],[0,1,7],[0,1,7,8],[0,7,8,9],[0,7,8,9,31],[0,7,8,9],[0,7,8,9],[0,7,8,9,40],[0,7,8,9],[0,7,8,9],[0,7,8,9,64],[7,9],[4,5,6],[0,7,8,9,79],[0,7,9],[0,7,8,9],[0,7,8,9,95],[4,5,6],[0,7,8,9],[4,5,6]] Tryz.func291 [.tmp 4,.tmp 5,.tmp 6] ?_;simp only[↓XC,X1,seval,dB,eB,ek,j3,cy,cO,nX,XR];have J:=dW s p;refine bH.mk (fun h=>by simp only[Yi]at h;omega) fun _=>⟨fun h=>?_,fun h=>CR fun _=>?_⟩
 ·have w:¬bW s (spot s p)=39:=by
   intro n;have G:spot s p<s.length:=by
    rcases aU (spot s p) s.length with f|f
    ·exact f
    rw[eZ f]at n;omega
   rw[cW G]at n;simp only[Yi]at h;omega
  rw[show ny s (spot s p)=([],spot s p,10) by unfold ny;rw[aA w]]
 have v:spot s p<s.length:=by simp only[Yi]at h;omega
 have n:bW s (spot s p)=39:=by rw[cW v];simp only[Yi]at h;omega
 refine cF.of (ι:={x:Nat×List Pc×Bs×Nat // x.1<=s.length/\x.2.2.1.length+mm x.2.1<=1*x.1/\x.2.2.2<=x.2.2.1.length/\sO s x.1 x.2.1 x.2.2.1=ny s (spot s p)/\x.2.2.2=0}) (fun x=>⟨[(0,.s s),(7,.ew 0 0 x.1.2.1.length),(8,.ew 1 0 x.1.2.2.1.length),(9,.i .i64 (x.1.1:Nat))],[some (.row false 2 x.1.2.1.length (bT mb iH x.1.2.1)),some (.row false 1 x.1.2.2.1.length (bT l8 0 x.1.2.2.1))]⟩) (fun x=>s.length-x.1.1) ⟨(spot s p+1,[],[],0),by simp only;omega,by simp[mm],bF _,by unfold ny;rw[aB n],rfl⟩ (by simp only[aP,aQ];exact(cG.cT [0,1] (by decide) (by simp only[Yd];exact⟨bM fun j m=>absurd m (aT _),bM fun j m=>absurd m (aT _)⟩) (by simp[bC,Vg.look,SV.bP,dX]))) ?_;rintro⟨⟨i,L,cur,k⟩,D,E,f,c,q⟩;simp only[↓XC,X1,seval,dB,ek,j3,cy,cO,nX,XR];simp only at D E f c q;have K:=pS L;have C:((i:Int)+1).toNat=i+1:=by omega
 rw[C];refine⟨fun u=>CO fun _=>?_,fun u=>?_⟩
 ·have d:i<s.length:=by omega
  have l:=cW d;rw[<-l];refine bH.mk (fun _=>by simp only[iU];omega) fun _=>bH.mk (fun h=>by simp only[iU];omega) fun _=>bH.mk (fun h=>by simp only[Yi]at h;omega) fun _=>⟨fun a=>?_,fun a=>CO fun _=>⟨fun o=>?_,fun o=>CO fun _=>⟨fun b=>?_,fun b=>CO fun _=>?_⟩⟩⟩
  ·have g:bW s i=39/\bW s (i+1)=39/\i+1<s.length:=by simp only[Yi]at a;exact⟨a.1.1,by rw[cW (by omega)];exact a.2,by omega⟩
   refine⟨dz rfl rfl,CO fun _=>CR fun _=>CR fun _=>?_⟩;exact⟨⟨(i+2,L,cur++[39],k),by simp only;omega,by simp only[aC,aH];omega,by simp only[aC,aH];omega,by simp only;rw[<-Pn d g.1 g.2.1];exact c,q⟩,by simp only;omega,(by first|exact cG.cT [0,3] (by decide) (by simp only[Yd];exact⟨aF fun _=>rfl,fY (enc:=l8) (z:=0) (xs:=cur) (y:=39) (sz:=1) (fun _=>rfl) rfl (fun _ _=>rfl) rfl⟩) (by simp[bC,Vg.look,SV.bP,dX];try omega))⟩
  ·have w:¬bW s (i+1)=39:=by
    intro B;have t:i+1<s.length:=by
     rcases aU (i+1) s.length with r|r
     ·exact r
     rw[eZ r]at B;omega
    rw[cW t]at B;simp only[o,B,show(i:Int)+1<s.length by omega,eE,Bool.and_self,fL]at a
   refine⟨fun j _=>rfl,bH.mk (aN _) fun _=>⟨dz rfl rfl,CO fun _=>?_⟩⟩;rw[s0];have e:jd (lm L.length (fun j=>[SV.s (L.getD j iH).text,SV.b (L.getD j iH).glue]) fun j=>fF [SV.s cur,SV.b false] 2 j) 0 (L.length+1)=(L++[(⟨cur,false⟩:Pc)]).map mb:=oL iH L ⟨cur,false⟩ 2 (fun _ _=>rfl) rfl rfl;rw[e];simp only[↓XC,X1,seval,dB,ek,nX,XR];refine bH.mk ⟨⟨aN _,tb (enc:=mb) iH L ⟨cur,false⟩ 2 (fun _=>rfl) (fun _ _=>rfl) rfl fun _=>rfl⟩,by rw[gh,jc];show mm L+(cur.length+1)<=16777216;omega⟩ fun _=>CR fun _=>?_;rw[<-c,SP d o w];rfl
  ·rw[et rfl];simp only[↓XC,X1,seval,dB,ek,j3,cy,cO,nX,XR];have H:spot s ((i:Int)+1)=i+1:=by unfold spot;omega
   rw[H];have A:=gO s (i+1) d;have I:=gY s (i+1);have F:=mO 0 cur;have M:=kJ s (i+1);refine bH.mk ⟨aN _,by omega⟩ fun _=>⟨dz rfl rfl,CO fun _=>CR fun _=>bH.mk hp fun _=>⟨fun hm=>CR fun _=>?_,fun hm=>CR fun _=>bH.mk hp fun _=>CR fun _=>CR fun _=>?_⟩⟩
   ·rw[<-c,Pk d b (by omega)];rfl
   rw[show(((wh s (i+1):Nat):Int)-1+1)=((wh s (i+1):Nat):Int) by omega];exact⟨⟨(wh s (i+1),L++[⟨jl 0 cur,false⟩],[],0),A,by simp only[gh,jc,aL];omega,aN _,by simp only;rw[<-Pm d b (by omega)];exact c,rfl⟩,by simp only;omega,(cG.cT [3,4] (by decide) (by simp only[Yd];exact⟨fY (enc:=mb) (z:=iH) (xs:=L) (y:=⟨jl 0 cur,false⟩) (sz:=2) (fun _=>rfl) rfl (fun _ _=>rfl) rfl,bM fun j m=>absurd m (aT _)⟩) (by simp[bC,Vg.look,SV.bP,dX]))⟩
  refine⟨dz rfl rfl,CO fun _=>CR fun _=>?_⟩;rw[l];exact⟨⟨(i+1,L,cur++[s.getD i 0],k),by simp only;omega,by simp only[aC,aH];omega,by simp only[aC,aH];omega,by simp only;rw[<-SN d b o];exact c,q⟩,by simp only;omega,(by first|exact cG.cT [0,3] (by decide) (by simp only[Yd];exact⟨aF fun _=>rfl,fY (enc:=l8) (z:=0) (xs:=cur) (y:=s.getD i 0) (sz:=1) (fun _=>rfl) rfl (fun _ _=>rfl) rfl⟩) (by simp[bC,Vg.look,SV.bP,dX];try omega))⟩
 rw[<-c,Ll (by omega)]
noncomputable def n8:=gC fun((s,p):Bs×Int)=>([.s s,.i .i64 p],s.length<=1048576,.fJ [.s (nC s (spot s p)).1,.i .i64 ((nC s (spot s p)).2.1:Nat),.i .i64 (nC s (spot s p)).2.2])
theorem jA{s:Bs}{p:Int}:n8 [.s s,.i .i64 p]=some (ptr n8 rfl (s,p)):=iZ
theorem o6:fO Tryz.prog 293 n8:=gJ fun(s,p) hp=>by
 dsimp only at *;refine HP (eD.c (lF.c (xR.c (hO.c (fN.c wm.d))))) 134 [[0,1],[0,1],[0,1,26],[4,5,6],[0,1,7],[0,1,7,8],[0,1,7,8,9],[0,7,8,9,10],[0,7,8,9,10,35],[0,7,8,9,10],[0,7,8,9,10,11],[0,7,8,9,10],[0,7,8,9,10,11,62],[7,10],[4,5,6],[0,7,8,9,10,11,77],[0,7,8,9,10,11,85],[0,7,8,9,10,11],[0,7,8,9,10,11],[0,7,10],[0,7,8,10],[0,7,8,9,10],[0,7,8,9,10,103],[4,5,6],[0,7,8,9,10],[0,7,8,9,10,111],[0,7,8,10,12,13],[0,7,8,10,12,13,123],[4,5,6],[0,7,8,13],[0,7,8,9,13],[0,7,8,9,10],[4,5,6]] Tryz.func293 [.tmp 4,.tmp 5,.tmp 6] ?_;simp only[↓XC,X1,seval,dB,eB,ek,j3,cy,cO,kc,nX,XR];have T:=dW s p;refine bH.mk (fun h=>by simp only[Yi]at h;omega) fun _=>⟨fun h=>?_,fun h=>CR fun _=>?_⟩
 ·have B:¬bW s (spot s p)=34:=by
   intro A;have R:spot s p<s.length:=by
    rcases aU (spot s p) s.length with q|q
    ·exact q
    rw[eZ q]at A;omega
   rw[cW R]at A;simp only[Yi]at h;omega
  rw[show nC s (spot s p)=([],spot s p,10) by unfold nC;rw[aA B]]
 have F:spot s p<s.length:=by simp only[Yi]at h;omega
 have A:bW s (spot s p)=34:=by rw[cW F];simp only[Yi]at h;omega
 refine cF.of (ι:={x:Nat×List Pc×Bs×Nat // x.1<=s.length/\x.2.2.1.length+mm x.2.1<=2*x.1/\x.2.2.2<=x.2.2.1.length/\oT s x.1 x.2.1 x.2.2.1 x.2.2.2=nC s (spot s p)}) (fun x=>⟨[(0,.s s),(7,.ew 0 0 x.1.2.1.length),(8,.ew 1 0 x.1.2.2.1.length),(9,.i .i64 (x.1.2.2.2:Nat)),(10,.i .i64 (x.1.1:Nat))],[some (.row false 2 x.1.2.1.length (bT mb iH x.1.2.1)),some (.row false 1 x.1.2.2.1.length (bT l8 0 x.1.2.2.1))]⟩) (fun x=>s.length-x.1.1) ⟨(spot s p+1,[],[],0),by simp only;omega,by simp[mm],bF _,by unfold nC;rw[aB A]⟩ (by simp only[aP,aQ];exact(cG.cT [0,1] (by decide) (by simp only[Yd];exact⟨bM fun j n=>absurd n (aT _),bM fun j n=>absurd n (aT _)⟩) (by simp[bC,Vg.look,SV.bP,dX]))) ?_;rintro⟨⟨i,L,cur,k⟩,K,P,q,c⟩;simp only[↓XC,X1,seval,dB,ek,j3,cy,cO,kc,nX,XR];simp only at K P q c;have U:=pS L;have O:((i:Int)+1).toNat=i+1:=by omega
 rw[O];refine⟨fun E=>CO fun _=>?_,fun E=>?_⟩
 ·have d:i<s.length:=by omega
  have v:=cW d;rw[<-v];have D:(decide (bW s i=92)&&decide ((i:Int)+1<s.length)&&decide (((s.getD (i+1) 0).toNat:Int)=10))=decide (bW s i=92/\bW s (i+1)=10):=by
   rcases aU (i+1) s.length with g|g
   ·rw[<-cW g,show decide ((i:Int)+1<s.length)=true from aJ (by omega),Bool.and_true,eH]
   rw[eZ g,show decide ((i:Int)+1<s.length)=false from aI (by omega)];simp
  rw[D];refine bH.mk (fun _=>by simp only[iU];omega) fun _=>bH.mk (fun h=>by simp only[iU];omega) fun _=>bH.mk (fun h=>by simp only[Yi]at h;omega) fun _=>CO fun _=>⟨fun G=>?_,fun G=>CO fun _=>⟨fun u=>⟨fun w=>CR fun _=>?_,fun w=>?_⟩,fun u=>CO fun _=>⟨fun b=>?_,fun b=>CO fun _=>?_⟩⟩⟩
  ·refine⟨fun j _=>rfl,bH.mk (aN _) fun _=>⟨dz rfl rfl,CO fun _=>?_⟩⟩;rw[s0];have e:jd (lm L.length (fun j=>[SV.s (L.getD j iH).text,SV.b (L.getD j iH).glue]) fun j=>fF [SV.s cur,SV.b false] 2 j) 0 (L.length+1)=(L++[(⟨cur,false⟩:Pc)]).map mb:=oL iH L ⟨cur,false⟩ 2 (fun _ _=>rfl) rfl rfl;rw[e];simp only[↓XC,X1,seval,dB,ek,nX,XR];refine bH.mk ⟨⟨aN _,tb (enc:=mb) iH L ⟨cur,false⟩ 2 (fun _=>rfl) (fun _ _=>rfl) rfl fun _=>rfl⟩,by rw[gh,jc];show mm L+(cur.length+1)<=16777216;omega⟩ fun _=>CR fun _=>?_;rw[<-c,R1 d G];rfl
  ·rw[et rfl];simp only[↓XC,X1,seval,dB,ek,j3,cy,cO,kc,nX,XR];have l:decide (bW s i=92/\bW s (i+1)=10)=true:=w;have a:=aW w;rw[l];have m:i+1+1<=s.length:=by
    rcases aU (i+1) s.length with g|g
    ·exact g
    rw[eZ g]at a;omega
   have H:spot s ((i:Int)+1+1)=i+1+1:=by unfold spot;omega
   rw[H];have o:=gO s (i+1+1) m;have I:=gY s (i+1+1);have C:=mO k cur;have S:=kJ s (i+1+1);rw[FD];refine bH.mk ⟨aN _,by omega,by omega⟩ fun _=>⟨dz rfl rfl,CO fun _=>CR fun _=>bH.mk hp fun _=>⟨fun hm=>CR fun _=>?_,fun hm=>CR fun _=>bH.mk hp fun _=>CR fun _=>CR fun _=>?_⟩⟩
   ·rw[<-c,Nc d a.1 a.2 (show ¬ib s (i+1+1)=0 by omega)];rfl
   rw[show(((wh s (i+1+1):Nat):Int)-1+1)=((wh s (i+1+1):Nat):Int) by omega];exact⟨⟨(wh s (i+1+1),L++[⟨cur,true⟩],[],0),o,by simp only[gh,jc,aL];omega,aN _,(Nb d a.1 a.2 (show ib s (i+1+1)=0 by omega)).symm.trans c⟩,by simp only;omega,(cG.cT [3,4] (by decide) (by simp only[Yd];exact⟨fY (enc:=mb) (z:=iH) (xs:=L) (y:=⟨cur,true⟩) (sz:=2) (fun _=>rfl) rfl (fun _ _=>rfl) rfl,bM fun j n=>absurd n (aT _)⟩) (by simp[bC,Vg.look,SV.bP,dX]))⟩
  ·rw[et rfl];simp only[↓XC,X1,seval,dB,ek,j3,cy,cO,kc,nX,XR];have l:decide (bW s i=92/\bW s (i+1)=10)=false:=w;have f:bW s i=10:=by rw[w]at u;simpa using u
   rw[l];have m:i+1<=s.length:=d;have H:spot s ((i:Int)+1)=i+1:=by unfold spot;omega
   rw[H];have o:=gO s (i+1) m;have I:=gY s (i+1);have C:=mO k cur;have S:=kJ s (i+1)
   skip
   refine bH.mk ⟨aN _,by omega,by omega⟩ fun _=>⟨dz rfl rfl,CO fun _=>CR fun _=>bH.mk hp fun _=>⟨fun hm=>CR fun _=>?_,fun hm=>CR fun _=>bH.mk hp fun _=>CR fun _=>CR fun _=>?_⟩⟩
   ·rw[<-c,Nf d f (by omega)];rfl
   rw[show(((wh s (i+1):Nat):Int)-1+1)=((wh s (i+1):Nat):Int) by omega];exact⟨⟨(wh s (i+1),L++[⟨jl k cur,false⟩],[],0),o,by simp only[gh,jc,aL];omega,aN _,by simp only;rw[<-Ng d f (by omega)];exact c⟩,by simp only;omega,(cG.cT [3,4] (by decide) (by simp only[Yd];exact⟨fY (enc:=mb) (z:=iH) (xs:=L) (y:=⟨jl k cur,false⟩) (sz:=2) (fun _=>rfl) rfl (fun _ _=>rfl) rfl,bM fun j n=>absurd n (aT _)⟩) (by simp[bC,Vg.look,SV.bP,dX]))⟩
  ·have B:¬bW s (i+1)=10:=by intro J;simp[b,J]at u
   rw[bQ s K];have Q:=DS s i;have M:=DR s i;have N:=zm s i;refine bH.mk hp fun _=>⟨fun he=>?_,fun he=>?_⟩
   ·rw[<-c,M9 d b B (by omega)]
   have r:=Na (L:=L) (cur:=cur) (k:=k) d b B (by omega);rw[c]at r;generalize nY s i=t at *;refine CO fun _=>CR fun _=>CR fun _=>?_;rw[show((t.2:Int)-1+1)=(t.2:Int) by omega];exact⟨⟨(t.2,L,cur++t.1,(cur++t.1).length),by simp only;omega,by simp only[aC];omega,aN _,r.symm⟩,by simp only;omega,cG.cT [0,2] (by decide) (by simp only[Yd];exact⟨aF fun _=>rfl,Ps (enc:=l8) (z:=0) cur t.1 1 (fun _=>rfl) (fun _ _=>rfl) (fun _ _=>rfl)⟩) (by simp[bC,Vg.look,SV.bP,dX])⟩
  have f:¬bW s i=10:=by intro J;simp[J]at u
  refine⟨dz rfl rfl,CO fun _=>CR fun _=>?_⟩;rw[v];exact⟨⟨(i+1,L,cur++[s.getD i 0],k),by simp only;omega,by simp only[aC,aH];omega,by simp only[aC,aH];omega,by simp only;rw[<-R0 d f b G];exact c⟩,by simp only;omega,(by first|exact cG.cT [0,3] (by decide) (by simp only[Yd];exact⟨aF fun _=>rfl,fY (enc:=l8) (z:=0) (xs:=cur) (y:=s.getD i 0) (sz:=1) (fun _=>rfl) rfl (fun _ _=>rfl) rfl⟩) (by simp[bC,Vg.look,SV.bP,dX];try omega))⟩
 rw[<-c,JC (by omega)]
end Go.T
end
section
namespace Go.T
variable[Go.Vg.df][Go.Vg.cS 0 1]
open Go.Proofs Go.Vg Go.RowKit Go.TT Go.Pl
set_option maxRecDepth 10000
set_option maxHeartbeats 4000000
noncomputable def oo:=gC fun((s,p):Bs×Int)=>([.s s,.i .i64 p],s.length<=1048576,.i .i64 (jG s (spot s p):Nat))
theorem gU{s:Bs}{p:Int}:oo [.s s,.i .i64 p]=some (ptr oo rfl (s,p)):=iZ
theorem lG:fO Tryz.prog 188 oo:=gJ fun(s,p) hp=>by
 dsimp only at *;refine HP (iW.c dv.d) 20 [[0,1],[0,5],[0,5,6],[0,5,6,14],[0,5,6],[4]] Tryz.func188 [.tmp 4] ?_;simp only[↓XC,X1,seval,dB,iw,bL];have d:=dW s p;have e:=nP s (spot s p);refine bH.mk hp fun _=>?_;refine cF.of (ι:={q:Nat // la s (spot s p)<=q/\q<=s.length/\bl s q=bl s (la s (spot s p))}) (fun x=>⟨[(0,.s s),(5,.i .i64 (la s (spot s p):Nat)),(6,.i .i64 (x.1:Nat))],[]⟩) (fun x=>s.length-x.1) ⟨la s (spot s p),aN _,by omega,rfl⟩ (cG.refl _ _) ?_;rintro⟨q,a,b,hw⟩;simp only[↓XC,X1,seval,dB,bL];rw[bQ s b];refine bH.mk hp fun _=>⟨fun h=>CR fun _=>?_,fun h=>CR fun _=>?_⟩
 ·have c:=cE h (by decide);exact⟨⟨q+1,by omega,by omega,by rw[<-VM h];exact hw⟩,by simp only;omega,(by first|exact cG.refl _ _|(simp only[aP,aQ];exact cG.refl _ _))⟩
 rw[show jG s (spot s p)=q-la s (spot s p) by unfold jG;rw[<-hw,VL h],Int.ofNat_sub a]
noncomputable def oq:=gC fun((s,p):Bs×Int)=>([.s s,.i .i64 p],s.length<=1048576,.i .i64 (jG s (spot s p):Nat))
theorem gu{s:Bs}{p:Int}:oq [.s s,.i .i64 p]=some (ptr oq rfl (s,p)):=iZ
theorem lH:fO Tryz.prog 333 oq:=gJ fun(s,p) hp=>by
 dsimp only at *;refine HP iX.d 27 [[0,1],[0,5],[0,5,6],[0,5,6,23],[0,5,6],[4]] Tryz.func333 [.tmp 4] ?_;simp only[↓XC,X1,seval,dB,iy];have f:=dW s p;have g:=nP s (spot s p);refine bH.mk hp fun _=>?_;refine cF.of (ι:={n:Nat // la s (spot s p)+n<=s.length/\bl s (la s (spot s p)+n)=bl s (la s (spot s p))}) (fun x=>⟨[(0,.s s),(5,.i .i64 (la s (spot s p):Nat)),(6,.i .i64 (x.1:Nat))],[]⟩) (fun x=>s.length-x.1) ⟨0,by omega,rfl⟩ (cG.refl _ _) ?_;rintro⟨n,i,hw⟩;simp only[↓XC,X1,seval,dB];unfold jG;generalize la s (spot s p)=a at *;have d:((a:Int)+n).toNat=a+n:=by omega
 rw[d];have hd:(decide ((a:Int)+n<s.length)&&decide (((s.getD (a+n) 0).toNat:Int)=32))=decide (bW s (a+n)=32):=by
  rcases aU (a+n) s.length with c|c
  ·rw[<-cW c,aJ (show(a:Int)+n<s.length by omega),di]
  rw[eZ c,aI (show ¬(a:Int)+n<s.length by omega)];rfl
 rw[hd];refine CR fun _=>bH.mk (fun _=>by simp only[iU];omega) fun _=>bH.mk (fun h=>by omega) fun _=>⟨fun h=>CR fun _=>?_,fun h=>?_⟩
 ·have b:=aW h;have e:=cE b (by decide);exact⟨⟨n+1,by omega,by rw[<-dk,<-VM b];exact hw⟩,by simp only;omega,(by first|exact cG.refl _ _|(simp only[aP,aQ];exact cG.refl _ _))⟩
 have b:=bE h;rw[<-hw,VL b,Nat.add_sub_cancel_left]
noncomputable def Ac:=gC fun((s,p):Bs×Int)=>([.s s,.i .i64 p],s.length<=1048576,.i .i64 (dR s (spot s p):Nat))
theorem dE{s:Bs}{p:Int}:Ac [.s s,.i .i64 p]=some (ptr Ac rfl (s,p)):=iZ
theorem l1:fO Tryz.prog 143 Ac:=gJ fun(s,p) hp=>by
 dsimp only at *;refine HP (eh.c (dv.c (jo.c (iW.c jQ.d)))) 47 [[0,1],[0,1],[0,1,12],[0,1,5],[4],[0,1,5,17],[0,1],[0,1,26],[0,1],[4]] Tryz.func143 [.tmp 4] ?_;simp only[↓XC,X1,seval,dB,eg,bL,dL,iw,gj];refine cF.of (ι:={q:Nat // q<=s.length/\dR s q=dR s (spot s p)}) (fun x=>⟨[(0,.s s),(1,.i .i64 (x.1:Nat))],[]⟩) (fun x=>s.length-x.1) ⟨spot s p,dW s p,rfl⟩ (cG.refl _ _) ?_;rintro⟨q,b,hw⟩;simp only[↓XC,X1,seval,dB,bL,dL,iw,gj];have c:spot s ((q:Int)-1)=q-1:=by unfold spot;omega
 rw[bQ s b,c];have d:(bW s q==32||bW s q==9||decide (bW s q=10))=decide (nD s q=true\/bW s q=10):=by rw[Bool.decide_or,show(bW s q==32||bW s q==9)=nD s q from rfl,Bool.decide_eq_true]
 have hC:(decide (bW s q=35)&&(decide ((la s q:Int)=(q:Int))||(bW s (q-1)==32||bW s (q-1)==9)))=NA s q:=by unfold NA nD;rw[show decide ((la s q:Int)=(q:Int))=decide (la s q=q)from by rw[cZ];omega]
 rw[d,hC];refine⟨fun e=>bH.mk hp fun _=>⟨fun h=>CR fun _=>?_,fun h=>bH.mk (fun h=>⟨⟨h,h⟩,hp⟩) fun _=>bH.mk (fun _=>by simp only[iU];omega) fun _=>bH.mk (fun h=>⟨⟨h,h⟩,hp⟩) fun _=>⟨fun a=>bH.mk hp fun _=>?_,fun a=>?_⟩⟩,fun e=>?_⟩
 ·exact⟨⟨q+1,by omega,by rw[<-JW (aW h)];exact hw⟩,by simp only;omega,(by first|exact cG.refl _ _|(simp only[aP,aQ];exact cG.refl _ _))⟩
 ·have f:=FI (NN (by simp[NA]at a;exact a.1));exact⟨⟨en s q,jF s q b,by rw[<-JV a];exact hw⟩,by simp only;omega,cG.refl _ _⟩
 ·rw[<-hw,NB (bE h) a]
 rw[<-hw,DV (by omega)]
noncomputable def wq:=gC fun((s,p):Bs×Int)=>([.s s,.i .i64 p],s.length<=1048576,.i .i64 (dR s (spot s p):Nat))
theorem im{s:Bs}{p:Int}:wq [.s s,.i .i64 p]=some (ptr wq rfl (s,p)):=iZ
theorem mu:fO Tryz.prog 83 wq:=gJ fun(s,p) hp=>by
 dsimp only at *;refine HP (eD.c (fN.c (iX.c (j4.c iM.d)))) 51 [[0,1],[0,1],[0,5],[0,5,34],[0,5],[0,5,47],[4],[0,1]] Tryz.func83 [.tmp 4] ?_;simp only[↓XC,X1,seval,dB,eB,cO,iy,gi,fi];refine cF.of (ι:={q:Nat // q<=s.length/\dR s q=dR s (spot s p)}) (fun x=>⟨[(0,.s s),(1,.i .i64 (x.1:Nat))],[]⟩) (fun x=>s.length+1-x.1) ⟨spot s p,dW s p,rfl⟩ (cG.refl _ _) ?_;rintro⟨q,k,hw⟩;simp only[↓XC,X1,seval,dB,cO,iy,gi,fi];have f:=gO s q k;have r:=gY s q;have b:=DW s q;have j:=Jc s q;have o:=nP s (wh s q);rw[bQ s k,bQ s f];have l:((wh s q:Int)-1).toNat=wh s q-1:=by omega
 rw[l];generalize wh s q=w at *;have hC:(decide ((w:Int)<s.length)&&decide (((s.getD w 0).toNat:Int)=35)&&(decide ((la s w:Int)=(w:Int))||nD s (w-1)))=NA s w:=by
  unfold NA;rcases aU w s.length with c|c
  ·rw[<-cW c,aJ (show(w:Int)<s.length by omega),di,show decide ((la s w:Int)=(w:Int))=decide (la s w=w)from by rw[cZ];omega]
  rw[eZ c,aI (show ¬(w:Int)<s.length by omega)];rfl
 rw[hC];have n:=jF s w f;have m:=lW s w;have i:=DQ s w;have e:∀v:Nat,(decide ((v:Int)>=s.length)||!decide (((s.getD v 0).toNat:Int)=10))=!decide (bW s v=10):=by
  intro v;rcases aU v s.length with c|c
  ·rw[<-cW c,aI (show ¬(v:Int)>=s.length by omega),cX]
  rw[eZ c,aJ (show(v:Int)>=s.length by omega)];rfl
 rw[e,e];refine bH.mk hp fun _=>bH.mk (fun h=>by omega) fun _=>bH.mk (fun h=>⟨⟨h,h⟩,hp⟩) fun _=>bH.mk (fun h=>by simp only[iU];omega) fun _=>bH.mk (fun h=>⟨⟨h,h⟩,hp,by simp only[Yi]at h;omega⟩) fun _=>⟨fun g=>bH.mk hp fun _=>bH.mk (fun h=>by simp only[Yi]at h;omega) fun _=>⟨fun d=>?_,fun d=>CR fun _=>?_⟩,fun g=>bH.mk (fun h=>by simp only[Yi]at h;omega) fun _=>⟨fun d=>?_,fun d=>CR fun _=>?_⟩⟩
 ·have a:¬bW s (en s w)=10:=by simpa using d
  rw[<-hw,<-b,JV g,DV];have:bW s (en s w)<0:=by simpa[kH,a]using i
  have:=Jy.1 this;omega
 ·have a:bW s (en s w)=10:=by simpa using d
  have:=cE a (by decide);exact⟨⟨en s w+1,by omega,by rw[<-JW (.inr a),<-JV g,b];exact hw⟩,by simp only;omega,(by first|exact cG.refl _ _|(simp only[aP,aQ];exact cG.refl _ _))⟩
 ·have a:¬bW s w=10:=by simpa using d
  rw[<-hw,<-b,NB (by rw[j];simp[a]) g]
 have a:bW s w=10:=by simpa using d
 have:=cE a (by decide);exact⟨⟨w+1,by omega,by rw[<-JW (.inr a),b];exact hw⟩,by simp only;omega,(by first|exact cG.refl _ _|(simp only[aP,aQ];exact cG.refl _ _))⟩
noncomputable def wx:=gC fun((s,p):Bs×Int)=>([.s s,.i .i64 p],s.length<=1048576,.b (js s (spot s p)))
theorem ji{s:Bs}{p:Int}:wx [.s s,.i .i64 p]=some (ptr wx rfl (s,p)):=iZ
theorem pT:fO Tryz.prog 186 wx:=gJ fun(s,p) hp=>by dsimp only at *;refine HP (iW.c (gI.c (dv.c lS.d))) 13 [[0,1],[4]] Tryz.func186 [.tmp 4] ?_;simp only[↓XC,X1,seval,dB,iw,dK,bL,ko];have a:=dW s p;have b:=nP s (spot s p);have hw:=gO s (la s (spot s p)) (by omega);rw[bQ s (show la s (spot s p)<=s.length by omega),bQ s hw];exact bH.mk hp fun _=>bH.mk hp fun _=>bH.mk hp fun _=>rfl
noncomputable def wy:=gC fun((s,p):Bs×Int)=>([.s s,.i .i64 p],s.length<=1048576,.b (js s (spot s p)))
theorem iK{s:Bs}{p:Int}:wy [.s s,.i .i64 p]=some (ptr wy rfl (s,p)):=iZ
theorem pU:fO Tryz.prog 332 wy:=gJ fun(s,p) hp=>by dsimp only at *;refine HP (iX.c (fN.c lQ.d)) 12 [[0,1],[4]] Tryz.func332 [.tmp 4] ?_;simp only[↓XC,X1,seval,dB,iy,cO,kn];have a:=dW s p;have b:=nP s (spot s p);rw[bQ s (show la s (spot s p)<=s.length by omega)];exact bH.mk hp fun _=>bH.mk hp fun _=>bH.mk ⟨hp,by omega⟩ fun _=>rfl
noncomputable def tF:=gC fun((s,p):Bs×Int)=>([.s s,.i .i64 p],s.length<=1048576/\0<=p/\p<=s.length+9,.i .i64 (if bW s (cl s p.toNat)=62 then(cl s p.toNat:Int)+1 else -1))
theorem BI{s:Bs}{p:Int}:tF [.s s,.i .i64 p]=some (ptr tF rfl (s,p)):=iZ
theorem BJ:fO Tryz.prog 323 tF:=gJ fun(s,p) hp=>by
 dsimp only at *;refine HP iN.d 17 [[0,1],[0,1,8],[0,1,12],[4],[0,1],[4]] Tryz.func323 [.tmp 4] ?_;simp only[↓XC,X1,seval,dB,dT];refine cF.of (ι:={q:Nat // p.toNat<=q/\q<=s.length+9/\cl s q=cl s p.toNat}) (fun x=>⟨[(0,.s s),(1,.i .i64 (x.1:Nat))],[]⟩) (fun x=>s.length+9-x.1) ⟨p.toNat,aN _,by omega,rfl⟩ (by rw[show((p.toNat:Nat):Int)=p by omega];exact cG.refl _ _) ?_;rintro⟨q,e,f,hw⟩;simp only[↓XC,X1,seval,dB,dT];refine bH.mk ⟨hp.1,by omega⟩ fun _=>⟨fun b=>?_,fun b=>?_⟩
 ·have a:gN s q=false:=by simpa using b
  have d:=gD a;rw[<-cW d];refine CO fun _=>⟨fun h=>CR fun _=>?_,fun h=>CR fun _=>?_⟩
  ·rw[<-hw,QB (by rw[h];simp),aB h]
  exact⟨⟨q+1,by omega,by omega,by rw[<-VT ⟨a,h⟩];exact hw⟩,by simp only;omega,(by first|exact cG.refl _ _|(simp only[aP,aQ];exact cG.refl _ _))⟩
 have a:gN s q=true:=by simpa using b
 rw[<-hw,QB (by rw[a];simp),aA (by intro c;revert a;unfold gN nD kH;rw[c];decide)]
noncomputable def tN:=gC fun((s,p):Bs×Int)=>([.s s,.i .i64 p],s.length<=1048576,.fJ [.s (my s (spot s p)).1,.i .i64 (my s (spot s p)).2.1,.b (my s (spot s p)).2.2])
theorem BO{s:Bs}{p:Int}:tN [.s s,.i .i64 p]=some (ptr tN rfl (s,p)):=iZ
theorem BP:fO Tryz.prog 341 tN:=gJ fun(s,p) hp=>by
 dsimp only at *;refine HP (eh.c (dv.c (qz.c iO.d))) 59 [[0,1],[0,1],[0,1,15],[4,5,6],[0,1,7],[0,1,7,23],[0,1,7,8],[0,1,7,8,35],[0,1,7,8],[0,1,7,8,47],[0,1,7],[0,1,7,53],[4,5,6],[4,5,6]] Tryz.func341 [.tmp 4,.tmp 5,.tmp 6] ?_;simp only[↓XC,X1,seval,dB,eg,bL,qy,dq];have k:=dW s p;have i:=bQ s k;generalize spot s p=a at *;rw[i];refine bH.mk hp fun _=>⟨fun h=>?_,fun h=>?_⟩
 ·rw[s6 (by rintro⟨d,_⟩;simp[d]at h)]
 have b:bW s a=33:=by simpa using h
 have t:=xc b;have r:=cE b (by decide);have y:=I4 b;have l:=r8 s a k;rw[show bW s (spot s ((a:Int)+1))=bW s (a+1) by rw[j0 (by omega)];rfl];refine bH.mk ⟨hp,by omega,by omega⟩ fun _=>CR fun _=>bH.mk hp fun _=>⟨fun e=>CR fun _=>?_,fun e=>?_⟩
 ·refine cF.of (ι:={q:Nat // a+2<=q/\q<=s.length+1/\cl s q=cl s (a+2)}) (fun x=>⟨[(0,.s s),(1,.i .i64 (a:Nat)),(7,.i .i64 (mw s a:Nat)),(8,.i .i64 (x.1:Nat))],[]⟩) (fun x=>s.length+1-x.1) ⟨a+2,aN _,by omega,rfl⟩ (by simp only[aP];exact cG.refl _ _) ?_;rintro⟨q,u,v,hw⟩;simp only[↓XC,X1,seval,dB,bL,dq];rw[show bW s (spot s (q:Int))=bW s q by rw[j0 (by omega)];rfl];have hd:(!decide (bW s q=62)&&!gN s q)=decide (gN s q=false/\¬bW s q=62):=by cases z:gN s q<;>by_cases o:bW s q=62<;>simp[o]
  rw[hd];refine bH.mk hp fun _=>bH.mk (fun h=>⟨⟨h,h⟩,hp,by omega⟩) fun _=>⟨fun h=>CR fun _=>?_,fun h=>bH.mk hp fun _=>bH.mk (fun _=>by simp only[iU];omega) fun _=>⟨fun g=>CR fun _=>?_,fun g=>?_⟩⟩
  ·have j:=aW h;have:=gD j.1;exact⟨⟨q+1,by omega,by omega,by rw[<-VT j];exact hw⟩,by simp only;omega,(by first|exact cG.refl _ _|(simp only[aP,aQ];exact cG.refl _ _))⟩
  ·have f:=QB (bE h);simp only[Yi]at g;have w:=cE g.1 (by decide);have c:yr s a=q+1:=by unfold yr;rw[aB ⟨e,by rw[<-hw,f];exact g.1,by rw[<-hw,f];omega⟩,<-hw,f]
   have m:((q:Int)+1).toNat=q+1:=by omega
   rw[m];refine CR fun _=>⟨fun h=>?_,fun h=>CO fun _=>?_⟩
   ·rw[s6 (by rintro⟨_,d⟩;rw[c]at d;omega)]
   rw[xW ⟨b,by rw[c];omega⟩,c];rfl
  have f:=QB (bE h);simp only[Yi]at g;have c:yr s a=mw s a:=by unfold yr;rw[aA (by rintro⟨_,d,n⟩;rw[<-hw,f]at d n;omega)]
  refine CR fun _=>⟨fun h=>?_,fun h=>CO fun _=>?_⟩
  ·rw[s6 (by rintro⟨_,d⟩;rw[c]at d;omega)]
  rw[xW ⟨b,by rw[c];omega⟩,c];rfl
 have c:yr s a=mw s a:=by unfold yr;rw[aA (fun h=>e h.1)]
 refine CR fun _=>⟨fun h=>?_,fun h=>CO fun _=>?_⟩
 ·rw[s6 (by rintro⟨_,d⟩;rw[c]at d;omega)]
 rw[xW ⟨b,by rw[c];omega⟩,c];rfl
noncomputable def tO:=gC fun((s,p):Bs×Int)=>([.s s,.i .i64 p],s.length<=1048576,.fJ [.s (my s (spot s p)).1,.i .i64 (my s (spot s p)).2.1,.b (my s (spot s p)).2.2])
theorem ir{s:Bs}{p:Int}:tO [.s s,.i .i64 p]=some (ptr tO rfl (s,p)):=iZ
theorem BQ:fO Tryz.prog 287 tO:=gJ fun(s,p) hp=>by
 dsimp only at *;refine HP (eD.c (qB.c BJ.d)) 55 [[0,1],[0,1],[0,1,21],[4,5,6],[0,1,7],[0,1,7,36],[0,1,7,8],[0,1,7,8,44],[0,1,7],[0,1,7,49],[4,5,6],[4,5,6]] Tryz.func287 [.tmp 4,.tmp 5,.tmp 6] ?_;simp only[↓XC,X1,seval,dB,eB,qA,BI];have q:=dW s p;generalize spot s p=a at *;refine bH.mk (fun h=>by simp only[Yi]at h;omega) fun _=>⟨fun h=>?_,fun h=>?_⟩
 ·rw[s6];rintro⟨d,_⟩;have f:=cE d (by decide);rw[cW f]at d;rw[d,aI (show ¬(a:Int)>=s.length by omega)]at h;simp at h
 have f:a<s.length:=by simp only[Yi]at h;omega
 have c:bW s a=33:=by rw[cW f];simp only[Yi]at h;omega
 have u:=xc c;have v:=I4 c;have l:=r8 s a q;have m:((a:Int)+1).toNat=a+1:=by omega
 have n:((a:Int)+2).toNat=a+2:=by omega
 rw[m,n];have hd:(decide ((a:Int)+1<s.length)&&decide (((s.getD (a+1) 0).toNat:Int)=60))=decide (bW s (a+1)=60):=by
  rcases aU (a+1) s.length with j|j
  ·rw[<-cW j,aJ (show(a:Int)+1<s.length by omega),di]
  rw[eZ j,aI (show ¬(a:Int)+1<s.length by omega)];rfl
 rw[hd];have r:=RY s (a+2);refine bH.mk ⟨hp,by omega,by omega⟩ fun _=>CR fun _=>bH.mk (fun _=>by simp only[iU];omega) fun _=>bH.mk (fun h=>by omega) fun _=>⟨fun e=>CR fun _=>bH.mk ⟨hp,by omega,by omega⟩ fun _=>CR fun _=>?_,fun e=>?_⟩
 ·have g:=aW e;by_cases i:bW s (cl s (a+2))=62
  ·rw[aB i];have t:=cE i (by decide);refine⟨fun k=>?_,fun k=>?_⟩
   ·have b:yr s a=cl s (a+2)+1:=by unfold yr;rw[aB ⟨g,i,by omega⟩]
    have o:((cl s (a+2):Int)+1).toNat=cl s (a+2)+1:=by omega
    rw[o];refine CR fun _=>⟨fun h=>?_,fun h=>CO fun _=>?_⟩
    ·rw[s6 (by rintro⟨_,d⟩;rw[b]at d;omega)]
    rw[xW ⟨c,by rw[b];omega⟩,b];rfl
   have b:yr s a=mw s a:=by unfold yr;rw[aA (by rintro⟨_,_,d⟩;omega)]
   refine CR fun _=>⟨fun h=>?_,fun h=>CO fun _=>?_⟩
   ·rw[s6 (by rintro⟨_,d⟩;rw[b]at d;omega)]
   rw[xW ⟨c,by rw[b];omega⟩,b];rfl
  rw[aA i];refine⟨fun k=>by omega,fun k=>?_⟩;have b:yr s a=mw s a:=by unfold yr;rw[aA (fun h=>i h.2.1)]
  refine CR fun _=>⟨fun h=>?_,fun h=>CO fun _=>?_⟩
  ·rw[s6 (by rintro⟨_,d⟩;rw[b]at d;omega)]
  rw[xW ⟨c,by rw[b];omega⟩,b];rfl
 have b:yr s a=mw s a:=by unfold yr;rw[aA (fun h=>bE e h.1)]
 refine CR fun _=>⟨fun h=>?_,fun h=>CO fun _=>?_⟩
 ·rw[s6 (by rintro⟨_,d⟩;rw[b]at d;omega)]
 rw[xW ⟨c,by rw[b];omega⟩,b];rfl
end Go.T
end
