/- Own text: part VBL. -/
import Derived.Test.YtgippllfnmdnpaaGreatDoorVBK
import Derived.Test.YtgippllfnmdnpaaGreatDoorVAR
import Derived.Test.YtgippllfnmdnpaaGreatDoorVAS
import Derived.Test.YtgippllfnmdnpaaGreatDoorVBF
set_option linter.all false
section
namespace Go.T
variable[Go.Vg.df][Go.Vg.cS 0 1]
open Go.Proofs Go.Vg Go.RowKit Go.TT Go.Pl
set_option maxRecDepth 10000
set_option maxHeartbeats 4000000
theorem WV(s:Bs)(r:Rd)(g:Int)(y:Bool)(hp:s.length<=1048576/\DD s r/\lY s r.pos=true):gQ Tryz.prog 172 1 [.ptr 0 0 0,.b y] (fk s (r) ((r).pos:Nat) g) (fun z c=>∃(a J:Int) (O:Bool),((oU s r y).cd=0->a=(((oU s r y).pos:Nat):Int)/\O=By s r.pos y)/\z=.b O/\c=(fk s ((oU s r y)) a J)):=by
 refine Jh (sL.c (wv.c mu.d)) 125 [[0,1],[0,1,5,6],[0,1,5,6,7],[0,1,5,6,7,53],[0,1,6,7,8],[0,1,6,7,8,9],[0,1,6,7,8,9,64,65,66],[0,1,6,7,8,9,64,65,66,67],[0,1,6,7,8,9,11,64,65,66],[0,1,6,7,8,9,64,65,66],[0,1,6,7,8,9,64,65,66],[0,1,6,7,8,84],[0,1,6],[1],[4],[0,6,109],[0,6],[],[4]] Tryz.func172 [.tmp 4] (fun _=>false) [] [(1,[],[],qa (.q0 3 [3,8,9,10,11,12,13] (.q0 7 [7,8,9,10,11,12,13] (.de 8 (.q1 9 (.q1 10 (.de 11 (.seq [12,13]) (.de 12 (.seq [11,13]) .fin)))) .fin)))),(4,[],[],.q1 0 (.q1 1 (.q1 3 (.q1 4 (.q0 2 [2] (.q0 5 [5] (.q1 6 (.de 7 (.de 8 .fin .fin) .fin)))))))),(12,[7,10],[0,3],qe (.q0 4 [4,7,8,9,10] (.q0 5 [5,6,7,8,9,10] (.de 6 (.sw (.de 7 (qd (.de 10 .fin .fin)) .fin)) .fin))))] ?_;simp only[↓X9,X0,seval,X2,sK,o9,im,bI];obtain⟨D,F,B⟩:=hp;have j:=F.pos;have A:=F.cd;rw[bQ s j];obtain⟨T,N,V⟩:=pJ B;have he:=jF s r.pos j;have I:=JJ B;have n:=fun i=>JH (s:=s) (p:=r.pos) i;obtain⟨w,hw⟩:∃w,w=qG s r.pos:=⟨_,rfl⟩
 rw[show kN s (en s r.pos) r.pos=w from hw.symm];rw[<-hw]at I n;have H:=JI s r.pos j;rw[<-hw]at H;obtain⟨q,l⟩:∃q,q=(decide (((w.length:Nat):Int)=2)&&decide (w.getD 0 []=[37,89,65,77,76])&&(decide (w.getD 1 []=[49,46,49])||decide (w.getD 1 []=[49,46,50]))):=⟨_,rfl⟩
 have E:uG s r y=if(decide (((w.length:Nat):Int)=3)&&decide (w.getD 0 []=[37,84,65,71]))=true then(HH ⟨w.getD 1 [],w.getD 2 []⟩&&!(r.hd.any fun h=>decide (h.name=w.getD 1 [])))else(q&&!y):=by
  have P:uT s r.pos=(decide (w.getD 0 []=Qn)&&decide (w.length=2)):=by rw[hw];rfl
  have Q:vX s r.pos=(decide (w.getD 0 []=I6)&&decide (w.length=3)):=by rw[hw];rfl
  have R:Bx s r.pos=⟨w.getD 1 [],w.getD 2 []⟩:=by rw[hw];rfl
  have S:(r.hd.all fun h=>!decide (h.name=w.getD 1 []))=!(r.hd.any fun h=>decide (h.name=w.getD 1 [])):=by rw[List.not_any_eq_all_not]
  unfold uG;rw[P,Q,R,<-hw,l];simp only;rw[S];have X:(Qn:Bs)=[37,89,65,77,76]:=rfl;have W:(I6:Bs)=[37,84,65,71]:=rfl;rw[X,W];have q2:decide (((w.length:Nat):Int)=2)=decide (w.length=2):=by rw[bO,aE,aE];omega
  have Y:decide (((w.length:Nat):Int)=3)=decide (w.length=3):=by rw[bO,aE,aE];omega
  rw[q2,Y];by_cases o:w.length=2
  ·simp[o,Bool.and_assoc]
  by_cases K:w.length=3
  ·simp[K]
  simp[o,K]
 rw[<-l];have f:spot s ((en s r.pos:Nat):Int)=en s r.pos:=bQ s he;rw[f];refine⟨by decide +kernel,bH.mk D fun _=>and_self_iff.2 ?_⟩;refine bH.mk (fun _=>by omega) fun _=>bH.mk (fun h=>by simp only[aD,aE]at h;omega) fun _=>bH.mk (fun h=>by simp only[aD,aE]at h;omega) fun _=>bH.mk (fun _=>by omega) fun _=>⟨fun k=>?_,fun k=>?_⟩
 ·refine⟨by decide +kernel,bH.mk (by simp only[aD,aE]at k;omega) fun _=>bH.mk (by simp only[aD,aE]at k;omega) fun _=>?_⟩;refine cF.of (ι:={i:Nat // i<=r.hd.length}) (fun x=>⟨[(0,.ptr 0 0 0),(1,.b y),(6,.i .i64 (en s r.pos:Nat)),(7,.b q),(8,.ptr 4 0 0),(9,.b ((r.hd.take x.1).any fun h=>decide (h.name=(w.getD 1 [])))),(64,.ew 3 0 r.hd.length),(65,.i .i64 (r.hd.length:Nat)),(66,.i .i64 (x.1:Nat))],(Qu s (r) ((r).pos:Nat) g [some (.gA false [.s (w.getD 1 []),.s (w.getD 2 [])])])⟩) (fun x=>r.hd.length-x.1) ⟨0,bF _⟩ (cG.refl _ _) ?_;rintro⟨i,Z⟩;simp only[YC];simp only[↓X9,X0,seval,X2,o9,im,bI];refine⟨fun N=>CO fun _=>CO fun _=>bH.mk (by simp only[iU];have:=F.hd;omega) fun _=>?_,fun N=>bH.mk ⟨by have:=n 1;omega,by have:=n 2;omega⟩ fun _=>⟨fun u=>?_,fun u=>⟨fun L=>?_,fun L=>?_⟩⟩⟩
  ·refine⟨⟨i+1,by omega⟩,by simp only;omega, ?_⟩;have e:((r.hd.take (i+1)).any fun h=>decide (h.name=w.getD 1 []))=(((r.hd.take i).any fun h=>decide (h.name=w.getD 1 []))||decide ((r.hd.getD i lO).name=w.getD 1 [])):=by
    have C:i<r.hd.length:=by omega
    rw[fR,List.any_append,aG,aS C];simp[C]
   simp only[e];exact(cG.cT [0,1,2,3,4] (by decide) (by simp only[Yd];exact⟨aM (by simp[Yf,Yh,bI]),aF fun _=>rfl,aF fun _=>rfl,aF fun _=>rfl,aM (by simp[Yf])⟩) (by simp[bC,Vg.look,SV.bP,dX,jE,XR,qF,ul,Yh]))
  ·obtain rfl:i=r.hd.length:=by omega
   rw[eY]at u;have G:uG s r y=true:=by rw[E,aB k];exact u
   have t:=k;simp only[aD,aE]at t;have U:vX s r.pos=true:=by unfold vX;rw[<-hw,aD,aE,aE];exact⟨t.2,by omega⟩
   have M:uT s r.pos=false:=by unfold uT;rw[<-hw,bA];right;rw[aO];omega
   have m:oU s r y=atR (lj r (r.hd++[(⟨w.getD 1 [],w.getD 2 []⟩:Hd)])) (dR s (en s r.pos)):=by unfold oU mD;rw[aA (by rw[G];simp),aA (by rw[M];simp),aB U,hw];rfl
   rw[f];refine⟨by decide +kernel,dz rfl rfl,bH.mk (by have:=F.hd;omega) fun _=>bH.mk D fun _=>?_⟩;rw[m];refine⟨.b y,(fk s ((atR (lj r (r.hd++[(⟨w.getD 1 [],w.getD 2 []⟩:Hd)])) (dR s (en s r.pos)))) ((dR s (en s r.pos):Nat):Int) g),⟨((dR s (en s r.pos):Nat):Int),g,y,fun _=>⟨rfl,by unfold By;rw[M];rfl⟩,rfl,rfl⟩, ?_⟩;simp only[YC,atR,lj,aC,aK,aL,aX];exact⟨[0,1,2,6],by decide,by simp only[Yd];exact⟨aM (by simp[Yf]),aF fun _=>rfl,aF fun _=>rfl,eU r.hd (⟨w.getD 1 [],w.getD 2 []⟩:Hd) (fun _=>rfl) rfl rfl rfl (fun _ _=>rfl) rfl rfl⟩,by simp only[↓XC,X1,seval];try first|rfl|simp[Yf],by simp[da,SO.ro,YC],by simp⟩
  ·obtain rfl:i=r.hd.length:=by omega
   rw[eY]at u;have m:oU s r y=er r 13 r.pos:=by unfold oU;rw[aB (by rw[E,aB k];exact u)]
   refine Vm (jh s r g 13 r.pos A) ?_;simp only[↓X9,X0,seval,X2,im,bI,XM];rw[f];refine bH.mk D fun _=>?_;rw[m];refine⟨.b true,(fk s ((er r 13 r.pos)) ((dR s (en s r.pos):Nat):Int) g),⟨((dR s (en s r.pos):Nat):Int),g,true,fun h=>absurd h (by decide:¬((13:Int)=0)),rfl,rfl⟩, ?_⟩;try simp only[YC,atR,lj]
   exact Vf
  exfalso;have d:q=true/\y=false:=by simpa[aY]using L
  rw[l]at d;simp only[aD,aE]at d k;omega
 refine⟨fun o=>?_,fun o=>?_⟩
 ·have m:oU s r y=er r 13 r.pos:=by unfold oU;rw[aB (by rw[E,aA (by rw[k];simp)];exact(by decide:∀a b:Bool,(!a||b)=true->(a&&!b)=false) _ _ o)]
  refine Vm (jh s r g 13 r.pos A) ?_;simp only[↓X9,X0,seval,X2,im,bI,XM];rw[f];refine bH.mk D fun _=>?_;rw[m];refine⟨.b true,(fk s ((er r 13 r.pos)) ((dR s (en s r.pos):Nat):Int) g),⟨((dR s (en s r.pos):Nat):Int),g,true,fun h=>absurd h (by decide:¬((13:Int)=0)),rfl,rfl⟩, ?_⟩;try simp only[YC,atR,lj]
  exact Vf
 have d:q=true/\y=false:=by simpa[aY]using o
 have G:uG s r y=true:=by rw[E,aA (by rw[k];simp),d.1,d.2];rfl
 have v:uT s r.pos=true:=by rw[l]at d;simp only[aD,aE]at d;unfold uT;rw[<-hw,aD,aE,aE];exact⟨d.1.1.2,by omega⟩
 have m:oU s r y=atR r (dR s (en s r.pos)):=by unfold oU mD;rw[aA (by rw[G];simp),aB v];rfl
 refine bH.mk D fun _=>?_;rw[m];refine⟨.b true,(fk s ((atR r (dR s (en s r.pos)))) ((dR s (en s r.pos):Nat):Int) g),⟨((dR s (en s r.pos):Nat):Int),g,true,fun _=>⟨rfl,by unfold By;rw[v];rfl⟩,rfl,rfl⟩, ?_⟩;try simp only[YC,atR,lj]
 exact Vf
end Go.T
end
section
namespace Go.T
variable[Go.Vg.df][Go.Vg.cS 0 1]
open Go.Proofs Go.Vg Go.RowKit Go.TT Go.Pl
set_option maxRecDepth 10000
set_option maxHeartbeats 4000000
theorem WW(s:Bs)(x:Rb)(pr:Int)(R:Rb)(hR:R=zc s x)(hp:s.length<=60000/\yv s x.r/\dR s x.r.pos=x.r.pos/\x.r.pos<s.length/\ib s x.r.pos≠2):gQ Tryz.prog 86 1 [.ptr 0 0 0] [some (.gA false [.s s,.i .i64 ((x.r).pos:Nat),.ew 1 0 (x.r).ev.length,.i .i64 (x.r).cd,.i .i64 ((x.r).pl:Nat),.i .i64 ((x.r).dp:Nat),.ew 2 0 (iu (x.r).ev (x.r).dn (x.r).bs).length,.ew 3 0 (x.r).hd.length,.i .i64 pr]),some (.row false 8 (x.r).ev.length (bT jO ec (x.r).ev)),some (.row false 2 (iu (x.r).ev (x.r).dn (x.r).bs).length (bT xI ([],false) (iu (x.r).ev (x.r).dn (x.r).bs))),some (.row false 2 (x.r).hd.length (bT kl lO (x.r).hd))] (fun z c=>∃(r':Rd) (a ao:Int),((R).r.cd=0->r'=(R).r/\a=(((R).r.pos:Nat):Int))/\(r'.ev=(R).r.ev/\r'.cd=(R).r.cd/\r'.pl=(R).r.pl)/\z=.fJ []/\c=[some (.gA false [.s s,.i .i64 a,.ew 1 0 (r').ev.length,.i .i64 (r').cd,.i .i64 ((r').pl:Nat),.i .i64 ((r').dp:Nat),.ew 2 0 (iu (r').ev (r').dn (r').bs).length,.ew 3 0 (r').hd.length,.i .i64 ao]),some (.row false 8 (r').ev.length (bT jO ec (r').ev)),some (.row false 2 (iu (r').ev (r').dn (r').bs).length (bT xI ([],false) (iu (r').ev (r').dn (r').bs))),some (.row false 2 (r').hd.length (bT kl lO (r').hd))]):=by
 refine Jh (nS.c hO.d) 146 [[0],[0],[0],[0,2],[0,2,3],[0,2,3,37],[0,2],[0,2,3],[0,3,4],[0,4,62],[0,4],[0,4,73],[0,4],[0,5],[0,5,92],[0],[0,105],[0],[0,116],[0,6],[0,6,127],[0,6],[0,6,134],[]] Tryz.func86 [] (fun i=>i==16||i==5) [13] [(5,[],[],.q1 0 (.q1 1 (.q1 2 (.q0 3 [3,4,5,6,7,8,9,10,11,12,13,14,15,16,17,18,19,20,21] (.q1 4 (.q1 5 (.q1 6 (.sw (.de 7 (.sw (.de 8 (qh (.q1 15 (.q1 16 (.q1 17 (.q0 14 [14,19,20,21] (.q0 18 [18,19,20,21] (.seq [19,20,21]))))))) .fin)) .fin))))))))),(8,[],[],qa (.q0 3 [3] (.q0 7 [7] (.de 8 (.q1 9 (.q1 10 .fin)) .fin)))),(19,[],[],qa (.q0 3 [3] (.q0 7 [7] (.de 8 (.q1 9 (.q1 10 .fin)) .fin))))] ?_;simp only[↓X9,X0,seval,X2,eu,cy,bI,bX];obtain⟨h6,X,ab,aq,ar⟩:=hp;have r:s.length<=1048576:=by omega
 have G:=X.ok;have S:=G.pos;have O:=G.cd;have aa:=X.dp;refine cF.of (ι:={u:(Rd×Bool×Bool)×Int×Int // (u.1.1.cd=0/\u.2.1=((u.1.1.pos:Nat):Int)/\DD s u.1.1/\u.1.1.ev=x.r.ev/\u.1.1.bs=x.r.ev.length/\(u.1.2.2=false->u.1.1.pos=x.r.pos)/\ka s x.r=(if u.1.2.2=true then T2 s u.1.2.1 u.1.1 else vO s u.1.2.1 u.1.1))\/(u.1.1.cd≠0/\u.1.1.ev=(ka s x.r).ev/\u.1.1.cd=(ka s x.r).cd/\u.1.1.pl=(ka s x.r).pl)}) (fun u=>⟨[(0,.ptr 0 0 0),(2,.b u.1.1.2.1),(3,.b u.1.1.2.2)],[some (.gA false [.s s,.i .i64 u.1.2.1,.ew 1 0 (u.1.1.1).ev.length,.i .i64 (u.1.1.1).cd,.i .i64 ((u.1.1.1).pl:Nat),.i .i64 ((u.1.1.1).dp:Nat),.ew 2 0 (iu (u.1.1.1).ev (u.1.1.1).dn (u.1.1.1).bs).length,.ew 3 0 (u.1.1.1).hd.length,.i .i64 u.1.2.2]),some (.row false 8 (u.1.1.1).ev.length (bT jO ec (u.1.1.1).ev)),some (.row false 2 (iu (u.1.1.1).ev (u.1.1.1).dn (u.1.1.1).bs).length (bT xI ([],false) (iu (u.1.1.1).ev (u.1.1.1).dn (u.1.1.1).bs))),some (.row false 2 (u.1.1.1).hd.length (bT kl lO (u.1.1.1).hd))]⟩) (fun u=>if u.1.1.1.cd=0 then s.length+1-u.1.1.1.pos else 0) ⟨(({ x.r with bs:=x.r.ev.length,hd:=[] },false,false),((x.r.pos:Nat):Int),pr),.inl ⟨O,rfl,⟨O,S,G.dn,aN _,X.dp,X.sz,bF _,fun h hh=>by simp at hh⟩,rfl,rfl,fun _=>rfl,rfl⟩⟩ (cG.trans (b:=⟨[(0,.ptr 0 0 0),(2,.b false),(3,.b false)],[some (.gA false [.s s,.i .i64 (x.r.pos:Nat),.ew 1 0 x.r.ev.length,.i .i64 x.r.cd,.i .i64 (x.r.pl:Nat),.i .i64 0,.ew 4 0 0,.ew 5 0 0,.i .i64 pr]),some (.row false 8 (x.r).ev.length (bT jO ec (x.r).ev)),some (.row false 2 (iu (x.r).ev (x.r).dn (x.r).bs).length (bT xI ([],false) (iu (x.r).ev (x.r).dn (x.r).bs))),some (.row false 2 (x.r).hd.length (bT kl lO (x.r).hd))]++([(2,bT xI ([],false) []),(2,bT kl lO [])].map fun p=>some (.row false p.1 0 p.2))⟩) (cG.nl [(2,bT xI ([],false) []),(2,bT kl lO [])] (by simp[Od,E3,Vg.look]) (by simp[L7,MI,L8,E3])) (by simp only[Oh,aL,cC,eO,eL,gy];exact(cG.cT [0,1,4,5] (by decide) (by simp only[Yd];exact⟨aM (by simp[Yf,aa]),aF fun _=>rfl,aF fun _=>rfl,aF fun _=>rfl⟩) (by simp[bC,Vg.look,SV.bP,dX])))) ?_;rintro⟨⟨⟨u,q,an⟩,Y,fM⟩,hI⟩;simp only[↓X9,X0,seval,X2,eu,cy,bI,bX];simp only at hI;refine⟨by decide +kernel, ?_⟩;by_cases g:u.cd=0
 ·have t:Y=((u.pos:Nat):Int)/\DD s u/\u.ev=x.r.ev/\u.bs=x.r.ev.length/\(an=false->u.pos=x.r.pos)/\ka s x.r=(if an=true then T2 s q u else vO s q u):=by
   rcases hI with h|h
   ·exact h.2
   exact absurd g h.1
  obtain⟨ae,j,ag,af,ah,H⟩:=t;subst ae;have aj:=j.pos;simp only[aJ g];simp only[↓X9,X0,seval,X2,eu,cy,bI,bX];refine eS.Vo (args':=[.ptr 0 0 0]) ?_ (fun σ vs h=>by rwa[ED]at h);refine Vm (ki s u fM r) ?_;simp only[↓X9,X0,seval,X2,eu,cy,bI,bX,XM];simp only[q7 (show(0:Int)<37 by decide)];rw[bQ s aj];have P:(decide (bW s u.pos=37)&&decide (((gL s u.pos:Nat):Int)=0))=lY s u.pos:=by unfold lY;rw[bO];simp only[aD,aE];omega
  rw[P];refine bH.mk (fun h=>⟨⟨h,h⟩,r⟩) fun _=>⟨fun hd=>?_,fun hd=>⟨by decide +kernel,bH.mk r fun _=>⟨fun D=>?_,fun D=>⟨fun h3=>absurd g (by simpa using h3),fun _=>?_⟩⟩⟩⟩
  ·have T:ka s x.r=vO s q u:=by
    rw[H];unfold T2;cases an
    ·rw[aA (by simp)]
    rw[aB rfl,aB hd]
   refine Vq (WV s u fM q ⟨r,j,hd⟩) ?_;rintro z c ⟨a2,f,y2,F,rfl,rfl⟩;simp only[↓X9,X0,seval,X2,eu,cy,bI,bX,XM];by_cases M:(oU s u q).cd=0
   ·obtain⟨q1,q2,q3,q4,q5⟩:=T0 hd j M;obtain⟨e1,Z⟩:=F M;subst e1 Z;have q6:=q2.pos;refine⟨⟨((oU s u q,By s u.pos q,true),(((oU s u q).pos:Nat):Int),f),.inl ⟨M,rfl,q2,q4.trans ag,q5.trans af,fun h=>(by cases h),by rw[T,q1];rfl⟩⟩, ?_,(cG.cT [0,1,2,3] (by decide) (by simp only[Yd];exact⟨aM (by simp[Yf,Yh,bI]),aF fun _=>rfl,aF fun _=>rfl,aF fun _=>rfl⟩) (by simp[bC,Vg.look,SV.bP,dX,jE,XR,qF,ul,Yh]))⟩;rw[aB g];show(if(oU s u q).cd=0 then s.length+1-(oU s u q).pos else 0)<_;rw[aB M];omega
   obtain⟨q1,q2,q3⟩:=QF hd j M;rw[<-T]at q1 q2 q3;refine⟨⟨((oU s u q,y2,true),a2,f),.inr ⟨M,q1.symm,q2.symm,q3.symm⟩⟩, ?_,(cG.cT [0,1,2,3] (by decide) (by simp only[Yd];exact⟨aM (by simp[Yf,Yh,bI]),aF fun _=>rfl,aF fun _=>rfl,aF fun _=>rfl⟩) (by simp[bC,Vg.look,SV.bP,dX,jE,XR,qF,ul,Yh]))⟩;rw[aB g];show(if(oU s u q).cd=0 then s.length+1-(oU s u q).pos else 0)<_;rw[aA M];omega
  ·simp only[aD,aR,aO,aE]at D;have hT:ka s x.r=er u 13 u.pos:=by rw[H,aB D.1.2];unfold T2;rw[aA (by rw[hd];simp),aA (by omega)]
   have A:R=bI x (er u 13 u.pos):=by rw[hR];unfold zc;rw[hT,aB (by simp[er])]
   refine Vm (jh s u fM 13 u.pos g) ?_;simp only[↓X9,X0,seval,X2,eu,cy,bI,bX,XM];try(refine⟨fun _=>?_,fun o=>absurd o (by decide)⟩)
   refine⟨.fJ [],[some (.gA false [.s s,.i .i64 ((u.pos:Nat):Int),.ew 1 0 ((er u 13 u.pos)).ev.length,.i .i64 ((er u 13 u.pos)).cd,.i .i64 (((er u 13 u.pos)).pl:Nat),.i .i64 (((er u 13 u.pos)).dp:Nat),.ew 2 0 (iu ((er u 13 u.pos)).ev ((er u 13 u.pos)).dn ((er u 13 u.pos)).bs).length,.ew 3 0 ((er u 13 u.pos)).hd.length,.i .i64 fM]),some (.row false 8 ((er u 13 u.pos)).ev.length (bT jO ec ((er u 13 u.pos)).ev)),some (.row false 2 (iu ((er u 13 u.pos)).ev ((er u 13 u.pos)).dn ((er u 13 u.pos)).bs).length (bT xI ([],false) (iu ((er u 13 u.pos)).ev ((er u 13 u.pos)).dn ((er u 13 u.pos)).bs))),some (.row false 2 ((er u 13 u.pos)).hd.length (bT kl lO ((er u 13 u.pos)).hd))],⟨(er u 13 u.pos),((u.pos:Nat):Int),fM,fun h=>absurd h (by rw[A];exact(by decide:¬((13:Int)=0))),by rw[A];exact⟨rfl,rfl,rfl⟩,rfl,rfl⟩, ?_⟩;exact Vf
  have hT:ka s x.r=u:=by
   rw[H];cases an
   ·rw[aA (by simp),R3 (by rw[hd];simp)]
   have o:ib s u.pos=1:=by rw[aJ g]at D;simpa using D
   rw[aB rfl];unfold T2;rw[aA (by rw[hd];simp),aB o]
  obtain⟨m,hm⟩:∃m,m=decide (ib s u.pos=1):=⟨_,rfl⟩
  rw[<-hm];have ap:=j.sz;refine kT.of (ι:=Unit) (fun _=>⟨[(0,.ptr 0 0 0),(4,.b m)],[some (.gA false [.s s,.i .i64 (((bB u (mQ m) true)).pos:Nat),.ew 1 0 ((bB u (mQ m) true)).ev.length,.i .i64 ((bB u (mQ m) true)).cd,.i .i64 (((bB u (mQ m) true)).pl:Nat),.i .i64 (((bB u (mQ m) true)).dp:Nat),.ew 2 0 (iu ((bB u (mQ m) true)).ev ((bB u (mQ m) true)).dn ((bB u (mQ m) true)).bs).length,.ew 3 0 ((bB u (mQ m) true)).hd.length,.i .i64 fM]),some (.row false 8 ((bB u (mQ m) true)).ev.length (bT jO ec ((bB u (mQ m) true)).ev)),some (.row false 2 (iu ((bB u (mQ m) true)).ev ((bB u (mQ m) true)).dn ((bB u (mQ m) true)).bs).length (bT xI ([],false) (iu ((bB u (mQ m) true)).ev ((bB u (mQ m) true)).dn ((bB u (mQ m) true)).bs))),some (.row false 2 ((bB u (mQ m) true)).hd.length (bT kl lO ((bB u (mQ m) true)).hd))]⟩) ?_ ?_
  ·simp only[↓X9,X0,seval,X2,bI,bX];have n:=mW (e:=mQ m) (x:=true) j.bs j.dn;rw[aB (show(mQ m).anchor=[]from rfl)]at n;rw[n];refine⟨dz rfl rfl,CO fun _=>⟨(),(cG.cT [0,5,2,3] (by decide) (by simp only[Yd];exact⟨aM (by simp[Yf]),eU u.ev (mQ m) (fun _=>rfl) (by rfl) rfl (by simp) (fun _ _=>rfl) rfl rfl,aF fun _=>rfl,aF fun _=>rfl⟩) (by simp[bC,Vg.look,SV.bP,dX]))⟩⟩
  rintro⟨⟩;have ad:m=false->dR s u.pos=u.pos/\fV s u.pos=false:=fun h=>by
   have k1:¬ib s u.pos=1:=by rw[hm]at h;simpa using h
   have k9:an=false:=by
    cases an
    ·rfl
    exact absurd (by rw[aJ g]at D;simpa[<-hm,h]using D) k1
   have e:=ah k9;rw[e]at k1 |-
   have:=kJ s x.r.pos;refine⟨ab, ?_⟩;unfold fV;rw[aY,aO,bD,aE];omega
  have Q:m=true->u.pos+3<=s.length:=fun h=>(jH (s:=s) (p:=u.pos) (by rw[hm]at h;rw[aW h];decide)).1;obtain⟨y,hy⟩:∃y,y=AV s m ⟨bB u (mQ m) true,false,x.lt⟩:=⟨_,rfl⟩
  have d:R=if y.r.cd≠0 then y else if(nG s y).r.cd≠0 then nG s y else QC s (nG s y):=by rw[hR];unfold zc;rw[hT,aA (by simpa using g),<-hm];unfold DO;rw[hy];rfl
  simp only[↓X9,X0,seval,X2,eu,cy,bI,bX];have hQ:=Wk s ⟨bB u (mQ m) true,false,x.lt⟩ fM m y hy ⟨h6,j.tell r,j.dp,Q,ad⟩;simp only[YC,bB,aC,aK,aL,aX]at hQ;refine Vq (hQ) ?_;rintro z c ⟨a2,f,au,F,rfl,rfl⟩;simp only[↓X9,X0,seval,X2,eu,cy,bI,bX,mQ,XM];by_cases l:y.r.cd=0
  ·have al:xh s (bB u (mQ m) true) y.r:=by
    have h:=l;rw[hy]at h |-
    exact Pf (x:=⟨bB u (mQ m) true,false,x.lt⟩) (j.tell r) j.dp Q h
   have E:=al.ok;obtain⟨Z,e3⟩:=F l;subst Z e3;refine⟨fun _=>?_,fun h'=>absurd l h'⟩;refine Vm (Po s y.r f y.fr ⟨r,l,E.pos⟩) ?_;simp only[↓X9,X0,seval,X2,eu,cy,bI,bX,XM];obtain⟨w,hw⟩:∃w,w=nG s y:=⟨_,rfl⟩
   rw[show Mb s y.r y.fr=w.r by rw[hw];exact D8 s y];rw[aA (by simpa using l),<-hw]at d;by_cases k:w.r.cd=0
   ·have L:=wb (s:=s) (x:=y) (by rw[<-hw];exact k);rw[<-hw]at L;have V:w.r.pos<=s.length:=by rw[L];exact ez s _ E.pos
    have C:Ok s w.r:=by rw[L];exact E.at (fq s _) (ez s _ E.pos)
    have U:w.r.ev.length<=16777216:=cv (C.size r) (by decide);rw[aA (by simpa using k)]at d;unfold QC at d;simp only[aJ k];simp only[↓X9,X0,seval,X2,eu,cy,bI,bX];refine Vm (qi s w.r f ⟨r,V⟩) ?_;simp only[↓X9,X0,seval,X2,eu,cy,bI,bX,XM];refine⟨fun W=>?_,fun W=>⟨fun o=>absurd k (by simpa using o),fun _=>?_⟩⟩
    ·rw[aB (by simpa using W)]at d;refine Vm (jh s w.r f 9 w.r.pos k) ?_;simp only[↓X9,X0,seval,X2,eu,cy,bI,bX,XM];try(refine⟨fun _=>?_,fun o=>absurd o (by decide)⟩)
     refine⟨.fJ [],[some (.gA false [.s s,.i .i64 ((w.r.pos:Nat):Int),.ew 1 0 ((er w.r 9 w.r.pos)).ev.length,.i .i64 ((er w.r 9 w.r.pos)).cd,.i .i64 (((er w.r 9 w.r.pos)).pl:Nat),.i .i64 (((er w.r 9 w.r.pos)).dp:Nat),.ew 2 0 (iu ((er w.r 9 w.r.pos)).ev ((er w.r 9 w.r.pos)).dn ((er w.r 9 w.r.pos)).bs).length,.ew 3 0 ((er w.r 9 w.r.pos)).hd.length,.i .i64 f]),some (.row false 8 ((er w.r 9 w.r.pos)).ev.length (bT jO ec ((er w.r 9 w.r.pos)).ev)),some (.row false 2 (iu ((er w.r 9 w.r.pos)).ev ((er w.r 9 w.r.pos)).dn ((er w.r 9 w.r.pos)).bs).length (bT xI ([],false) (iu ((er w.r 9 w.r.pos)).ev ((er w.r 9 w.r.pos)).dn ((er w.r 9 w.r.pos)).bs))),some (.row false 2 ((er w.r 9 w.r.pos)).hd.length (bT kl lO ((er w.r 9 w.r.pos)).hd))],⟨(er w.r 9 w.r.pos),((w.r.pos:Nat):Int),f,fun h=>absurd h (by rw[d];exact(by decide:¬((9:Int)=0))),by rw[d];exact⟨rfl,rfl,rfl⟩,rfl,rfl⟩, ?_⟩;exact Vf
    rw[aA (by intro o;rw[o]at W;cases W)]at d;rw[bQ s V];refine⟨by decide +kernel,bH.mk r fun _=>⟨fun N=>?_,fun N=>?_⟩⟩
    ·rw[aB N]at d;refine Vm (SR s w.r f ⟨r,k,(jH (s:=s) (p:=w.r.pos) (by rw[N];decide)).1⟩) ?_;simp only[↓X9,X0,seval,X2,eu,cy,bI,bX,XM];obtain⟨v,hv⟩:∃v,v=sZ s w.r:=⟨_,rfl⟩
     rw[<-hv]at d |-
     refine⟨fun B=>?_,fun B=>?_⟩
     ·have J:v=atR w.r (iA s (w.r.pos+3)).1:=by rw[hv];exact(EF (by rw[<-hv];exact B)).1
      have K:v.dn.length=v.ev.length:=by rw[J];exact C.dn
      have I:v.bs<=v.ev.length:=by rw[J];exact C.bs
      have ak:v.ev.length<=16777216:=by rw[J];exact U
      rw[aA (by simpa using B)]at d;have n:=mW (e:=hY true) (x:=true) I K;rw[aB (show(hY true).anchor=[]from rfl)]at n;rw[show decide (ib s w.r.pos=2)=true by simp[N]];refine⟨dz rfl rfl,CO fun _=>?_⟩;refine⟨.fJ [],[some (.gA false [.s s,.i .i64 (((bB v (hY true) true)).pos:Nat),.ew 1 0 ((bB v (hY true) true)).ev.length,.i .i64 ((bB v (hY true) true)).cd,.i .i64 (((bB v (hY true) true)).pl:Nat),.i .i64 (((bB v (hY true) true)).dp:Nat),.ew 2 0 (iu ((bB v (hY true) true)).ev ((bB v (hY true) true)).dn ((bB v (hY true) true)).bs).length,.ew 3 0 ((bB v (hY true) true)).hd.length,.i .i64 f]),some (.row false 8 ((bB v (hY true) true)).ev.length (bT jO ec ((bB v (hY true) true)).ev)),some (.row false 2 (iu ((bB v (hY true) true)).ev ((bB v (hY true) true)).dn ((bB v (hY true) true)).bs).length (bT xI ([],false) (iu ((bB v (hY true) true)).ev ((bB v (hY true) true)).dn ((bB v (hY true) true)).bs))),some (.row false 2 ((bB v (hY true) true)).hd.length (bT kl lO ((bB v (hY true) true)).hd))],⟨bB v (hY true) true,((v.pos:Nat):Int),f,fun _=>by rw[d];exact⟨rfl,rfl⟩,by rw[d];exact⟨rfl,rfl,rfl⟩,rfl,rfl⟩, ?_⟩;simp only[bB,aC,aK,aL,aX];rw[n];exact⟨[0,5,2,3],by decide,by simp only[Yd];exact⟨aM (by simp[Yf]),eU v.ev (hY true) (fun _=>rfl) (by rfl) rfl (by simp) (fun _ _=>rfl) (by first|rfl|simp_all[hY,jO]) rfl,aF fun _=>rfl,aF fun _=>rfl⟩,by simp only[↓XC,X1,seval];try first|rfl|simp[Yf],by simp[da,SO.ro,YC],by simp⟩
     rw[aB B]at d;refine⟨.fJ [],[some (.gA false [.s s,.i .i64 ((v.pos:Nat):Int),.ew 1 0 (v).ev.length,.i .i64 (v).cd,.i .i64 ((v).pl:Nat),.i .i64 ((v).dp:Nat),.ew 2 0 (iu (v).ev (v).dn (v).bs).length,.ew 3 0 (v).hd.length,.i .i64 f]),some (.row false 8 (v).ev.length (bT jO ec (v).ev)),some (.row false 2 (iu (v).ev (v).dn (v).bs).length (bT xI ([],false) (iu (v).ev (v).dn (v).bs))),some (.row false 2 (v).hd.length (bT kl lO (v).hd))],⟨v,((v.pos:Nat):Int),f,fun h=>absurd h (by rw[d];exact B),by rw[d];exact⟨rfl,rfl,rfl⟩,rfl,rfl⟩, ?_⟩;exact Vf
    rw[aA N]at d;have K:=C.dn;have I:=C.bs;have ak:=U;refine⟨fun _=>?_,fun o=>absurd k o⟩;have n:=mW (e:=hY false) (x:=true) I K;rw[aB (show(hY false).anchor=[]from rfl)]at n;rw[show decide (ib s w.r.pos=2)=false by simp[N]];refine⟨dz rfl rfl,CO fun _=>?_⟩;refine⟨.fJ [],[some (.gA false [.s s,.i .i64 (((bB w.r (hY false) true)).pos:Nat),.ew 1 0 ((bB w.r (hY false) true)).ev.length,.i .i64 ((bB w.r (hY false) true)).cd,.i .i64 (((bB w.r (hY false) true)).pl:Nat),.i .i64 (((bB w.r (hY false) true)).dp:Nat),.ew 2 0 (iu ((bB w.r (hY false) true)).ev ((bB w.r (hY false) true)).dn ((bB w.r (hY false) true)).bs).length,.ew 3 0 ((bB w.r (hY false) true)).hd.length,.i .i64 f]),some (.row false 8 ((bB w.r (hY false) true)).ev.length (bT jO ec ((bB w.r (hY false) true)).ev)),some (.row false 2 (iu ((bB w.r (hY false) true)).ev ((bB w.r (hY false) true)).dn ((bB w.r (hY false) true)).bs).length (bT xI ([],false) (iu ((bB w.r (hY false) true)).ev ((bB w.r (hY false) true)).dn ((bB w.r (hY false) true)).bs))),some (.row false 2 ((bB w.r (hY false) true)).hd.length (bT kl lO ((bB w.r (hY false) true)).hd))],⟨bB w.r (hY false) true,((w.r.pos:Nat):Int),f,fun _=>by rw[d];exact⟨rfl,rfl⟩,by rw[d];exact⟨rfl,rfl,rfl⟩,rfl,rfl⟩, ?_⟩;simp only[bB,aC,aK,aL,aX];rw[n];exact⟨[0,5,2,3],by decide,by simp only[Yd];exact⟨aM (by simp[Yf]),eU w.r.ev (hY false) (fun _=>rfl) (by rfl) rfl (by simp) (fun _ _=>rfl) (by first|rfl|simp_all[hY,jO]) rfl,aF fun _=>rfl,aF fun _=>rfl⟩,by simp only[↓XC,X1,seval];try first|rfl|simp[Yf],by simp[da,SO.ro,YC],by simp⟩
   simp only[aI k];simp only[↓X9,X0,seval,X2,eu,cy,bI,bX];rw[aB k]at d;refine⟨fun _=>?_,fun o=>absurd (by simpa using o) k⟩;refine⟨.fJ [],[some (.gA false [.s s,.i .i64 ((w.r.pos:Nat):Int),.ew 1 0 (w.r).ev.length,.i .i64 (w.r).cd,.i .i64 ((w.r).pl:Nat),.i .i64 ((w.r).dp:Nat),.ew 2 0 (iu (w.r).ev (w.r).dn (w.r).bs).length,.ew 3 0 (w.r).hd.length,.i .i64 f]),some (.row false 8 (w.r).ev.length (bT jO ec (w.r).ev)),some (.row false 2 (iu (w.r).ev (w.r).dn (w.r).bs).length (bT xI ([],false) (iu (w.r).ev (w.r).dn (w.r).bs))),some (.row false 2 (w.r).hd.length (bT kl lO (w.r).hd))],⟨w.r,((w.r.pos:Nat):Int),f,fun h=>absurd h (by rw[d];exact k),by rw[d];exact⟨rfl,rfl,rfl⟩,rfl,rfl⟩, ?_⟩;exact Vf
  refine⟨fun h'=>absurd h' l,fun _=>?_⟩;simp only[aI l];simp only[↓X9,X0,seval,X2,eu,cy,bI,bX];rw[aB l]at d;refine⟨fun _=>?_,fun o=>absurd (by simpa using o) l⟩;refine⟨.fJ [],[some (.gA false [.s s,.i .i64 a2,.ew 1 0 (y.r).ev.length,.i .i64 (y.r).cd,.i .i64 ((y.r).pl:Nat),.i .i64 ((y.r).dp:Nat),.ew 2 0 (iu (y.r).ev (y.r).dn (y.r).bs).length,.ew 3 0 (y.r).hd.length,.i .i64 f]),some (.row false 8 (y.r).ev.length (bT jO ec (y.r).ev)),some (.row false 2 (iu (y.r).ev (y.r).dn (y.r).bs).length (bT xI ([],false) (iu (y.r).ev (y.r).dn (y.r).bs))),some (.row false 2 (y.r).hd.length (bT kl lO (y.r).hd))],⟨y.r,a2,f,fun h=>absurd h (by rw[d];exact l),by rw[d];exact⟨rfl,rfl,rfl⟩,rfl,rfl⟩, ?_⟩;exact Vf
 simp only[aI g];simp only[↓X9,X0,seval,X2,eu,cy,bI,bX];have t:u.ev=(ka s x.r).ev/\u.cd=(ka s x.r).cd/\u.pl=(ka s x.r).pl:=by
  rcases hI with h|h
  ·exact absurd h.1 g
  exact h.2
 have A:R=bI x (ka s x.r):=by rw[hR];unfold zc;rw[aB (by rw[<-t.2.1];exact g)]
 refine⟨by decide +kernel,bH.mk r fun _=>⟨fun D=>absurd (by simp only[aD,aE]at D;exact D.1.1) g,fun _=>⟨fun _=>?_,fun h3=>absurd (by simpa using h3) g⟩⟩⟩;refine⟨.fJ [],[some (.gA false [.s s,.i .i64 Y,.ew 1 0 (u).ev.length,.i .i64 (u).cd,.i .i64 ((u).pl:Nat),.i .i64 ((u).dp:Nat),.ew 2 0 (iu (u).ev (u).dn (u).bs).length,.ew 3 0 (u).hd.length,.i .i64 fM]),some (.row false 8 (u).ev.length (bT jO ec (u).ev)),some (.row false 2 (iu (u).ev (u).dn (u).bs).length (bT xI ([],false) (iu (u).ev (u).dn (u).bs))),some (.row false 2 (u).hd.length (bT kl lO (u).hd))],⟨u,Y,fM,fun h=>absurd h (by rw[A];show ¬(ka s x.r).cd=0;rw[<-t.2.1];exact g),by rw[A];exact t,rfl,rfl⟩, ?_⟩;exact Vf
end Go.T
end
section
namespace Go.T
variable[Go.Vg.df][Go.Vg.cS 0 1]
open Go.Proofs Go.Vg Go.RowKit Go.TT Go.Pl
set_option maxRecDepth 10000
set_option maxHeartbeats 4000000
theorem uU(p:Nat):gQ Tryz.prog 81 0 [.i .i64 (p:Nat)] [] (fun z c=>z=.ew 0 0 2/\c=[some (.row false 8 2 (bT jO ec [ln,uJ 1 p]))]):=by refine HE pn 7 [[0],[2]] Tryz.func81 [.tmp 2] ?_;simp only[↓XC,X1,seval,dB,XR];exact⟨[0],by decide,by simp only[Yd];exact bM fun j a=>by rcases j with _|_|j;rfl;rfl;omega,by simp only[↓XC,X1,seval];try simp[Yf],by simp[da,SO.ro,YC],by simp⟩
theorem Fb(s:Bs)(hp:s.length<=1048576):gQ Tryz.prog 22 0 [.s s] [] (fun z c=>z=.ew 0 0 (E5 s).length/\c=[some (.row false 8 (E5 s).length (bT jO ec (E5 s)))]):=by
 refine l5 (BH.c (mu.c hO.d)) 77 [[0],[0,6],[2],[0,14],[2],[0,3],[0,3,27],[0,3],[0,3,43],[2],[0,3,57],[0,3],[0,3],[2]] Tryz.func22 [.tmp 2] (fun _=>false) [] [(13,[14],[1],qa (qd (.q1 10 (.q0 3 [3,14,15] (.q0 7 [7,12,13,14,15] (.q0 11 [11,12,13,14,15] (.q1 12 (.de 13 (.sw (.de 14 (.q1 15 .fin) .fin)) .fin))))))))] ?_;simp only[↓X9,X0,seval,X2,BG,im,cy,bI];have aa:=H3 s 0 (bF _);obtain⟨G,D⟩:∃G,G=E5 s:=⟨_,rfl⟩
 rw[<-D];refine⟨fun h=>?_,fun h=>bH.mk hp fun _=>⟨fun H=>bH.mk hp fun _=>?_,fun H=>?_⟩⟩
 ·have e:G=[ln,uJ 1 s.length]:=by rw[D,E5,aB (by omega)]
  rw[e];refine eS.own (uU s.length) rfl ?_;simp only[↓X9,X0,seval,X2,bI];exact⟨[0],by decide,by simp only[Yd];exact aF fun _=>rfl,by simp only[↓XC,X1,seval];try simp[Yf],by simp[da,SO.ro,YC],by simp⟩
 ·have e:G=[ln,uJ 1 (vM s 0)]:=by rw[D,E5,aA (by omega),xU,Rv,aA (by omega),aB (by omega)]
  rw[e];refine eS.own (uU (vM s 0)) rfl ?_;simp only[↓X9,X0,seval,X2,bI];exact⟨[0],by decide,by simp only[Yd];exact aF fun _=>rfl,by simp only[↓XC,X1,seval];try simp[Yf],by simp[da,SO.ro,YC],by simp⟩
 have h6:s.length<=60000:=by omega
 have t:G=if(xV s).cd≠0 then(xV s).ev++[uJ (xV s).cd (xV s).pl]else(xV s).ev:=by rw[D,E5,aA (by omega),xU,Rv,aA (by omega),aA (by omega)]
 have L:=IT hp;have hE:cG 0 ⟨[(0,.s s),(3,.ptr 1 0 0)],[some (.row false 8 1 (fF [.i .i64 1,.i .i64 0,.b false,.s [],.s [],.s [],.i .i64 0,.i .i64 0] 8)),some (.gA false [.s s,.i .i64 0,.ew 0 0 1,.i .i64 0,.i .i64 0,.i .i64 0,.cQ,.cQ,.i .i64 0])]⟩ ⟨[(0,.s s),(3,.ptr 0 0 0)],[some (.gA false [.s s,.i .i64 0,.ew 1 0 ((bB (oS 0) ln true)).ev.length,.i .i64 ((bB (oS 0) ln true)).cd,.i .i64 (((bB (oS 0) ln true)).pl:Nat),.i .i64 (((bB (oS 0) ln true)).dp:Nat),.ew 2 0 (iu ((bB (oS 0) ln true)).ev ((bB (oS 0) ln true)).dn ((bB (oS 0) ln true)).bs).length,.ew 3 0 ((bB (oS 0) ln true)).hd.length,.i .i64 0]),some (.row false 8 ((bB (oS 0) ln true)).ev.length (bT jO ec ((bB (oS 0) ln true)).ev)),some (.row false 2 (iu ((bB (oS 0) ln true)).ev ((bB (oS 0) ln true)).dn ((bB (oS 0) ln true)).bs).length (bT xI ([],false) (iu ((bB (oS 0) ln true)).ev ((bB (oS 0) ln true)).dn ((bB (oS 0) ln true)).bs))),some (.row false 2 ((bB (oS 0) ln true)).hd.length (bT kl lO ((bB (oS 0) ln true)).hd))]⟩:=by
  have K:iu (bB (oS 0) ln true).ev (bB (oS 0) ln true).dn (bB (oS 0) ln true).bs=[]:=by have:=mW (l:=[]) (d:=[]) (e:=ln) (x:=true) (b:=0) (aN _) rfl;rw[aB (show ln.anchor=[]from rfl)]at this;exact this
  rw[K];exact(cG.trans (b:=⟨[(0,.s s),(3,.ptr 1 0 0)],[some (.row false 8 1 (fF [.i .i64 1,.i .i64 0,.b false,.s [],.s [],.s [],.i .i64 0,.i .i64 0] 8)),some (.gA false [.s s,.i .i64 0,.ew 0 0 1,.i .i64 0,.i .i64 0,.i .i64 0,.ew 2 0 0,.ew 3 0 0,.i .i64 0])]++([(2,bT xI ([],false) []),(2,bT kl lO [])].map fun p=>some (.row false p.1 0 p.2))⟩) (cG.nl [(2,bT xI ([],false) []),(2,bT kl lO [])] (by simp[Od,E3,Vg.look]) (by simp[L7,MI,L8,E3])) (by simp only[aL,cC,eO,eL,gy];exact(cG.cT [1,0,2,3] (by decide) (by simp only[Yd];exact⟨aM (by simp[Yf,bB,oS]),bM fun j hj=>by(obtain rfl:j=0:=by(simp[bB,oS]at hj;omega));rfl,aF fun _=>rfl,aF fun _=>rfl⟩) (by simp[bC,Vg.look,SV.bP,dX]))))
 refine cF.of (ι:={y:Rb×Int×Int // (y.1.r.cd=0/\y.2.1=((y.1.r.pos:Nat):Int)/\yv s y.1.r/\(vI s y.1).r=xV s)\/(y.1.r.cd≠0/\y.1.r.ev=(xV s).ev/\y.1.r.cd=(xV s).cd/\y.1.r.pl=(xV s).pl)}) (fun y=>⟨[(0,.s s),(3,.ptr 0 0 0)],(fk s (y.1.1.r) y.1.2.1 y.1.2.2)⟩) (fun y=>if y.1.1.r.cd=0 then s.length+1-y.1.1.r.pos else 0) ⟨(⟨bB (oS 0) ln true,false,0⟩,0,0),.inl ⟨rfl,rfl,su s,rfl⟩⟩ hE ?_;rintro⟨⟨y,X,fM⟩,I⟩;simp only[YC];simp only[↓X9,X0,seval,X2,im,cy,bI];simp only at I;by_cases a:y.r.cd=0
 ·have g:X=((y.r.pos:Nat):Int)/\yv s y.r/\(vI s y).r=xV s:=by
   rcases I with h|h
   ·exact h.2
   exact absurd a h.1
  obtain⟨M,o,q⟩:=g;subst M;have N:=o.ok;have A:=N.pos;have W:=o.sz;have T:=o.gN;have ab:=fq s y.r.pos;have J:=ez s y.r.pos A;rw[bQ s A,bQ s J];have S:∀w:Rb,Dl s (bI y (atR y.r (dR s y.r.pos)))=w->¬s.length<=dR s y.r.pos->(¬w.r.cd=0->w.r=xV s)/\(w.r.cd=0->yv s w.r/\y.r.pos<w.r.pos/\(vI s w).r=xV s):=fun w r H=>by
   have V:vI s y=if w.r.cd≠0 then w else if y.r.pos<w.r.pos/\y.r.pos<s.length then vI s w else y:=by
    rw[vI,aA H,r];by_cases f:w.r.cd=0
    ·rw[aA (by simpa using f),aA (by simpa using f)];by_cases m:y.r.pos<w.r.pos/\y.r.pos<s.length
     ·rw[bV m,aB m]
     rw[cV m,aA m]
    rw[aB f,aB f]
   refine⟨fun f=>by rw[<-q,V,aB f],fun f=>?_⟩;obtain⟨m,Q⟩:=Lm (x:=bI y (atR y.r (dR s y.r.pos))) hp T (by rw[r];exact f);rw[r]at m Q;simp only[bI,atR]at Q;exact⟨m,by omega,by rw[<-q,V,aA (by simpa using f),aB ⟨by omega,by omega⟩]⟩
  refine⟨fun _=>bH.mk hp fun _=>⟨fun r=>?_,fun r=>bH.mk hp fun _=>⟨fun f=>?_,fun f=>?_⟩⟩,fun F=>absurd a F⟩
  ·have eP:xV s=bB (atR y.r (dR s y.r.pos)) Bz true:=by rw[<-q,vI,aB (by omega)];rfl
   have n:G=y.r.ev++[Bz]:=by rw[t,eP,aA (by simpa[bB,atR]using a)];rfl
   refine⟨dz rfl rfl,CO fun _=>?_⟩;exact⟨[5],by decide,by simp only[Yd];exact eU y.r.ev Bz (fun _=>rfl) n rfl (by rw[n];simp) (fun _ _=>rfl) rfl rfl,by simp only[↓XC,X1,seval];try simp[Yf,n],by simp[da,SO.ro,YC],by simp⟩
  ·have m:¬s.length<=dR s y.r.pos:=by omega
   have R:=SR s (atR y.r (dR s y.r.pos)) fM ⟨hp,a,(jH (s:=s) (p:=dR s y.r.pos) (by rw[f];decide)).1⟩;obtain⟨v,U⟩:∃v,v=sZ s (atR y.r (dR s y.r.pos)):=⟨_,rfl⟩
   rw[<-U]at R;obtain⟨O,P⟩:=S (bI y v) (by unfold Dl;rw[aB (show ib s (bI y (atR y.r (dR s y.r.pos))).r.pos=2 from f),U];rfl) m;refine Vm (R) ?_;simp only[↓X9,X0,seval,X2,im,cy,bI,XM];by_cases i:v.cd=0
   ·obtain⟨m1,m2,m3⟩:=P i;have m4:=m1.ok.pos;refine⟨⟨(bI y v,((v.pos:Nat):Int),fM),.inl ⟨i,rfl,m1,m3⟩⟩, ?_,(cG.cT [0,1,2,3] (by decide) (by simp only[Yd];exact⟨aM (by simp[Yf,Yh,bI]),aF fun _=>rfl,aF fun _=>rfl,aF fun _=>rfl⟩) (by simp[bC,Vg.look,SV.bP,dX,jE,XR,qF,ul,Yh]))⟩;rw[aB a];show(if v.cd=0 then s.length+1-v.pos else 0)<_;rw[aB i];simp only[bI]at m2 m4;omega
   have m1:=O i;refine⟨⟨(bI y v,((v.pos:Nat):Int),fM),.inr ⟨i,by rw[<-m1],by rw[<-m1],by rw[<-m1]⟩⟩, ?_,(cG.cT [0,1,2,3] (by decide) (by simp only[Yd];exact⟨aM (by simp[Yf,Yh,bI]),aF fun _=>rfl,aF fun _=>rfl,aF fun _=>rfl⟩) (by simp[bC,Vg.look,SV.bP,dX,jE,XR,qF,ul,Yh]))⟩;rw[aB a];show(if v.cd=0 then s.length+1-v.pos else 0)<_;rw[aA i];omega
  have m:¬s.length<=dR s y.r.pos:=by omega
  obtain⟨w,hw⟩:∃w,w=zc s (bI y (atR y.r (dR s y.r.pos))):=⟨_,rfl⟩
  have hD:=WW s (bI y (atR y.r (dR s y.r.pos))) fM w hw ⟨h6,T,NC s _,by show dR s y.r.pos<_;omega,f⟩;obtain⟨O,P⟩:=S w (by unfold Dl;rw[aA (show ¬ib s (bI y (atR y.r (dR s y.r.pos))).r.pos=2 from f),hw]) m;refine Vq (hD) ?_;rintro z c ⟨E,a2,B,hA,C,rfl,rfl⟩;simp only[↓X9,X0,seval,X2,im,cy,bI,XM];by_cases k:w.r.cd=0
  ·obtain⟨m1,m2,m3⟩:=P k;have m4:=m1.ok.pos;obtain⟨Y,Z⟩:=hA k;subst Y Z;refine⟨⟨(w,((w.r.pos:Nat):Int),B),.inl ⟨k,rfl,m1,m3⟩⟩, ?_,(cG.cT [0,1,2,3] (by decide) (by simp only[Yd];exact⟨aM (by simp[Yf,Yh,bI]),aF fun _=>rfl,aF fun _=>rfl,aF fun _=>rfl⟩) (by simp[bC,Vg.look,SV.bP,dX,jE,XR,qF,ul,Yh]))⟩;rw[aB a];show(if w.r.cd=0 then s.length+1-w.r.pos else 0)<_;rw[aB k];omega
  have m1:=O k;have u:¬E.cd=0:=by rw[C.2.1];exact k
  refine⟨⟨((⟨E,false,0⟩:Rb),a2,B),.inr ⟨u,by rw[<-m1];exact C.1,by rw[<-m1];exact C.2.1,by rw[<-m1];exact C.2.2⟩⟩, ?_,(cG.cT [0,1,2,3] (by decide) (by simp only[Yd];exact⟨aM (by simp[Yf,Yh,bI]),aF fun _=>rfl,aF fun _=>rfl,aF fun _=>rfl⟩) (by simp[bC,Vg.look,SV.bP,dX,jE,XR,qF,ul,Yh]))⟩;rw[aB a];show(if E.cd=0 then s.length+1-E.pos else 0)<_;rw[aA u];omega
 have g:y.r.ev=(xV s).ev/\y.r.cd=(xV s).cd/\y.r.pl=(xV s).pl:=by
  rcases I with h|h
  ·exact absurd h.1 a
  exact h.2
 have n:G=y.r.ev++[uJ y.r.cd y.r.pl]:=by rw[t,aB (by rw[<-g.2.1];exact a),<-g.1,<-g.2.1,<-g.2.2]
 have ad:y.r.ev.length<=8*s.length+71:=by rw[g.1];exact L
 refine⟨fun F=>absurd F a,fun _=>⟨by decide +kernel, ?_⟩⟩;refine⟨dz rfl rfl,CO fun _=>?_⟩;exact⟨[5],by decide,by simp only[Yd];exact eU y.r.ev (uJ y.r.cd y.r.pl) (fun _=>rfl) n rfl (by rw[n];simp) (fun _ _=>rfl) rfl rfl,by simp only[↓XC,X1,seval];try simp[Yf,n],by simp[da,SO.ro,YC],by simp⟩
noncomputable def tM:=gC fun(s:Bs)=>([.s s],s.length<=1048576,.fs 8 ((E5 s).map jO))
theorem BM{s:Bs}:tM [.s s]=some (ptr tM rfl s):=iZ
theorem BN:fO Tryz.prog 22 tM:=gJ fun s hp=>PF.xP (Fb s hp) rfl rfl (by simp only[jf,iJ,jX,iT,du,dD];exact⟨⟨by omega,fun j a=>⟨rfl,rfl⟩⟩,by rw[et rfl]⟩)
end Go.T
end
section
namespace Go.T
variable[Go.Vg.df][Go.Vg.cS 0 1]
open Go.Proofs Go.Vg Go.RowKit Go.TT Go.Pl
set_option maxRecDepth 10000
set_option maxHeartbeats 4000000
noncomputable def Ay:=gC fun((l,a):List Ev×Cu)=>([.fs 8 (l.map jO),.agg [.s a.tx,.i .i64 a.place,.fs 1 (a.st.map dC),.fs 3 (a.ms.map kD),.i .i64 a.la]],(l.length<=1048576/\eQ l=true/\nW l=true)/\a.st.length<=1048576/\a.ms.length<=1048576/\∀m∈a.ms,m.st.length<=1048576,.b (decide (sH l a)))
theorem GC{l:List Ev}{a:Cu}:Ay [.fs 8 (l.map jO),.agg [.s a.tx,.i .i64 a.place,.fs 1 (a.st.map dC),.fs 3 (a.ms.map kD),.i .i64 a.la]]=some (ptr Ay rfl (l,a)):=qK (ai @mo (ai @gT (ai @lP @Cu.ext_iff)))
theorem GD:fO Tryz.prog 89 Ay:=gJ fun(l,a) hp=>by
 dsimp only at *;refine HF BW.d 74 [[0,3],[0,3,29],[4],[0,3,31,32,33],[0,3,31,32,33,34],[0,3,5,6,31,32,33],[0,3,31,32,33,72],[4],[0,3,31,32,33],[4]] Tryz.func89 [.tmp 4] (fun _=>false) [] [(6,[],[],.q1 0 (.q0 1 [1] (.q1 2 (.q1 3 (.q1 4 (.q1 6 (.q0 5 [5] (.q0 7 [7] (.q1 8 (qh (.q1 14 (.q1 16 (.q1 17 (.q1 21 (.q0 15 [15] (.q1 18 (.q1 19 (.q0 20 [20] (.q0 22 [22] (.q1 23 (.q1 24 (.q1 25 (.q1 26 (.q1 27 (.q1 28 (.q1 30 (.q0 29 [29] (.q0 31 [31] (.de 32 (.q1 33 (.q1 34 .fin)) .fin)))))))))))))))))))))))))))))] ?_;simp only[↓XC,X1,seval,dB,oD,jE,XR,XM,uB];obtain⟨⟨f,g,j⟩,r,hm,e⟩:=hp;refine bH.mk ⟨f,g,j⟩ fun _=>⟨fun h=>?_,fun h=>?_⟩
 ·have:¬sH l a:=fun⟨k,p,m,_⟩=>by
   simp only[aV,aY,aR,bD,aD,bA,aO,aE]at h;rcases h with((h|h)|h)|h
   ·exact h k
   ·omega
   ·omega
   omega
  rw[aI this]
 have d:Fit l a.place a.st/\(0<=a.la/\a.la<=4294967295)/\a.ms.length<=10:=by simp only[aV,aY,aR,bD,aD,bA,aO,aE]at h;exact⟨h.1.1.1,by omega,by omega⟩
 refine cF.of (ι:={i:Nat // i<=a.ms.length/\x9 l a i}) (fun x=>⟨[(0,.fs 8 (l.map jO)),(3,.ptr 0 0 0),(31,.fs 3 (a.ms.map kD)),(32,.i .i64 (a.ms.length:Nat)),(33,.i .i64 (x.1:Nat))],[some (.gA false [.s a.tx,.i .i64 a.place,.fs 1 (a.st.map dC),.fs 3 (a.ms.map kD),.i .i64 a.la])]⟩) (fun x=>a.ms.length-x.1) ⟨0,bF _,fun i h=>absurd h (aT _)⟩ (cG.refl _ _) ?_;rintro⟨i,q,c⟩;simp only[↓XC,X1,seval,dB,oD,jE,XR,XM,uB];refine⟨fun h=>CO fun _=>?_,fun h=>?_⟩
 ·have b:i<a.ms.length:=by omega
  have hm:=e _ (kW (z:=nB) b);rw[uh b];simp only[↓XC,X1,seval,dB,oD,jE,XR,XM,uB];have g1:=c.pos;have g3:qt a.ms i=if i=0 then 0 else(a.ms.getD (i-1) nB).id:=rfl;simp only[show((i:Int)-1).toNat=i-1 by omega];refine⟨by decide +kernel,bH.mk (fun _=>by simp only[iU];omega) fun _=>bH.mk (fun h=>?_) fun _=>bH.mk (fun h=>⟨⟨h,h,h⟩,f,g,j⟩) fun _=>⟨fun h=>?_,fun h=>?_⟩⟩
  ·simp only[aV,aY,aR,bD,aD,bA,aO,aE]at h;omega
  ·have:¬sH l a:=fun o=>by
    obtain⟨⟨k,p⟩,m⟩:=o.2.2.2 i b;rw[aJ m]at h;simp only[dQ,fT,aV,aY,aR,bD,aD,bA,aO,aE]at h;rcases h with(h|h)|h
    ·omega
    ·omega
    rw[aA (by omega)]at g3;omega
   rw[aI this]
  simp only[aV,aY,aR,bD,aD,bA,aO,aE]at h;have n:qt a.ms i+1<=(a.ms.getD i nB).id/\(a.ms.getD i nB).id<=a.la:=by
   split at g3
   ·omega
   have:=h.1.2;omega
  exact CR fun _=>⟨⟨i+1,by omega,c.step n h.2⟩,by simp only;omega,(cG.cT [0] (by decide) (by simp only[Yd];exact aM (by simp[Yf])) (by simp[bC,Vg.look,SV.bP,dX]))⟩
 obtain rfl:i=a.ms.length:=by omega
 rw[aJ (show sH l a from⟨d.1,d.2.1,d.2.2,c⟩)]
noncomputable def n5:=gC fun(a:Cu)=>([.agg [.s a.tx,.i .i64 a.place,.fs 1 (a.st.map dC),.fs 3 (a.ms.map kD),.i .i64 a.la]],a.tx.length<=1048576/\a.st.length<=1048576/\a.ms.length<=1048576/\∀m∈a.ms,m.st.length<=1048576,.b (decide (sH (E5 a.tx) a)))
theorem wi{a:Cu}:n5 [.agg [.s a.tx,.i .i64 a.place,.fs 1 (a.st.map dC),.fs 3 (a.ms.map kD),.i .i64 a.la]]=some (ptr n5 rfl a):=qK (ai @gT (ai @lP @Cu.ext_iff))
theorem wj:fO Tryz.prog 46 n5:=gJ fun a hp=>by dsimp only at *;refine HF (BN.c GD.d) 8 [[1],[2]] Tryz.func46 [.tmp 2] (fun _=>false) [] [(1,[],[],.g (.q1 0 (.q0 1 [1] (.q0 3 [3] (.de 2 (.de 4 (.q1 5 .fin) .fin) .fin)))))] ?_;simp only[↓XC,X1,seval,dB,BM,GC,jE,XR,XM,uB];obtain⟨c,d,e,f⟩:=hp;have b:=UQ a.tx;have g:=Ru a.tx;exact⟨by decide +kernel,bH.mk c fun _=>bH.mk ⟨⟨by omega,b.1,b.2.1⟩,d,e,f⟩ fun _=>trivial⟩
noncomputable def n2:=gC fun(a:Cu)=>([.agg [.s a.tx,.i .i64 a.place,.fs 1 (a.st.map dC),.fs 3 (a.ms.map kD),.i .i64 a.la]],a.tx.length<=1048576/\a.st.length<=1048576/\a.ms.length<=1048576/\∀m∈a.ms,m.st.length<=1048576,.b (decide (sH (xU a.tx) a)))
theorem we{a:Cu}:n2 [.agg [.s a.tx,.i .i64 a.place,.fs 1 (a.st.map dC),.fs 3 (a.ms.map kD),.i .i64 a.la]]=some (ptr n2 rfl a):=qK (ai @gT (ai @lP @Cu.ext_iff))
theorem wg:fO Tryz.prog 25 n2:=gJ fun a hp=>by dsimp only at *;refine HP pn 11 [[1],[4],[2]] Tryz.func25 [.tmp 2] ?_;simp only[↓XC,X1,seval,dB,jE,XR,XM,uB];refine eS.own (Jb a hp) rfl ?_;simp only[↓XC,X1,seval,dB,jE,XR,XM,uB]
end Go.T
end
