/- Own text: part VAV. -/
import Derived.Test.YtgippllfnmdnpaaGreatDoorVAT
set_option linter.all false
section
namespace Go.T
variable[Go.Vg.df]
open Go.Proofs Go.Vg Go.RowKit Go.TT Go.Pl
set_option maxRecDepth 10000
set_option maxHeartbeats 4000000
noncomputable def Ep:=gC fun((s,c):Bs×Int)=>([.s s,.i .u8 c],s.length<=1048576,.i .i64 (CM s c))
theorem IN{s:Bs}{c:Int}:Ep [.s s,.i .u8 c]=some (ptr Ep rfl (s,c)):=iZ
theorem IP:fO Tryz.prog 275 Ep:=gJ fun(s,c) hp=>by
 dsimp only at *;refine HP pn 19 [[0,1],[0,1,5],[0,1,5,10],[0,1,5],[0,1,5,17],[4],[4]] Tryz.func275 [.tmp 4] ?_;simp only[↓XC,X1,seval,dB];refine CR fun _=>?_;refine cF.of (ι:={i:Nat // i<=s.length/\pL s c i=CM s c}) (fun x=>⟨[(0,.s s),(1,.i .u8 c),(5,.i .i64 ((x.1:Nat)-1))],[]⟩) (fun x=>x.1) ⟨s.length,aN _,rfl⟩ (cG.refl _ _) ?_;rintro⟨i,f,b⟩;simp only[↓XC,X1,seval,dB];refine⟨fun h=>?_,fun h=>?_⟩
 ·obtain⟨k,rfl⟩:∃k,i=k+1:=⟨i-1,by omega⟩
  have d:(((k+1:Nat):Int)-1).toNat=k:=by omega
  have e:((k+1:Nat):Int)-1=(k:Nat):=by omega
  rw[d,e];refine CO fun _=>⟨fun a=>?_,fun a=>CR fun _=>⟨⟨k,by omega, ?_⟩,by simp only;omega,cG.refl _ _⟩⟩
  ·rw[<-b,pL,aB a]
  rw[<-b];conv=>rhs;rw[pL,aA a]
 obtain rfl:i=0:=by omega
 rw[<-b];rfl
noncomputable def Er:=gC fun((s,c):Bs×Int)=>([.s s,.i .u8 c],s.length<=1048576,.i .i64 (CM s c))
theorem Az{s:Bs}{c:Int}:Er [.s s,.i .u8 c]=some (ptr Er rfl (s,c)):=iZ
theorem AA:fO Tryz.prog 247 Er:=gJ fun(s,c) hp=>by dsimp only at *;refine HP IP.d 8 [[0,1],[4]] Tryz.func247 [.tmp 4] ?_;simp only[↓XC,X1,seval,dB,IN];exact bH.mk hp fun _=>trivial
noncomputable def ru:=gC fun((s,p):Bs×Int)=>([.s s,.i .i64 p],s.length<=1048576,.i .i64 (la s (spot s p):Nat))
theorem iw{s:Bs}{p:Int}:ru [.s s,.i .i64 p]=some (ptr ru rfl (s,p)):=iZ
theorem iW:fO Tryz.prog 209 ru:=gJ fun(s,p) hp=>by dsimp only at *;refine HP (eh.c AA.d) 12 [[0,1],[4]] Tryz.func209 [.tmp 4] ?_;simp only[↓XC,X1,seval,dB,eg,Az];have a:=dW s p;have b:=NX a;have c:=nP s (spot s p);rw[b];exact CO fun _=>bH.mk (by simp only[aZ];omega) fun _=>CR fun _=>rfl
noncomputable def rv:=gC fun((s,p):Bs×Int)=>([.s s,.i .i64 p],s.length<=1048576,.i .i64 (la s (spot s p):Nat))
theorem iy{s:Bs}{p:Int}:rv [.s s,.i .i64 p]=some (ptr rv rfl (s,p)):=iZ
theorem iX:fO Tryz.prog 164 rv:=gJ fun(s,p) hp=>by
 dsimp only at *;refine HP eD.d 20 [[0,1],[0,1],[0,1,16],[0,1],[4]] Tryz.func164 [.tmp 4] ?_;simp only[↓XC,X1,seval,dB,eB];refine cF.of (ι:={q:Nat // q<=s.length/\la s q=la s (spot s p)}) (fun x=>⟨[(0,.s s),(1,.i .i64 (x.1:Nat))],[]⟩) (fun x=>x.1) ⟨spot s p,dW s p,rfl⟩ (cG.refl _ _) ?_;rintro⟨q,e,hw⟩;simp only[↓XC,X1,seval,dB];refine bH.mk (fun h=>by simp only[iU];omega) fun _=>bH.mk (fun h=>by omega) fun _=>⟨fun h=>?_,fun h=>?_⟩
 ·have d:0<q:=by simp at h;omega
  obtain⟨k,rfl⟩:∃k,q=k+1:=⟨q-1,by omega⟩
  have a:(((k+1:Nat):Int)-1).toNat=k:=by omega
  have c:((k+1:Nat):Int)-1=(k:Nat):=by omega
  rw[a]at h;rw[c];refine CR fun _=>⟨⟨k,by omega, ?_⟩,by simp only;omega,cG.refl _ _⟩
  rw[<-WM (by omega) (by simp only[Yi]at h;omega)];exact hw
 rw[<-hw];rcases dO q with b|b
 ·subst b;rfl
 obtain⟨k,rfl⟩:∃k,q=k+1:=⟨q-1,by omega⟩
 have a:(((k+1:Nat):Int)-1).toNat=k:=by omega
 rw[a]at h;rw[WN (by omega) (by simp only[Yi]at h;omega)]
noncomputable def ry:=gC fun((s,p):Bs×Int)=>([.s s,.i .i64 p],s.length<=1048576,.i .i64 (ib s (spot s p)))
theorem bR{s:Bs}{p:Int}:ry [.s s,.i .i64 p]=some (ptr ry rfl (s,p)):=iZ
theorem hJ:fO Tryz.prog 144 ry:=gJ fun(s,p) hp=>by
 dsimp only at *;refine HP (eh.c (iW.c iO.d)) 36 [[0,1],[0,1],[0,1,26],[4],[31],[31,32],[4],[34],[4],[4]] Tryz.func144 [.tmp 4] ?_;simp only[↓XC,X1,seval,dB,eg,iw,dq];have d:=dW s p;rw[bQ s d];have c:((spot s p:Nat)+3:Int).toNat=spot s p+3:=by omega
 rw[c];generalize spot s p=q at *;have f:(!decide ((la s q:Int)=(q:Int))||decide ((s.length:Int)-(q:Int)<3)||!gN s (q+3))=!decide (la s q=q/\q+3<=s.length/\gN s (q+3)=true):=by rw[bO];simp only[aV,aR,aE,aO];cases gN s (q+3)<;>simp<;>omega
 rw[f];refine bH.mk hp fun _=>bH.mk (fun _=>by simp only[iU];omega) fun _=>bH.mk (fun _=>by simp only[iU];omega) fun _=>bH.mk (fun h=>⟨⟨h,h⟩,hp,by omega⟩) fun _=>⟨fun h=>?_,fun h=>?_⟩
 ·rw[D5 (by intro g;rw[aJ g]at h;cases h)]
 have e:la s q=q/\q+3<=s.length/\gN s (q+3)=true:=by simpa using h
 refine CR fun _=>CO fun _=>?_;unfold ib sub;rw[aB e];refine⟨fun a=>by rw[aB a],fun a=>⟨fun b=>by rw[aA a,aB b],fun b=>by rw[aA a,aA b]⟩⟩
noncomputable def rz:=gC fun((s,p):Bs×Int)=>([.s s,.i .i64 p],s.length<=1048576,.i .i64 (ib s (spot s p)))
theorem cy{s:Bs}{p:Int}:rz [.s s,.i .i64 p]=some (ptr rz rfl (s,p)):=iZ
theorem hO:fO Tryz.prog 84 rz:=gJ fun(s,p) hp=>by
 dsimp only at *;refine HP (eD.c (iX.c iN.d)) 36 [[0,1],[0,1],[0,1,26],[4],[31],[31,32],[4],[34],[4],[4]] Tryz.func84 [.tmp 4] ?_;simp only[↓XC,X1,seval,dB,eB,iy,dT];have d:=dW s p;rw[bQ s d];have c:((spot s p:Nat)+3:Int).toNat=spot s p+3:=by omega
 rw[c];generalize spot s p=q at *;have f:(!decide ((la s q:Int)=(q:Int))||decide ((s.length:Int)-(q:Int)<3)||!gN s (q+3))=!decide (la s q=q/\q+3<=s.length/\gN s (q+3)=true):=by rw[bO];simp only[aV,aR,aE,aO];cases gN s (q+3)<;>simp<;>omega
 rw[f];refine bH.mk hp fun _=>bH.mk (fun _=>by simp only[iU];omega) fun _=>bH.mk (fun _=>by simp only[iU];omega) fun _=>bH.mk (fun h=>⟨⟨h,h⟩,hp,by omega⟩) fun _=>⟨fun h=>?_,fun h=>?_⟩
 ·rw[D5 (by intro g;rw[aJ g]at h;cases h)]
 have e:la s q=q/\q+3<=s.length/\gN s (q+3)=true:=by simpa using h
 refine CR fun _=>CO fun _=>?_;unfold ib sub;rw[aB e];refine⟨fun a=>by rw[aB a],fun a=>⟨fun b=>by rw[aA a,aB b],fun b=>by rw[aA a,aA b]⟩⟩
noncomputable def p6:=gC fun((s,p):Bs×Int)=>([.s s,.i .i64 p],s.length<=1048576/\0<=p/\p<=s.length+1,.i .i64 (mw s p.toNat:Nat))
theorem qy{s:Bs}{p:Int}:p6 [.s s,.i .i64 p]=some (ptr p6 rfl (s,p)):=iZ
theorem qz:fO Tryz.prog 237 p6:=gJ fun(s,p) hp=>by
 dsimp only at *;refine HP (iO.c (dv.c kZ.d)) 19 [[0,1],[0,1,15],[0,1],[4]] Tryz.func237 [.tmp 4] ?_;simp only[↓XC,X1,seval,dB,dq,bL,dV];refine cF.of (ι:={q:Nat // p.toNat<=q/\q<=s.length+1/\mw s q=mw s p.toNat}) (fun x=>⟨[(0,.s s),(1,.i .i64 (x.1:Nat))],[]⟩) (fun x=>s.length+1-x.1) ⟨p.toNat,aN _,by omega,rfl⟩ (by rw[show((p.toNat:Nat):Int)=p by omega];exact cG.refl _ _) ?_;rintro⟨q,c,d,hw⟩;simp only[↓XC,X1,seval,dB,dq,bL,dV];have b:bW s (spot s (q:Int))=bW s q:=by rw[j0 (by omega)];rfl
 rw[b];refine bH.mk ⟨hp.1,by omega⟩ fun _=>bH.mk (fun h=>⟨⟨h,h⟩,hp.1⟩) fun _=>⟨fun h=>CR fun _=>?_,fun h=>?_⟩
 ·have a:gN s q=false/\re (bW s q)=false:=by simpa using h
  have e:=gD a.1;exact⟨⟨q+1,by omega,by omega,by rw[<-Pv a];exact hw⟩,by simp only;omega,(by first|exact cG.refl _ _|(simp only[aP,aQ];exact cG.refl _ _))⟩
 rw[<-hw,SX];simpa using h
noncomputable def p7:=gC fun((s,p):Bs×Int)=>([.s s,.i .i64 p],s.length<=1048576/\0<=p/\p<=s.length+1,.i .i64 (mw s p.toNat:Nat))
theorem qA{s:Bs}{p:Int}:p7 [.s s,.i .i64 p]=some (ptr p7 rfl (s,p)):=iZ
theorem qB:fO Tryz.prog 322 p7:=gJ fun(s,p) hp=>by
 dsimp only at *;refine HP (iN.c kX.d) 19 [[0,1],[0,1,15],[0,1],[4]] Tryz.func322 [.tmp 4] ?_;simp only[↓XC,X1,seval,dB,dT,fa];refine cF.of (ι:={q:Nat // p.toNat<=q/\q<=s.length+1/\mw s q=mw s p.toNat}) (fun x=>⟨[(0,.s s),(1,.i .i64 (x.1:Nat))],[]⟩) (fun x=>s.length+1-x.1) ⟨p.toNat,aN _,by omega,rfl⟩ (by rw[show((p.toNat:Nat):Int)=p by omega];exact cG.refl _ _) ?_;rintro⟨q,e,f,hw⟩;simp only[↓XC,X1,seval,dB,dT,fa];have c:gN s q=false->((s.getD q 0).toNat:Int)=bW s q:=fun h=>(cW (gD h)).symm;refine bH.mk ⟨hp.1,by omega⟩ fun _=>bH.mk (fun h=>by have:=gD (show gN s q=false by simpa using h);omega) fun _=>⟨fun h=>CR fun _=>?_,fun h=>?_⟩
 ·have d:gN s q=false:=by simp at h;exact h.1
  rw[c d]at h;have a:gN s q=false/\re (bW s q)=false:=by simpa using h
  have b:=gD a.1;exact⟨⟨q+1,by omega,by omega,by rw[<-Pv a];exact hw⟩,by simp only;omega,(by first|exact cG.refl _ _|(simp only[aP,aQ];exact cG.refl _ _))⟩
 rw[<-hw,SX];rintro⟨a,b⟩;rw[c a,a,b]at h;cases h
noncomputable def rA:=gC fun((s,p):Bs×Int)=>([.s s,.i .i64 p],s.length<=1048576,.fJ [.s (jm s (spot s p)).1,.i .i64 (jm s (spot s p)).2.1,.b (jm s (spot s p)).2.2])
theorem ni{s:Bs}{p:Int}:rA [.s s,.i .i64 p]=some (ptr rA rfl (s,p)):=iZ
theorem nj:fO Tryz.prog 190 rA:=gJ fun(s,p) hp=>by
 dsimp only at *;refine HP (eh.c (dv.c (qz.c iL.d))) 37 [[0,1],[0,1],[0,1,7],[0,1,20],[4,5,6],[0,1,8],[0,1,8,30],[4,5,6],[4,5,6]] Tryz.func190 [.tmp 4,.tmp 5,.tmp 6] ?_;simp only[↓XC,X1,seval,dB,eg,bL,qy,gv];have e:=dW s p;rw[bQ s e];have d:((spot s p:Nat)+1:Int).toNat=spot s p+1:=by omega
 rw[d];generalize spot s p=q at *;have g:=I5 s (q+1);refine bH.mk hp fun _=>⟨fun h=>?_,fun h=>CR fun _=>bH.mk ⟨hp,by omega,by omega⟩ fun _=>?_⟩
 ·rw[CX];rintro⟨f,_⟩;simp at h;omega
 have c:bW s q=38\/bW s q=42:=by
  by_cases a:bW s q=38
  ·exact .inl a
  simp[a]at h;exact .inr h
 have j:q<s.length:=by
  rcases aU q s.length with a|a
  ·exact a
  rw[eZ a]at c;omega
 have f:=r8 s (q+1) (by omega);refine CR fun _=>CR fun _=>⟨fun a=>?_,fun a=>CR fun _=>?_⟩
 ·rw[CX];rintro⟨_,b,i⟩;simp at a;omega
 have b:q+2<=mw s (q+1)/\mw s (q+1)<=q+61:=by simp at a;omega
 exact CO fun _=>by rw[Ky ⟨c,b⟩];rfl
noncomputable def rB:=gC fun((s,p):Bs×Int)=>([.s s,.i .i64 p],s.length<=1048576,.fJ [.s (jm s (spot s p)).1,.i .i64 (jm s (spot s p)).2.1,.b (jm s (spot s p)).2.2])
theorem fG{s:Bs}{p:Int}:rB [.s s,.i .i64 p]=some (ptr rB rfl (s,p)):=iZ
theorem nk:fO Tryz.prog 286 rB:=gJ fun(s,p) hp=>by
 dsimp only at *;refine HP (eD.c qB.d) 48 [[0,1],[0,1],[0,1,26],[4,5,6],[0,1,7],[0,1,7,41],[4,5,6],[4,5,6]] Tryz.func286 [.tmp 4,.tmp 5,.tmp 6] ?_;simp only[↓XC,X1,seval,dB,eB,qA];have g:=dW s p;have d:((spot s p:Nat)+1:Int).toNat=spot s p+1:=by omega
 rw[d];generalize spot s p=q at *;have i:=I5 s (q+1);refine bH.mk (fun h=>by simp at h;omega) fun _=>bH.mk (fun h=>by simp at h;omega) fun _=>⟨fun h=>?_,fun h=>CR fun _=>bH.mk ⟨hp,by omega,by omega⟩ fun _=>?_⟩
 ·rw[CX];rintro⟨c,_⟩;rcases aU q s.length with a|a
  ·rw[cW a]at c;simp only[Yi]at h;omega
  rw[eZ a]at c;omega
 have f:q<s.length:=by simp at h;omega
 have e:bW s q=38\/bW s q=42:=by
  rw[cW f];by_cases a:((s.getD q 0).toNat:Int)=38
  ·exact .inl a
  have b:=h;simp only[a]at b;simp at b;exact .inr (by have:=b.2;simpa using this)
 have c:=r8 s (q+1) (by omega);refine CR fun _=>bH.mk (fun _=>by simp only[iU];omega) fun _=>bH.mk (fun _=>by simp only[iU];omega) fun _=>⟨fun a=>?_,fun a=>CR fun _=>?_⟩
 ·rw[CX];rintro⟨_,b,j⟩;simp only[Yi]at a;omega
 have b:q+2<=mw s (q+1)/\mw s (q+1)<=q+61:=by simp only[Yi]at a;omega
 exact CO fun _=>by rw[Ky ⟨e,b⟩];rfl
noncomputable def tV:=gC fun(b:Int)=>([.i .i64 b],True,.b (b==39||b==34))
theorem dY{b:Int}:tV [.i .i64 b]=some (ptr tV rfl b):=iZ
theorem kr:fO Tryz.prog 191 tV:=gJ fun b _=>by dsimp only at *;refine HP pn 9 [[0],[2]] Tryz.func191 [.tmp 2] ?_;simp only[↓XC,X1,seval,dB];rfl
noncomputable def me:=gC fun((s,p,fl):Bs×Int×Bool)=>([.s s,.i .i64 p,.b fl],s.length<=1048576,.b (yE s (spot s p) fl))
theorem cU{s:Bs}{p:Int}{fl:Bool}:me [.s s,.i .i64 p,.b fl]=some (ptr me rfl (s,p,fl)):=iZ
theorem iY:fO Tryz.prog 101 me:=gJ fun(s,p,fl) hp=>by
 dsimp only at *;refine HP (eh.c (dv.c (iO.c (wM.c kZ.d)))) 57 [[0,1,2],[0,1,2],[0,1,2,7],[0,1,2,7,30],[6],[0,1,2,40],[6],[6]] Tryz.func101 [.tmp 6] ?_;simp only[↓XC,X1,seval,dB,eg,bL,dq,wL,dV];have j:=dW s p;rw[bQ s j];have d:((spot s p:Nat)+1:Int).toNat=spot s p+1:=by omega
 have g:bW s (spot s ((spot s p:Nat)+1:Int))=bW s (spot s p+1):=by rw[j0 (by omega),d]
 rw[g,d];generalize spot s p=q at *;have k:=mC s q;refine bH.mk hp fun _=>bH.mk ⟨hp,by omega⟩ fun _=>?_;have a:gN s q=true\/gN s q=false:=by cases gN s q<;>simp
 rcases a with a|a
 ·rw[a,Ex a];simp
 have b:=gD a;have e:=Rr (s.getD q 0);rw[<-cW b]at e;have i:UInt8.ofNat (bW s q).toNat=s.getD q 0:=by rw[cW b];simp
 rw[i,Uj,a];simp only[cX];rw[e];refine bH.mk (fun _=>by rw[cW b];have:=(s.getD q 0).toNat_lt;simp only[iU];omega) fun _=>⟨fun h=>?_,fun h=>?_⟩
 ·rw[OS (by simpa using h)]
 have f:¬s.getD q 0∈IR:=by simpa using h
 refine⟨fun c=>?_,fun c=>?_⟩
 ·rw[GF a f (by simpa[or_assoc]using c)];exact CR fun _=>bH.mk ⟨hp,by omega⟩ fun _=>bH.mk (fun _=>by simp only[iU];omega) fun _=>bH.mk (fun h=>⟨⟨h,h⟩,hp⟩) fun _=>rfl
 rw[KY a f (by simpa[fe]using c)]
noncomputable def ow:=gC fun((s,p,fl):Bs×Int×Bool)=>([.s s,.i .i64 p,.b fl],s.length<=1048576,.i .i64 (kj s (spot s p) fl:Nat))
theorem iQ{s:Bs}{p:Int}{fl:Bool}:ow [.s s,.i .i64 p,.b fl]=some (ptr ow rfl (s,p,fl)):=iZ
theorem lI:fO Tryz.prog 102 ow:=gJ fun(s,p,fl) hp=>by
 dsimp only at *;refine HP (eh.c (dv.c (lS.c (iO.c (kZ.c jo.d))))) 79 [[0,1,2],[0,1,2],[0,1,2,7],[0,1,2,7,18],[0,1,2,7,8],[0,1,2,7,8,9],[0,1,2,7,63],[0,1,2,7],[0,1,7,75],[0,1,7],[6]] Tryz.func102 [.tmp 6] ?_;simp only[↓XC,X1,seval,dB,eg,bL,ko,dq,dV,dL];have v:=dW s p;refine cF.of (ι:={q:Nat // spot s p<=q/\q<=s.length/\HQ s (spot s p) fl q=HQ s (spot s p) fl (spot s p)}) (fun x=>⟨[(0,.s s),(1,.i .i64 (spot s p:Nat)),(2,.b fl),(7,.i .i64 (x.1:Nat))],[]⟩) (fun x=>s.length-x.1) ⟨spot s p,aN _,v,rfl⟩ (cG.refl _ _) ?_;rintro⟨q,f,a,hw⟩;simp only[↓XC,X1,seval,dB,ko,bL,dL,dq,dV];have r:((q:Nat)+1:Int).toNat=q+1:=by omega
 have t:bW s (spot s ((q:Nat)+1:Int))=bW s (q+1):=by rw[j0 (by omega),r]
 have u:spot s ((q:Int)-1)=q-1:=by unfold spot;omega
 have w:(bW s q==10||decide (bW s q<0))=kH s q:=rfl;have c:(decide (bW s q=35)&&decide ((q:Int)>(spot s p:Nat))&&(bW s (q-1)==32||bW s (q-1)==9)||decide (bW s q=58)&&(gN s (q+1)||fl&&re (bW s (q+1)))||fl&&re (bW s q))=IB s (spot s p) fl q:=by unfold IB nD;rw[show decide ((q:Int)>((spot s p:Nat):Int))=decide (spot s p<q)from by rw[cZ];omega]
 rw[t,r,u,bQ s a,w];rw[c];refine bH.mk hp fun _=>⟨fun i=>?_,fun i=>?_⟩
 ·have d:kH s q=false:=by simpa using i
  have y:=kb d;refine bH.mk hp fun _=>CR fun _=>bH.mk ⟨hp,by omega⟩ fun _=>bH.mk (fun _=>by simp only[iU];omega) fun _=>bH.mk (fun h=>⟨⟨h,h⟩,hp⟩) fun _=>bH.mk (fun h=>by simp only[iU];omega) fun _=>bH.mk (fun h=>⟨⟨h,h⟩,hp⟩) fun _=>⟨fun o=>?_,fun o=>CR fun _=>⟨⟨q+1,by omega,by omega,by rw[<-ON ⟨d,o⟩];exact hw⟩,by simp only;omega,(by first|exact cG.refl _ _|(simp only[aP,aQ];exact cG.refl _ _))⟩⟩
  have l:¬(kH s q=false/\IB s (spot s p) fl q=false):=by rw[o];simp
  refine cF.of (ι:={q:Nat // spot s p<=q/\q<=s.length/\EY s (spot s p) q=kj s (spot s p) fl}) (fun x=>⟨[(0,.s s),(1,.i .i64 (spot s p:Nat)),(7,.i .i64 (x.1:Nat))],[]⟩) (fun x=>x.1) ⟨q,f,a,by rw[kj,<-hw,Gx l]⟩ (by(try simp only[aP,aQ]);exact cG.nil (by simp[bC,Vg.look,SV.bP])) ?_;rintro⟨k,m,n,e⟩;simp only[↓XC,X1,seval,dB,dL,bL];have g:spot s ((k:Int)-1)=k-1:=by unfold spot;omega
  have c:(decide ((k:Int)>(spot s p:Nat))&&(bW s (k-1)==32||bW s (k-1)==9))=decide (spot s p<k/\nD s (k-1)=true):=by rw[bO,aD,aE,aE,fg,dF];rfl
  rw[g,c];refine bH.mk (fun h=>by simp only[iU];omega) fun _=>bH.mk (fun h=>⟨⟨h,h⟩,hp⟩) fun _=>⟨fun h=>?_,fun h=>?_⟩
  ·have b:=aW h;refine CR fun _=>⟨⟨k-1,by omega,by omega,by rw[<-Fz b.1 b.2];exact e⟩,by simp only;omega, ?_⟩
   rw[show((k:Int)-1)=((k-1:Nat):Int) by omega];exact cG.refl _ _
  rw[<-e,Fy (bE h)]
 have j:kH s q=true:=by simpa using i
 have l:¬(kH s q=false/\IB s (spot s p) fl q=false):=by rw[j];simp
 refine cF.of (ι:={q:Nat // spot s p<=q/\q<=s.length/\EY s (spot s p) q=kj s (spot s p) fl}) (fun x=>⟨[(0,.s s),(1,.i .i64 (spot s p:Nat)),(7,.i .i64 (x.1:Nat))],[]⟩) (fun x=>x.1) ⟨q,f,a,by rw[kj,<-hw,Gx l]⟩ (by(try simp only[aP,aQ]);exact cG.nil (by simp[bC,Vg.look,SV.bP])) ?_;rintro⟨k,m,n,e⟩;simp only[↓XC,X1,seval,dB,dL,bL];have g:spot s ((k:Int)-1)=k-1:=by unfold spot;omega
 have c:(decide ((k:Int)>(spot s p:Nat))&&(bW s (k-1)==32||bW s (k-1)==9))=decide (spot s p<k/\nD s (k-1)=true):=by rw[bO,aD,aE,aE,fg,dF];rfl
 rw[g,c];refine bH.mk (fun h=>by simp only[iU];omega) fun _=>bH.mk (fun h=>⟨⟨h,h⟩,hp⟩) fun _=>⟨fun h=>?_,fun h=>?_⟩
 ·have b:=aW h;refine CR fun _=>⟨⟨k-1,by omega,by omega,by rw[<-Fz b.1 b.2];exact e⟩,by simp only;omega, ?_⟩
  rw[show((k:Int)-1)=((k-1:Nat):Int) by omega];exact cG.refl _ _
 rw[<-e,Fy (bE h)]
noncomputable def ox:=gC fun((s,p,fl):Bs×Int×Bool)=>([.s s,.i .i64 p,.b fl],s.length<=1048576,.i .i64 (kj s (spot s p) fl:Nat))
theorem iR{s:Bs}{p:Int}{fl:Bool}:ox [.s s,.i .i64 p,.b fl]=some (ptr ox rfl (s,p,fl)):=iZ
theorem pa:fO Tryz.prog 295 ox:=gJ fun(s,p,fl) hp=>by
 dsimp only at *;refine HP (eD.c (lQ.c (j4.c (kX.c iN.d)))) 74 [[0,1,2],[0,1,2],[0,1,2,7],[0,1,2,7,15],[0,1,2,7,39],[0,1,2,7,59],[0,1,2,7],[0,1,7,70],[0,1,7],[6]] Tryz.func295 [.tmp 6] ?_;simp only[↓XC,X1,seval,dB,eB,kn,gi,fa,dT];have y:=dW s p;refine cF.of (ι:={q:Nat // spot s p<=q/\q<=s.length/\HQ s (spot s p) fl q=HQ s (spot s p) fl (spot s p)}) (fun x=>⟨[(0,.s s),(1,.i .i64 (spot s p:Nat)),(2,.b fl),(7,.i .i64 (x.1:Nat))],[]⟩) (fun x=>s.length-x.1) ⟨spot s p,aN _,y,rfl⟩ (cG.refl _ _) ?_;rintro⟨q,d,e,hw⟩;simp only[↓XC,X1,seval,dB,kn,gi,dT,fa];have v:((q:Nat)+1:Int).toNat=q+1:=by omega
 have w:((q:Int)-1).toNat=q-1:=by omega
 rw[show decide ((q:Int)>((spot s p:Nat):Int))=decide (spot s p<q)from by rw[cZ];omega];rw[v,w];refine bH.mk ⟨hp,by omega⟩ fun _=>⟨fun o=>?_,fun o=>?_⟩
 ·have g:kH s q=false:=by simpa using o
  have C:=kb g;rw[<-cW C];refine CO fun _=>bH.mk (fun h=>by simp only[iU];omega) fun _=>bH.mk (fun h=>⟨⟨h,h⟩,hp,by simp only[Yi]at h;omega⟩) fun _=>bH.mk (fun h=>by omega) fun _=>⟨fun t=>?_,fun t=>?_⟩
  ·have i:¬(kH s q=false/\IB s (spot s p) fl q=false):=by unfold IB;intro h;have z:=h.2;cases m:fl&&re (bW s q)<;>cases n:(decide (bW s q=35)&&decide (spot s p<q)&&nD s (q-1))<;>simp[m,n]at t z
   refine cF.of (ι:={q:Nat // spot s p<=q/\q<=s.length/\EY s (spot s p) q=kj s (spot s p) fl}) (fun x=>⟨[(0,.s s),(1,.i .i64 (spot s p:Nat)),(7,.i .i64 (x.1:Nat))],[]⟩) (fun x=>x.1) ⟨q,d,e,by rw[kj,<-hw,Gx i]⟩ (by(try simp only[aP,aQ]);exact cG.nil (by simp[bC,Vg.look,SV.bP])) ?_;rintro⟨k,j,l,b⟩;simp only[↓XC,X1,seval,dB,gi];have f:((k:Int)-1).toNat=k-1:=by omega
   have c:(decide ((k:Int)>(spot s p:Nat))&&nD s (k-1))=decide (spot s p<k/\nD s (k-1)=true):=by rw[bO];simp only[aD,aE,fg,dF]
   rw[f,c];refine bH.mk (fun h=>by simp only[iU];omega) fun _=>bH.mk (fun h=>⟨⟨h,h⟩,hp,by omega⟩) fun _=>⟨fun h=>?_,fun h=>?_⟩
   ·have a:=aW h;refine CR fun _=>⟨⟨k-1,by omega,by omega,by rw[<-Fz a.1 a.2];exact b⟩,by simp only;omega, ?_⟩
    rw[show((k:Int)-1)=((k-1:Nat):Int) by omega];exact cG.refl _ _
   rw[<-b,Fy (bE h)]
  refine CO fun _=>bH.mk (fun _=>by simp only[iU];omega) fun _=>bH.mk (fun h=>⟨⟨h,h⟩,hp,by omega⟩) fun _=>bH.mk (fun _=>by simp only[iU];omega) fun _=>bH.mk (fun h=>by have:=gD (show gN s (q+1)=false by simp at h;exact h.1.2);omega) fun _=>?_;have A:(decide (bW s q=58)&&(gN s (q+1)||fl&&re ((s.getD (q+1) 0).toNat:Int)))=(decide (bW s q=58)&&(gN s (q+1)||fl&&re (bW s (q+1)))):=by
   cases B:gN s (q+1)
   ·rw[cW (gD B)]
   simp
  rw[A];have c:IB s (spot s p) fl q=(decide (bW s q=58)&&(gN s (q+1)||fl&&re (bW s (q+1)))):=by unfold IB;cases m:fl&&re (bW s q)<;>cases n:(decide (bW s q=35)&&decide (spot s p<q)&&nD s (q-1))<;>simp[m,n]at t |-
  rw[<-c];refine⟨fun u=>?_,fun u=>CR fun _=>⟨⟨q+1,by omega,by omega,by rw[<-ON ⟨g,u⟩];exact hw⟩,by simp only;omega,(by first|exact cG.refl _ _|(simp only[aP,aQ];exact cG.refl _ _))⟩⟩;have i:¬(kH s q=false/\IB s (spot s p) fl q=false):=by rw[u];simp
  refine cF.of (ι:={q:Nat // spot s p<=q/\q<=s.length/\EY s (spot s p) q=kj s (spot s p) fl}) (fun x=>⟨[(0,.s s),(1,.i .i64 (spot s p:Nat)),(7,.i .i64 (x.1:Nat))],[]⟩) (fun x=>x.1) ⟨q,d,e,by rw[kj,<-hw,Gx i]⟩ (by(try simp only[aP,aQ]);exact cG.nil (by simp[bC,Vg.look,SV.bP])) ?_;rintro⟨k,j,l,b⟩;simp only[↓XC,X1,seval,dB,gi];have f:((k:Int)-1).toNat=k-1:=by omega
  have c:(decide ((k:Int)>(spot s p:Nat))&&nD s (k-1))=decide (spot s p<k/\nD s (k-1)=true):=by rw[bO];simp only[aD,aE,fg,dF]
  rw[f,c];refine bH.mk (fun h=>by simp only[iU];omega) fun _=>bH.mk (fun h=>⟨⟨h,h⟩,hp,by omega⟩) fun _=>⟨fun h=>?_,fun h=>?_⟩
  ·have a:=aW h;refine CR fun _=>⟨⟨k-1,by omega,by omega,by rw[<-Fz a.1 a.2];exact b⟩,by simp only;omega, ?_⟩
   rw[show((k:Int)-1)=((k-1:Nat):Int) by omega];exact cG.refl _ _
  rw[<-b,Fy (bE h)]
 have r:kH s q=true:=by simpa using o
 have i:¬(kH s q=false/\IB s (spot s p) fl q=false):=by rw[r];simp
 refine cF.of (ι:={q:Nat // spot s p<=q/\q<=s.length/\EY s (spot s p) q=kj s (spot s p) fl}) (fun x=>⟨[(0,.s s),(1,.i .i64 (spot s p:Nat)),(7,.i .i64 (x.1:Nat))],[]⟩) (fun x=>x.1) ⟨q,d,e,by rw[kj,<-hw,Gx i]⟩ (by(try simp only[aP,aQ]);exact cG.nil (by simp[bC,Vg.look,SV.bP])) ?_;rintro⟨k,j,l,b⟩;simp only[↓XC,X1,seval,dB,gi];have f:((k:Int)-1).toNat=k-1:=by omega
 have c:(decide ((k:Int)>(spot s p:Nat))&&nD s (k-1))=decide (spot s p<k/\nD s (k-1)=true):=by rw[bO];simp only[aD,aE,fg,dF]
 rw[f,c];refine bH.mk (fun h=>by simp only[iU];omega) fun _=>bH.mk (fun h=>⟨⟨h,h⟩,hp,by omega⟩) fun _=>⟨fun h=>?_,fun h=>?_⟩
 ·have a:=aW h;refine CR fun _=>⟨⟨k-1,by omega,by omega,by rw[<-Fz a.1 a.2];exact b⟩,by simp only;omega, ?_⟩
  rw[show((k:Int)-1)=((k-1:Nat):Int) by omega];exact cG.refl _ _
 rw[<-b,Fy (bE h)]
noncomputable def mf:=gC fun((s,p,fl):Bs×Int×Bool)=>([.s s,.i .i64 p,.b fl],s.length<=1048576,.b (yE s (spot s p) fl))
theorem ig{s:Bs}{p:Int}{fl:Bool}:mf [.s s,.i .i64 p,.b fl]=some (ptr mf rfl (s,p,fl)):=iZ
theorem kE:fO Tryz.prog 294 mf:=gJ fun(s,p,fl) hp=>by
 dsimp only at *;refine HP (eD.c (iN.c kX.d)) 60 [[0,1,2],[0,1,2],[0,1,2,14],[6],[0,1,2,16,17,18],[0,1,2,16,17,18,19],[0,1,2,8,16,17,18],[0,1,2,16,17,18,26],[6],[0,1,2,16,17,18],[0,1,2,43],[6],[6]] Tryz.func294 [.tmp 6] ?_;simp only[↓XC,X1,seval,dB,eB,dT,fa];refine bH.mk ⟨hp,by omega⟩ fun _=>⟨fun h=>by rw[Ex h],fun f=>?_⟩
 rw[DB];refine M8 rfl (by rfl) rfl (by rfl) (by decide) ?_;simp only[O0,↓XC,X1,seval,dB];refine cF.of (ι:={i:Nat // i<=16/\¬s.getD (spot s p) 0∈IR.take i}) (fun x=>⟨[(0,.s s),(1,.i .i64 (spot s p:Nat)),(2,.b fl),(16,.ew 0 0 16),(17,.i .i64 16),(18,.i .i64 (x.1:Nat))],[some (.row false 1 16 (bT l8 0 IR))]⟩) (fun x=>16-x.1) ⟨0,bF _,by simp⟩ (cG.cT [0] (by decide) (by simp only[Yd];exact bM fun j c=>(e8 (by rfl)).trans (xE (b:=IR) (by rfl) j c).symm) (by simp[bC,Vg.look,SV.bP,dX])) ?_;rintro⟨i,t,c⟩;simp only[↓XC,X1,seval,dB,dT,fa,XR];have r:=dW s p;have n:=gD f;have m:((spot s p:Nat)+1:Int).toNat=spot s p+1:=by omega
 rw[m];generalize spot s p=q at *;refine⟨fun k=>CO fun _=>CO fun _=>CO fun _=>⟨fun he=>?_,fun he=>CR fun _=>⟨⟨i+1,by omega, ?_⟩,by simp only;omega,(cG.cT [0] (by decide) (by simp only[Yd];exact aF fun _=>rfl) (by simp[bC,Vg.look,SV.bP,dX]))⟩⟩,fun k=>?_⟩
 ·have:s.getD q 0=IR.getD i 0:=UInt8.toNat_inj.1 (by omega);rw[OS (by rw[this];exact kW (by show i<16;omega))]
 ·rw[Dn 0 (by show i<16;omega)];simp only[dh,dN,not_or];exact⟨c,fun e=>he (by rw[e])⟩
 have l:¬s.getD q 0∈IR:=by rw[show i=16 by omega]at c;exact c
 rw[<-cW n];refine CO fun _=>bH.mk (fun _=>by omega) fun _=>bH.mk (fun _=>by omega) fun _=>⟨fun h=>?_,fun h=>?_⟩
 ·rw[KY f l (by simpa[fe]using h)]
 have o:bW s q=45\/bW s q=63\/bW s q=58:=by rw[<-Classical.not_not (a:=_\/_)];intro d;simp only[not_or]at d;simp[d.1,d.2.1,d.2.2]at h
 rw[GF f l o];refine CR fun _=>bH.mk ⟨hp,by omega⟩ fun _=>bH.mk (fun _=>by simp only[iU];omega) fun _=>bH.mk (fun h=>by have:=gD (show gN s (q+1)=false by simp at h;exact h.1);omega) fun _=>?_;cases g:gN s (q+1)
 ·rw[cW (gD g)]
 rfl
end Go.T
end
section
namespace Go.T
variable[Go.Vg.df]
open Go.Proofs Go.Vg Go.RowKit Go.TT Go.Pl
set_option maxRecDepth 10000
set_option maxHeartbeats 4000000
noncomputable def nm:=gC fun(r:Int)=>([.i .i64 r],True,.s (oJ r))
theorem u9{r:Int}:nm [.i .i64 r]=some (ptr nm rfl r):=iZ
theorem va:fO Tryz.prog 271 nm:=gJ fun r _=>by
 dsimp only at *;refine HP iL.d 13 [[0],[0,9],[2],[2]] Tryz.func271 [.tmp 2] ?_;simp only[↓XC,X1,seval,dB,gv];refine⟨fun h=>?_,fun h=>?_⟩
 ·rw[lT (by simp only[Yi]at h;omega)]
 have a:¬(r<0\/1114111<r\/(55296<=r/\r<=57343)):=by simp only[Yi]at h;omega
 exact CR fun _=>by rw[LQ a]
noncomputable def nn:=gC fun(r:Int)=>([.i .i64 r],True,.s (oJ r))
theorem jk{r:Int}:nn [.i .i64 r]=some (ptr nn rfl r):=iZ
theorem nU:fO Tryz.prog 222 nn:=gJ fun r _=>by
 dsimp only at *;refine HP pn 76 [[0],[0,3],[2],[0,18],[2],[0,25],[2],[0,38],[2],[2]] Tryz.func222 [.tmp 2] ?_;simp only[↓XC,X1,seval,dB];refine⟨fun h=>?_,fun h=>?_⟩
 ·rw[lT (by simp only[Yi]at h;omega)]
 have a:¬(r<0\/1114111<r\/(55296<=r/\r<=57343)):=by simp only[Yi]at h;omega
 clear h;obtain⟨n,rfl⟩:∃n:Nat,r=n:=⟨r.toNat,by omega⟩
 have b:(n:Int).tdiv 64=((n / 64:Nat):Int):=A0 n 64;have d:(n:Int).tdiv 4096=((n / 4096:Nat):Int):=A0 n 4096;have e:(n:Int).tdiv 262144=((n / 262144:Nat):Int):=A0 n 262144;have f:∀k:Nat,(k:Int).tmod 64=((k % 64:Nat):Int):=fun k=>P7 k 64;have t1:∀c k:Nat,((c:Int)+(k:Int)).toNat=c+k:=fun c k=>by omega
 simp only[b,d,e,f]
 repeat' (first|with_reducible refine bH.mk ?_ fun _=>?_|with_reducible refine And.intro ?_ ?_|intro _)
 all_goals first
  |decide
  |omega
  |(simp only[iU];omega)
  |(exact sn [_] _ (by assumption))
  |(exact sn [_,_] _ (by assumption))
  |(exact sn [_,_,_] _ (by assumption))
  |(exact sn [_,_,_,_] _ (by assumption))
  |(rw[GN a (by omega),Int.toNat_natCast])
  |(rw[GO a (by omega) (by omega)];exact cD SV.s ((oK [_,_]).trans (by simp only[cC,eO];first|rfl|(congr 2<;>omega))))
  |(rw[GP a (by omega) (by omega)];exact cD SV.s ((oK [_,_,_]).trans (by simp only[cC,eO];first|rfl|(congr 2<;>omega))))
  |(rw[GQ a (by omega)];exact cD SV.s ((oK [_,_,_,_]).trans (by simp only[cC,eO];first|rfl|(congr 2<;>omega))))
noncomputable def nu:=gC fun(b:Int)=>([.i .i64 b],-1<=b/\b<=255,.i .i64 (Mz b))
theorem vl{b:Int}:nu [.i .i64 b]=some (ptr nu rfl b):=iZ
theorem vm:fO Tryz.prog 270 nu:=gJ fun b hp=>by
 dsimp only at *;refine HP pn 42 [[0],[0,3],[0,3,4],[2],[0,3,6],[0,3,6],[2],[0,3,12],[0,3,12],[2],[0,3,15],[2],[0,3,17],[0,3,17],[2],[0,3,24],[2],[0,3,26],[2],[0,3,28],[0,3,28],[0,3,28],[0,3,28],[2],[3,34],[2],[3,36],[2],[3,38],[2],[40],[2],[2]] Tryz.func270 [.tmp 2] ?_;simp only[↓XC,X1,seval,dB]
 repeat' (first|with_reducible refine bH.mk ?_ fun _=>?_|with_reducible refine And.intro ?_ ?_|intro _)
 all_goals first
  |(simp only[iU];omega)
  |omega
  |(exfalso;omega)
  |(subst_vars;rfl)
  |(rw[MA (by omega)])
noncomputable def rL:=gC fun((s,p,m):Bs×Int×Int)=>([.s s,.i .i64 p,.i .i64 m],s.length<=1048576/\0<=p/\p<=s.length+9/\0<=m/\m<=8,.fJ [.i .i64 (if(sI s p.toNat m.toNat 0)<0 then 0 else(sI s p.toNat m.toNat 0)),.b (decide (0<=(sI s p.toNat m.toNat 0)))])
theorem Ar{s:Bs}{p m:Int}:rL [.s s,.i .i64 p,.i .i64 m]=some (ptr rL rfl (s,p,m)):=iZ
theorem As:fO Tryz.prog 272 rL:=gJ fun(s,p,m) hp=>by
 dsimp only at *;refine HP (dv.c iL.d) 48 [[0,1,2],[0,1,2,8],[0,1,8,11,12],[0,1,8,11,12,13],[0,1,8,9,11,12],[0,1,8,10,11,12],[6,7],[0,1,8,10,11,12,20],[0,1,8,11,12],[0,1,8,10,11,12,28],[0,1,8,11,12],[0,1,8,10,11,12,37],[0,1,8,11,12],[0,1,8,11,12],[6,7]] Tryz.func272 [.tmp 6,.tmp 7] ?_;simp only[↓XC,X1,seval,dB,bL,gv];refine cF.of (ι:={x:Nat×Nat // x.1<=m.toNat/\x.2<16 ^ x.1/\sI s (p.toNat+x.1) (m.toNat-x.1) x.2=sI s p.toNat m.toNat 0}) (fun x=>⟨[(0,.s s),(1,.i .i64 p),(8,.i .i64 (x.1.2:Nat)),(11,.i .i64 m),(12,.i .i64 (x.1.1:Nat))],[]⟩) (fun x=>m.toNat-x.1.1) ⟨(0,0),bF _,by decide,rfl⟩ (cG.refl _ _) ?_;rintro⟨⟨i,a⟩,q,l,e⟩;simp only[↓XC,X1,seval,dB,bL,gv];simp only at q l e;have k:=V1 (i:=i) (by omega);refine⟨fun h=>CR fun _=>bH.mk hp.1 fun _=>?_,fun h=>?_⟩
 ·have o:bW s (spot s (p+(i:Nat)))=bW s (p.toNat+i):=by rw[j0 (by omega)];congr 1;omega
  rw[o];obtain⟨b,c⟩:∃b,bW s (p.toNat+i)=b:=⟨_,rfl⟩
  rw[c];refine⟨fun f=>?_,fun f=>⟨fun g=>?_,fun g=>⟨fun j=>?_,fun j=>?_⟩⟩⟩
  ·simp only[Yi]at f;have hd:BB b=b-48:=by first|exact Cx (by omega) (by omega)|exact Cy (by omega) (by omega)|exact Cz (by omega) (by omega)
   have d:=oV (s:=s) (p:=p.toNat+i) (n:=m.toNat-(i+1)) (a:=a) (by rw[c,hd];omega);rw[show m.toNat-(i+1)+1=m.toNat-i by omega,e,c,hd]at d;refine CR fun _=>CR fun _=>CR fun _=>CR fun _=>⟨⟨(i+1,(16*(a:Int)+(b-48)).toNat),by simp only;omega,by simp only[Nat.pow_succ];omega,by simp only;rw[d,<-dk];congr 1;omega⟩,by simp only;omega, ?_⟩
   rw[show((16:Int)*a+b-48)=(((16*(a:Int)+(b-48)).toNat:Nat):Int) by omega];exact(by first|exact cG.refl _ _|(simp only[aP,aQ];exact cG.refl _ _))
  ·simp only[Yi]at g;have hd:BB b=b-97+10:=by first|exact Cx (by omega) (by omega)|exact Cy (by omega) (by omega)|exact Cz (by omega) (by omega)
   have d:=oV (s:=s) (p:=p.toNat+i) (n:=m.toNat-(i+1)) (a:=a) (by rw[c,hd];omega);rw[show m.toNat-(i+1)+1=m.toNat-i by omega,e,c,hd]at d;refine CR fun _=>CR fun _=>CR fun _=>CR fun _=>CR fun _=>⟨⟨(i+1,(16*(a:Int)+(b-97+10)).toNat),by simp only;omega,by simp only[Nat.pow_succ];omega,by simp only;rw[d,<-dk];congr 1;omega⟩,by simp only;omega, ?_⟩
   rw[show((16:Int)*a+b-97+10)=(((16*(a:Int)+(b-97+10)).toNat:Nat):Int) by omega];exact(by first|exact cG.refl _ _|(simp only[aP,aQ];exact cG.refl _ _))
  ·simp only[Yi]at j;have hd:BB b=b-65+10:=by first|exact Cx (by omega) (by omega)|exact Cy (by omega) (by omega)|exact Cz (by omega) (by omega)
   have d:=oV (s:=s) (p:=p.toNat+i) (n:=m.toNat-(i+1)) (a:=a) (by rw[c,hd];omega);rw[show m.toNat-(i+1)+1=m.toNat-i by omega,e,c,hd]at d;refine CR fun _=>CR fun _=>CR fun _=>CR fun _=>CR fun _=>⟨⟨(i+1,(16*(a:Int)+(b-65+10)).toNat),by simp only;omega,by simp only[Nat.pow_succ];omega,by simp only;rw[d,<-dk];congr 1;omega⟩,by simp only;omega, ?_⟩
   rw[show((16:Int)*a+b-65+10)=(((16*(a:Int)+(b-65+10)).toNat:Nat):Int) by omega];exact(by first|exact cG.refl _ _|(simp only[aP,aQ];exact cG.refl _ _))
  simp only[Yi]at f;simp only[Yi]at g;simp only[Yi]at j;have d:=DY (s:=s) (p:=p.toNat+i) (n:=m.toNat-(i+1)) (a:=a) (by rw[c,Si (by omega) (by omega) (by omega)];decide);rw[show m.toNat-(i+1)+1=m.toNat-i by omega,e]at d;rw[d];rfl
 have d:sI s p.toNat m.toNat 0=a:=by rw[<-e,show m.toNat-i=0 by omega];rfl
 rw[d,aA (by omega)];simp
noncomputable def Ai:=gC fun((s,p,m):Bs×Int×Int)=>([.s s,.i .i64 p,.i .i64 m],s.length<=1048576/\0<=p/\p<=s.length+9/\0<=m/\m<=8,.i .i64 (sI s p.toNat m.toNat 0))
theorem xS{s:Bs}{p m:Int}:Ai [.s s,.i .i64 p,.i .i64 m]=some (ptr Ai rfl (s,p,m)):=iZ
theorem Gy:fO Tryz.prog 350 Ai:=gJ fun(s,p,m) hp=>by
 dsimp only at *;refine HP pn 67 [[0,1,2],[0,1,2,7],[0,1,2,7,8],[0,1,2,7,8,15],[0,1,2,7,8],[0,1,2,7,8,21],[6],[0,1,2,7,8,9],[6],[0,1,2,7,8,9,25],[0,1,2,7,8],[0,1,2,7,8,9,38],[0,1,2,7,8],[0,1,2,7,8,9,52],[0,1,2,7,8],[6]] Tryz.func350 [.tmp 6] ?_;simp only[↓XC,X1,seval,dB];refine cF.of (ι:={x:Nat×Nat // x.1<=m.toNat/\x.2<16 ^ x.1/\sI s (p.toNat+x.1) (m.toNat-x.1) x.2=sI s p.toNat m.toNat 0}) (fun x=>⟨[(0,.s s),(1,.i .i64 p),(2,.i .i64 m),(7,.i .i64 (x.1.2:Nat)),(8,.i .i64 (p+(x.1.1:Nat)))],[]⟩) (fun x=>m.toNat-x.1.1) ⟨(0,0),bF _,by decide,rfl⟩ (by simp only[Int.natCast_zero,Int.add_zero];exact cG.refl _ _) ?_;rintro⟨⟨i,a⟩,r,o,e⟩;simp only[↓XC,X1,seval,dB];simp only at r o e;have l:=V1 (i:=i) (by omega);have ET:(p+(i:Int)).toNat=p.toNat+i:=by omega
 rw[ET];refine CR fun _=>⟨fun h=>⟨fun q=>?_,fun q=>CO fun _=>?_⟩,fun h=>?_⟩
 ·have d:=DY (s:=s) (p:=p.toNat+i) (n:=m.toNat-(i+1)) (a:=a) (by rw[eZ (by omega)];decide);rw[show m.toNat-(i+1)+1=m.toNat-i by omega,e]at d;rw[d]
 ·obtain⟨b,c⟩:∃b,bW s (p.toNat+i)=b:=⟨_,rfl⟩
  have k:((s.getD (p.toNat+i) 0).toNat:Int)=b:=by rw[<-c,cW (by omega)]
  rw[k];have t:=mC s (p.toNat+i);rw[c]at t;refine⟨fun f=>?_,fun f=>⟨fun g=>?_,fun g=>⟨fun j=>?_,fun j=>?_⟩⟩⟩
  ·simp only[Yi]at f;have hd:BB b=b-48:=by first|exact Cx (by omega) (by omega)|exact Cy (by omega) (by omega)|exact Cz (by omega) (by omega)
   have d:=oV (s:=s) (p:=p.toNat+i) (n:=m.toNat-(i+1)) (a:=a) (by rw[c,hd];omega);rw[show m.toNat-(i+1)+1=m.toNat-i by omega,e,c,hd]at d;refine CR fun _=>CR fun _=>CR fun _=>CR fun _=>CR fun _=>⟨⟨(i+1,(16*(a:Int)+(b-48)).toNat),by simp only;omega,by simp only[Nat.pow_succ];omega,by simp only;rw[d,<-dk];congr 1;omega⟩,by simp only;omega, ?_⟩
   rw[show(a:Int)*16+(b-48)=(((16*(a:Int)+(b-48)).toNat:Nat):Int) by omega,Int.add_assoc];exact(by first|exact cG.refl _ _|(simp only[aP,aQ];exact cG.refl _ _))
  ·simp only[Yi]at g;have hd:BB b=b-97+10:=by first|exact Cx (by omega) (by omega)|exact Cy (by omega) (by omega)|exact Cz (by omega) (by omega)
   have d:=oV (s:=s) (p:=p.toNat+i) (n:=m.toNat-(i+1)) (a:=a) (by rw[c,hd];omega);rw[show m.toNat-(i+1)+1=m.toNat-i by omega,e,c,hd]at d;refine CR fun _=>CR fun _=>CR fun _=>CR fun _=>CR fun _=>CR fun _=>⟨⟨(i+1,(16*(a:Int)+(b-97+10)).toNat),by simp only;omega,by simp only[Nat.pow_succ];omega,by simp only;rw[d,<-dk];congr 1;omega⟩,by simp only;omega, ?_⟩
   rw[show(a:Int)*16+(b-97)+10=(((16*(a:Int)+(b-97+10)).toNat:Nat):Int) by omega,Int.add_assoc];exact(by first|exact cG.refl _ _|(simp only[aP,aQ];exact cG.refl _ _))
  ·simp only[Yi]at j;have hd:BB b=b-65+10:=by first|exact Cx (by omega) (by omega)|exact Cy (by omega) (by omega)|exact Cz (by omega) (by omega)
   have d:=oV (s:=s) (p:=p.toNat+i) (n:=m.toNat-(i+1)) (a:=a) (by rw[c,hd];omega);rw[show m.toNat-(i+1)+1=m.toNat-i by omega,e,c,hd]at d;refine CR fun _=>CR fun _=>CR fun _=>CR fun _=>CR fun _=>CR fun _=>⟨⟨(i+1,(16*(a:Int)+(b-65+10)).toNat),by simp only;omega,by simp only[Nat.pow_succ];omega,by simp only;rw[d,<-dk];congr 1;omega⟩,by simp only;omega, ?_⟩
   rw[show(a:Int)*16+(b-65)+10=(((16*(a:Int)+(b-65+10)).toNat:Nat):Int) by omega,Int.add_assoc];exact(by first|exact cG.refl _ _|(simp only[aP,aQ];exact cG.refl _ _))
  simp only[Yi]at f;simp only[Yi]at g;simp only[Yi]at j;have d:=DY (s:=s) (p:=p.toNat+i) (n:=m.toNat-(i+1)) (a:=a) (by rw[c,Si (by omega) (by omega) (by omega)];decide);rw[show m.toNat-(i+1)+1=m.toNat-i by omega,e]at d;rw[d]
 have d:sI s p.toNat m.toNat 0=a:=by rw[<-e,show m.toNat-i=0 by omega];rfl
 rw[d]
theorem V9(b:Int):(lookS (updS (updS (updS [] (120:Int) 2) 117 4) 85 8) b).getD 0=(CA b:Int):=by
 unfold CA;by_cases a:b=120
 ·subst a;rfl
 by_cases c:b=117
 ·subst c;rfl
 by_cases d:b=85
 ·subst d;rfl
 rw[aA a,aA c,aA d];have f:¬(120:Int)=b:=fun e=>a e.symm;have g:¬(117:Int)=b:=fun e=>c e.symm;have h:¬(85:Int)=b:=fun e=>d e.symm;simp[updS,lookS,f,g,h]
noncomputable def n9:=gC fun((s,p):Bs×Int)=>([.s s,.i .i64 p],s.length<=1048576,.fJ [.s (nY s (spot s p)).1,.i .i64 ((nY s (spot s p)).2:Nat)])
theorem o7{s:Bs}{p:Int}:n9 [.s s,.i .i64 p]=some (ptr n9 rfl (s,p)):=iZ
theorem wk:fO Tryz.prog 241 n9:=gJ fun(s,p) hp=>by
 dsimp only at *;refine HP (eh.c (dv.c (vm.c (va.c As.d)))) 67 [[0,1],[0,1],[0,1,25],[4,5],[0,1,6],[0,1,6,7],[0,1,6,7,33],[4,5],[0,1,8],[1,8,9,10],[1,8,10,11],[1,8,11,61],[4,5],[4,5]] Tryz.func241 [.tmp 4,.tmp 5] ?_;simp only[↓XC,X1,seval,dB,eg,bL,vl,u9,Ar];have i:=dW s p;rw[bQ s i];have e:((spot s p:Nat)+1:Int).toNat=spot s p+1:=by omega
 have f:bW s (spot s ((spot s p:Nat)+1:Int))=bW s (spot s p+1):=by rw[j0 (by omega),e]
 have g:((spot s p:Nat)+2:Int).toNat=spot s p+2:=by omega
 rw[f,g];simp only[V9,Int.toNat_natCast];generalize spot s p=q at *;have j:=mC s (q+1);have k:=Ug (bW s (q+1));refine bH.mk hp fun _=>bH.mk (fun _=>by simp only[iU];omega) fun _=>⟨fun h=>?_,fun h=>CR fun _=>bH.mk hp fun _=>bH.mk j fun _=>?_⟩
 ·rw[JK (by simp only[Yi]at h;omega)];rfl
 have d:bW s q=92/\q+1<s.length:=by simp only[Yi]at h;omega
 refine⟨fun c=>CR fun _=>?_,fun c=>CR fun _=>bH.mk ⟨hp,by omega,by omega,by omega,by omega⟩ fun _=>⟨fun a=>?_,fun a=>CR fun _=>CR fun _=>?_⟩⟩
 ·rw[Cm d c];simp
 ·rw[Ie d c];rfl;simp only[Yi]at a;rcases a with(a|a)|a
  ·exact .inl (by omega)
  ·exact .inr (lT (.inl a))
  right;by_cases b:sI s (q+2) (CA (bW s (q+1))) 0<0
  ·exact lT (.inl b)
  rw[aA b]at a;exact a
 simp only[Yi]at a;rw[aA (by omega)]at a |-
 rw[JL d c (by rintro(b|b);exact a.1.1 (by omega);exact a.2 b)];simp
noncomputable def oc:=gC fun((s,p):Bs×Int)=>([.s s,.i .i64 p],s.length<=1048576,.fJ [.s (nY s (spot s p)).1,.i .i64 ((nY s (spot s p)).2:Nat)])
theorem kc{s:Bs}{p:Int}:oc [.s s,.i .i64 p]=some (ptr oc rfl (s,p)):=iZ
theorem wm:fO Tryz.prog 328 oc:=gJ fun(s,p) hp=>by
 dsimp only at *;refine HP (eD.c (nU.c Gy.d)) 72 [[0,1],[0,1],[0,1,25],[4,5],[0,1,6],[0,1,6,31,32,33],[0,1,6,31,32,33,34],[0,1,6,7,8,31,32,33],[0,1,6,7,31,32,33,40],[1,9],[4,5],[0,1,6,31,32,33],[0,1,6,10],[0,1,10,50],[0,1,10,50,51],[0,1,10],[0,1,10,50,53],[0,1,10],[0,1,10,55],[0,1,10],[0,1,10,58],[4,5],[1,10,11],[1,10,11,66],[4,5],[4,5]] Tryz.func328 [.tmp 4,.tmp 5] ?_;simp only[↓XC,X1,reduceIte,Nat.reduceAdd,Nat.reduceLT,Nat.reduceEqDiff,Nat.reduceBEq,Nat.reduceLeDiff,reduceCtorEq,Nat.reduceSub,Nat.reduceMul,Int.reduceToNat,Int.reduceLT,Int.reduceLE,dB,eB,jk,xS];have m:=dW s p;have z:((spot s p:Nat)+1:Int).toNat=spot s p+1:=by omega
 rw[z];generalize spot s p=q at *;refine CR fun _=>bH.mk (fun h=>by simp only[Yi]at h;omega) fun _=>⟨fun h=>?_,fun h=>CR fun _=>bH.mk (by simp only[Yi]at h;omega) fun _=>?_⟩
 ·rw[JK (by rintro⟨c,d⟩;rw[cW (by omega)]at c;simp only[Yi]at h;omega)];rfl
 have l:bW s q=92/\q+1<s.length:=by simp only[Yi]at h;exact⟨by rw[cW (by omega)];omega,by omega⟩
 rw[<-cW l.2];rw[DB];refine M8 rfl (by rfl) rfl (by rfl) (by decide) ?_;simp only[O0,↓XC,X1,reduceIte,Nat.reduceAdd,Nat.reduceLT,Nat.reduceEqDiff,Nat.reduceBEq,Nat.reduceLeDiff,reduceCtorEq,Nat.reduceSub,Nat.reduceMul,Int.reduceToNat,Int.reduceLT,Int.reduceLE,dB];refine cF.of (ι:={i:Nat // i<=18/\∀j,j<i->(E6.getD j (0,0)).1≠bW s (q+1)}) (fun x=>⟨[(0,.s s),(1,.i .i64 (q:Nat)),(6,.i .u8 (bW s (q+1))),(31,.ew 0 0 18),(32,.i .i64 18),(33,.i .i64 (x.1:Nat))],[some (.row false 1 18 (bT l8 0 ([48,97,98,116,9,110,118,102,114,101,32,34,47,92,78,95,76,80]:List UInt8)))]⟩) (fun x=>18-x.1) ⟨0,bF _,fun j f=>absurd f (aT _)⟩ (cG.cT [0] (by decide) (by simp only[Yd];exact bM fun j f=>(e8 (by rfl)).trans (xE (b:=([48,97,98,116,9,110,118,102,114,101,32,34,47,92,78,95,76,80]:List UInt8)) (by rfl) j f).symm) (by simp[bC,Vg.look,SV.bP,dX])) ?_;rintro⟨i,D,f⟩;simp only[↓XC,X1,reduceIte,Nat.reduceAdd,Nat.reduceLT,Nat.reduceEqDiff,Nat.reduceBEq,Nat.reduceLeDiff,reduceCtorEq,Nat.reduceSub,Nat.reduceMul,Int.reduceToNat,Int.reduceLT,Int.reduceLE,dB,jk,xS,XR];have v:∀i,i<18->((([48,97,98,116,9,110,118,102,114,101,32,34,47,92,78,95,76,80]:List UInt8).getD i 0).toNat:Int)=(E6.getD i (0,0)).1:=by decide
 have w:∀i,i<18->(([0,7,8,9,9,10,11,12,13,27,32,34,47,92,133,160,8232,8233]:List Int).getD i 0)=(E6.getD i (0,0)).2/\0<=(E6.getD i (0,0)).2:=by decide
 have A:((q:Nat)+2:Int).toNat=q+2:=by omega
 rw[A];refine⟨fun t=>CO fun _=>CO fun _=>⟨fun he=>CO fun _=>CO fun _=>?_,fun he=>CR fun _=>⟨⟨i+1,by omega, ?_⟩,by simp only;omega,(cG.cT [0] (by decide) (by simp only[Yd];exact aF fun _=>rfl) (by simp[bC,Vg.look,SV.bP,dX]))⟩⟩,fun t=>?_⟩
 ·have a:i<18:=by omega
  rw[L3 (b:=[0,7,8,9,9,10,11,12,13,27,32,34,47,92,133,160,8232,8233]) (by rfl) a,(w i a).1];simp only[↓XC,X1,reduceIte,Nat.reduceAdd,Nat.reduceLT,Nat.reduceEqDiff,Nat.reduceBEq,Nat.reduceLeDiff,reduceCtorEq,Nat.reduceSub,Nat.reduceMul,Int.reduceToNat,Int.reduceLT,Int.reduceLE,dB,jk,XR];rw[v i a]at he;have g:=Va a he.symm f;rw[Cm l (by rw[g];exact(w i a).2),g];exact CR fun _=>by simp
 ·intro j B;rcases aU j i with c|c
  ·exact f j c
  obtain rfl:j=i:=by omega
  rw[<-v j (by omega)];exact fun e=>he e.symm
 have g:¬0<=Mz (bW s (q+1)):=by rw[G7];decide;intro p hp;obtain⟨j,u,rfl⟩:=eM.1 hp;have:=f j (by have:E6.length=18:=rfl;omega);simpa[List.getD,u]using this
 have o:CA (bW s (q+1))=if bW s (q+1)=120 then 2 else if bW s (q+1)=117 then 4 else if bW s (q+1)=85 then 8 else 0:=rfl;have k:∀n:Nat,CA (bW s (q+1))=n->(oJ (sI s (q+2) n 0)=[]->SV.fJ [SV.s [],SV.i .i64 0]=SV.fJ [SV.s (nY s q).1,SV.i .i64 ((nY s q).2:Nat)])/\(n≠0->¬oJ (sI s (q+2) n 0)=[]->SV.fJ [SV.s (oJ (sI s (q+2) n 0)),SV.i .i64 ((q:Int)+2+n)]=SV.fJ [SV.s (nY s q).1,SV.i .i64 ((nY s q).2:Nat)]):=by rintro n rfl;refine⟨fun c=>by rw[Ie l g (.inr c)];rfl,fun m c=>by rw[JL l g (by rintro(d|d);exact m d;exact c d)];simp⟩
 have W:∀n:Nat,n<=8->n≠0->CA (bW s (q+1))=n->((n:Int)=0->SV.fJ [SV.s [],SV.i .i64 0]=SV.fJ [SV.s (nY s q).1,SV.i .i64 ((nY s q).2:Nat)])/\(¬(n:Int)=0->bH (iU IntKind.i64 ((q:Int)+2)) (bH (s.length<=1048576/\0<=(q:Int)+2/\(q:Int)+2<=s.length+9) ((oJ (sI s (q+2) n 0)=[]->SV.fJ [SV.s [],SV.i .i64 0]=SV.fJ [SV.s (nY s q).1,SV.i .i64 ((nY s q).2:Nat)])/\(¬oJ (sI s (q+2) n 0)=[]->bH (iU IntKind.i64 ((q:Int)+2)) (bH (iU IntKind.i64 ((q:Int)+2+n)) (SV.fJ [SV.s (oJ (sI s (q+2) n 0)),SV.i .i64 ((q:Int)+2+n)]=SV.fJ [SV.s (nY s q).1,SV.i .i64 ((nY s q).2:Nat)])))))):=by intro n C m y;exact⟨fun h=>absurd h (by omega),fun _=>CR fun _=>bH.mk ⟨hp,by omega,by omega⟩ fun _=>⟨(k n y).1,fun h=>CR fun _=>CR fun _=>(k n y).2 m h⟩⟩
 refine⟨fun c=>W 2 (by omega) (by omega) (by rw[o,aB c]),fun c=>⟨fun d=>W 4 (by omega) (by omega) (by rw[o,aA c,aB d]),fun d=>⟨fun r=>W 8 (by omega) (by omega) (by rw[o,aA c,aA d,aB r]),fun r=>?_⟩⟩⟩;rw[Ie l g (.inl (by rw[o,aA c,aA d,aA r]))];rfl
end Go.T
end
