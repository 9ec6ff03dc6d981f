/- Own text: part VBI. -/
import Derived.Test.YtgippllfnmdnpaaGreatDoorVBH
import Derived.Test.YtgippllfnmdnpaaGreatDoorVAR
import Derived.Test.YtgippllfnmdnpaaGreatDoorVBB
import Derived.Test.YtgippllfnmdnpaaGreatDoorVBG
set_option linter.all false
section
namespace Go.T
variable[Go.Vg.df][Go.Vg.cS 0 1]
open Go.Proofs Go.Vg Go.RowKit Go.TT Go.Pl
set_option maxRecDepth 10000
set_option maxHeartbeats 4000000
noncomputable def rU:=gC fun((s,a,n):Bs×Int×Int)=>([.s s,.i .i64 a,.i .i64 n],s.length<=1048576/\0<=a/\a<=s.length,.i .i64 ((um s a.toNat n).1:Nat))
theorem Aw{s:Bs}{a n:Int}:rU [.s s,.i .i64 a,.i .i64 n]=some (ptr rU rfl (s,a,n)):=iZ
theorem Ax:fO Tryz.prog 331 rU:=gJ fun(s,a,n) hp=>by
 dsimp only at *;refine HP (pU.c (iM.c (sY.c (hO.c lH.d)))) 52 [[0,1,2],[0,1,2,23],[0,1,2],[0,1,48],[6],[6]] Tryz.func331 [.tmp 6] ?_;simp only[↓XC,X1,seval,dB,iK,fi,jS,cy,gu,XR];obtain⟨a,rfl⟩:∃k:Nat,a=k:=⟨a.toNat,by omega⟩
 rw[Int.toNat_natCast];refine cF.of (ι:={q:Nat // q<=s.length/\um s q n=um s a n}) (fun x=>⟨[(0,.s s),(1,.i .i64 (x.1:Nat)),(2,.i .i64 n)],[]⟩) (fun x=>s.length-x.1) ⟨a,by omega,rfl⟩ (cG.refl _ _) ?_;rintro⟨q,g,hw⟩;simp only[↓XC,X1,seval,dB,iK,fi,jS,cy,gu];rw[bQ s g];refine bH.mk (fun h=>⟨⟨h,h⟩,hp.1⟩) fun _=>bH.mk (fun h=>⟨⟨h,h⟩,hp.1⟩) fun _=>⟨fun h=>bH.mk hp.1 fun _=>?_,fun h=>bH.mk (fun h=>⟨⟨h,h⟩,hp.1⟩) fun _=>bH.mk (fun h=>⟨⟨h,h⟩,hp.1⟩) fun _=>bH.mk (fun h=>⟨⟨h,h⟩,hp.1⟩) fun _=>?_⟩
 ·simp only[aD,aE]at h;have c:q<s.length:=by omega
  have i:=lv c;exact⟨⟨gZ s (en s q),jZ s _,by rw[<-zI ⟨c,Ki h.1.2⟩ h.1.2];exact hw⟩,by simp only;omega,cG.refl _ _⟩
 rw[<-hw];have hm:=kJ s q;rcases aU q s.length with c|c
 ·cases d:js s q
  ·have f:decide ((q:Int)>=(s.length:Nat))=false:=aI (by omega);rw[f,cX,cX];by_cases e:ib s q=0
   ·rw[Km ⟨c,e⟩ d,e];refine⟨fun b=>?_,fun b=>bH.mk hp.1 fun _=>?_⟩
    ·simp at b;rw[aA (by omega)];rfl
    simp at b;rw[aB (by omega)]
   rw[Kl (fun h=>e h.2)];refine⟨fun _=>rfl,fun b=>?_⟩;simp at b;omega
  rw[d,aJ (show(q:Int)<(s.length:Nat) by omega)]at h;rw[Ra c d (by simp at h;omega)];refine⟨fun _=>rfl,fun b=>by simp at b⟩
 rw[Kl (by omega),aJ (show(q:Int)>=(s.length:Nat) by omega)];refine⟨fun _=>rfl,fun b=>by simp at b⟩
noncomputable def nb:=gC fun(l:List Bs)=>([.fs 1 (l.map ij)],mj l<=1073741824/\∀x∈l,x.length<=1048576,.s (xq l [] 0 []))
theorem kY{l:List Bs}:nb [.fs 1 (l.map ij)]=some (ptr nb rfl l):=qK @vy
theorem u4:fO Tryz.prog 351 nb:=gJ fun l hp=>by
 dsimp only at *;refine HP Em.d 54 [[0],[0,3],[0,3,4],[0,3,4,5],[0,3,4,5,8,9,10],[0,3,4,5,8,9,10,11],[0,3,4,5,6,7,8,9,10],[0,3,4,5,6,7,8,9,10,16],[0,3,4,5,8,9,10],[0,3,4,5,6,7,8,9,10,31],[0,3,4,5,6,7,8,9,10],[0,3,4,6,7,8,9,10,39],[0,3,4,6,7,8,9,10],[0,3,4,6,7,8,9,10,43],[0,3,4,6,7,8,9,10],[0,3,4,6,7,8,9,10],[0,3,4,6,8,9,10],[0,3,4,5,8,9,10],[0,3,4,5,8,9,10],[2]] Tryz.func351 [.tmp 2] ?_;simp only[↓XC,X1,seval,dB,vf,XR];refine cF.of (ι:={x:(Nat×Nat)×Bs×Int // x.1.1<=l.length /\ -1<=x.2.2/\x.2.2<x.1.1/\(0<=x.2.2->l.getD x.2.2.toNat []≠[])/\x.2.1.length+x.1.2+mj (l.drop x.1.1)<=mj l/\xq (l.drop x.1.1) (if x.2.2<0 then[]else l.getD x.2.2.toNat []) x.1.2 x.2.1=xq l [] 0 []}) (fun x=>⟨[(0,.fs 1 (l.map ij)),(3,.s x.1.2.1),(4,.i .i64 (x.1.1.2:Nat)),(5,.i .i64 x.1.2.2),(8,.fs 1 (l.map ij)),(9,.i .i64 (l.length:Nat)),(10,.i .i64 (x.1.1.1:Nat))],[]⟩) (fun x=>l.length-x.1.1.1) ⟨((0,0),[],-1),bF _,Int.le_refl _,(show(-1:Int)<0 by decide),fun h=>absurd h (show ¬(0:Int) <= -1 by decide),by simp,rfl⟩ (cG.refl _ _) ?_;rintro⟨⟨⟨i,k⟩,out,la⟩,w,t,y,o,q,m⟩;simp only[↓XC,X1,seval,dB,vf,XR];simp only at w t y o q m;have z:=ku l;have A:=hp.1;have e:∀i,i<l.length->(l.getD i []).length<=1048576:=fun i n=>hp.2 _ (by rw[aG,aS n];exact gf n);refine⟨fun h=>?_,fun h=>?_⟩
 ·have n:i<l.length:=by omega
  have hd:=DP n;have s:=F7 n;rw[s]at q;refine CO fun _=>⟨fun a=>?_,fun a=>?_⟩
  ·rw[a]at q;simp only[aL]at q;exact CR fun _=>CR fun _=>⟨⟨((i+1,k+1),out,la),by simp only;omega,t,by simp only;omega,o,by simp only;omega,by simp only;rw[<-m,hd,R8 a]⟩,by simp only;omega,(by first|exact cG.refl _ _|(simp only[aP,aQ];exact cG.refl _ _))⟩
  refine bH.mk (fun h=>⟨h,e i n⟩) fun _=>bH.mk (fun h=>by simp only[aD,aE]at h;omega) fun _=>bH.mk (fun h=>⟨h,e _ (by simp only[aD,aE]at h;omega)⟩) fun _=>⟨fun d=>CR fun _=>⟨fun f=>by simp only[aD,aE]at f;omega,fun _=>?_⟩,fun d=>⟨fun f=>CO fun _=>?_,fun f=>?_⟩⟩
  ·simp only[aD,aV,aE]at d;have c:=o d.1;refine cF.of (ι:={r:Nat // r<=(k+1)}) (fun x=>⟨[(0,.fs 1 (l.map ij)),(3,.s (out++List.replicate ((k+1)-x.1) 10)),(4,.i .i64 (x.1:Nat)),(6,.i .i64 (i:Nat)),(7,.s (l.getD i [])),(8,.fs 1 (l.map ij)),(9,.i .i64 (l.length:Nat)),(10,.i .i64 (i:Nat))],[]⟩) (fun x=>x.1) ⟨(k+1),aN _⟩ (cG.cT [] (by decide) (by simp only[iD]) (by simp[bC,Vg.look,SV.bP,dX])) ?_;rintro⟨r,v⟩;simp only[↓XC,X1,seval,dB,XR];refine⟨fun h=>?_,fun h=>?_⟩
   ·rcases r with _|r
    ·omega
    refine bH.mk (by simp only[aC,bJ,aK,aL];omega) fun _=>CR fun _=>⟨⟨r,by omega⟩,by simp only;omega, ?_⟩
    rw[show(((r+1:Nat):Int)-1)=(r:Nat) by omega,show(out++List.replicate ((k+1)-(r+1)) (10:UInt8)++[10])=out++List.replicate ((k+1)-r) 10 by rw[bS,show(k+1)-r=(k+1)-(r+1)+1 by omega,eo]]
    exact cG.refl _ _
   obtain rfl:r=0:=by omega
   rw[Nat.sub_zero];refine bH.mk (by simp only[aC,bJ,aK,aL];omega) fun _=>CR fun _=>⟨⟨((i+1,0),out++List.replicate ((k+1)) 10++l.getD i [],(i:Int)),by simp only;omega,by simp only;omega,by simp only;omega,fun _=>by simpa using a,by simp only[aC,bJ,aK,aL];omega, ?_⟩,by simp only;omega,(by first|exact cG.refl _ _|(simp only[aP,aQ];exact cG.refl _ _))⟩
   simp only;rw[aA (by omega),Int.toNat_natCast,<-m,hd];rw[zn a,aA (show ¬la<0 by omega),aA c,aB d.2.symm]
  ·simp only[aD,aE]at f;have j:k=0:=by omega
   have c:=o f.1;rw[aJ f.1,di]at d;have g:¬(FN (l.getD la.toNat [])=true\/FN (l.getD i [])=true):=by intro b;rcases b with b|b<;>rw[b]at d<;>simp at d
   subst j;refine cF.of (ι:={r:Nat // r<=0}) (fun x=>⟨[(0,.fs 1 (l.map ij)),(3,.s ((out++[32])++List.replicate (0-x.1) 10)),(4,.i .i64 (x.1:Nat)),(6,.i .i64 (i:Nat)),(7,.s (l.getD i [])),(8,.fs 1 (l.map ij)),(9,.i .i64 (l.length:Nat)),(10,.i .i64 (i:Nat))],[]⟩) (fun x=>x.1) ⟨0,aN _⟩ (cG.cT [] (by decide) (by simp only[iD]) (by simp[bC,Vg.look,SV.bP,dX])) ?_;rintro⟨r,v⟩;simp only[↓XC,X1,seval,dB,XR];refine⟨fun h=>?_,fun h=>?_⟩
   ·rcases r with _|r
    ·omega
    refine bH.mk (by simp only[aC,bJ,aK,aL];omega) fun _=>CR fun _=>⟨⟨r,by omega⟩,by simp only;omega, ?_⟩
    rw[show(((r+1:Nat):Int)-1)=(r:Nat) by omega,show((out++[32])++List.replicate (0-(r+1)) (10:UInt8)++[10])=(out++[32])++List.replicate (0-r) 10 by rw[bS,show 0-r=0-(r+1)+1 by omega,eo]]
    exact cG.refl _ _
   obtain rfl:r=0:=by omega
   rw[Nat.sub_zero];refine bH.mk (by simp only[aC,bJ,aK,aL];omega) fun _=>CR fun _=>⟨⟨((i+1,0),(out++[32])++List.replicate (0) 10++l.getD i [],(i:Int)),by simp only;omega,by simp only;omega,by simp only;omega,fun _=>by simpa using a,by simp only[aC,bJ,aK,aL];omega, ?_⟩,by simp only;omega,(by first|exact cG.refl _ _|(simp only[aP,aQ];exact cG.refl _ _))⟩
   simp only;rw[aA (by omega),Int.toNat_natCast,<-m,hd];rw[zn a,aA (show ¬la<0 by omega),aA c,aA g,aB rfl];simp
  have p:(if(if la<0 then([]:Bs)else l.getD la.toNat [])=[]then List.replicate k (10:UInt8)else if FN (if la<0 then([]:Bs)else l.getD la.toNat [])=true\/FN (l.getD i [])=true then List.replicate (k+1) 10 else if k=0 then[32]else List.replicate k 10)=List.replicate k 10:=by
   by_cases u:la<0
   ·rw[aB u,aB rfl]
   have c:=o (by omega);rw[aJ (show la>=0 by omega),di]at d f;have g:¬(FN (l.getD la.toNat [])=true\/FN (l.getD i [])=true):=by intro b;rcases b with b|b<;>rw[b]at d<;>simp at d
   have j:¬k=0:=by intro b;subst b;simp at f
   rw[aA u,aA c,aA g,aA j]
  refine cF.of (ι:={r:Nat // r<=k}) (fun x=>⟨[(0,.fs 1 (l.map ij)),(3,.s (out++List.replicate (k-x.1) 10)),(4,.i .i64 (x.1:Nat)),(6,.i .i64 (i:Nat)),(7,.s (l.getD i [])),(8,.fs 1 (l.map ij)),(9,.i .i64 (l.length:Nat)),(10,.i .i64 (i:Nat))],[]⟩) (fun x=>x.1) ⟨k,aN _⟩ (cG.cT [] (by decide) (by simp only[iD]) (by simp[bC,Vg.look,SV.bP,dX])) ?_;rintro⟨r,v⟩;simp only[↓XC,X1,seval,dB,XR];refine⟨fun h=>?_,fun h=>?_⟩
  ·rcases r with _|r
   ·omega
   refine bH.mk (by simp only[aC,bJ,aK,aL];omega) fun _=>CR fun _=>⟨⟨r,by omega⟩,by simp only;omega, ?_⟩
   rw[show(((r+1:Nat):Int)-1)=(r:Nat) by omega,show(out++List.replicate (k-(r+1)) (10:UInt8)++[10])=out++List.replicate (k-r) 10 by rw[bS,show k-r=k-(r+1)+1 by omega,eo]]
   exact cG.refl _ _
  obtain rfl:r=0:=by omega
  rw[Nat.sub_zero];refine bH.mk (by simp only[aC,bJ,aK,aL];omega) fun _=>CR fun _=>⟨⟨((i+1,0),out++List.replicate (k) 10++l.getD i [],(i:Int)),by simp only;omega,by simp only;omega,by simp only;omega,fun _=>by simpa using a,by simp only[aC,bJ,aK,aL];omega, ?_⟩,by simp only;omega,(by first|exact cG.refl _ _|(simp only[aP,aQ];exact cG.refl _ _))⟩
  simp only;rw[aA (by omega),Int.toNat_natCast,<-m,hd];rw[zn a,p]
 rw[<-m,List.drop_eq_nil_of_le (by omega)];rfl
noncomputable def mZ:=gC fun((l,fo,ch):List Bs×Bool×Int)=>([.fs 1 (l.map ij),.b fo,.i .i64 ch],mj l<=1073741824/\∀x∈l,x.length<=1048576,.s (Qr l fo ch))
theorem hH{l:List Bs}{fo:Bool}{ch:Int}:mZ [.fs 1 (l.map ij),.b fo,.i .i64 ch]=some (ptr mZ rfl (l,fo,ch)):=qK @vy
theorem u2:fO Tryz.prog 334 mZ:=gJ fun(l,fo,ch) hp=>by
 dsimp only at *;refine HP u4.d 70 [[0,1,2],[0,1,2,7],[0,1,2,7,23],[0,1,2,7],[0,1,2,7,8],[0,2,7,8,26],[0,2,7,8],[0,2,7,8,33,34,35],[0,2,7,8,33,34,35,36],[0,2,7,8,9,10,33,34,35],[0,2,7,8,10,33,34,35,41],[0,2,7,8,10,33,34,35],[0,2,7,8,33,34,35],[0,2,7,8,33,34,35],[0,2,7,8,53],[0,2,7,8],[0,2,8,11],[0,2,8,11,64],[0,2,8,11],[0,2,8,11],[6]] Tryz.func334 [.tmp 6] ?_;simp only[↓XC,X1,seval,dB,kY,XR];refine cF.of (ι:={n:Nat // n<=l.length/\yA l n=yA l l.length}) (fun x=>⟨[(0,.fs 1 (l.map ij)),(1,.b fo),(2,.i .i64 ch),(7,.i .i64 (x.1:Nat))],[]⟩) (fun x=>x.1) ⟨l.length,aN _,rfl⟩ (cG.refl _ _) ?_;rintro⟨n,p,t⟩;simp only[↓XC,X1,seval,dB,kY,XR];have H:=hp.1;have v:((n:Int)-1).toNat=n-1:=by omega
 have F:=ku l;simp only[v,<-List.map_take];simp only[↓XC,X1,seval,dB,kY,XR];refine bH.mk (fun _=>by simp only[iU];omega) fun _=>bH.mk (fun _=>by omega) fun _=>⟨fun h=>CR fun _=>?_,fun h=>?_⟩
 ·simp only[fg,aD,aE]at h;refine⟨⟨n-1,by omega,by rw[<-F9 (by omega) h.2];exact t⟩,by simp only;omega, ?_⟩;rw[show((n:Int)-1)=((n-1:Nat):Int) by omega];exact cG.refl _ _
 simp only[fg,bA,aO]at h;have r:yA l l.length=n:=by rw[<-t];exact Kk fun D=>h.resolve_left (by omega)
 have C:=rj l n;have E:=rh (l.take n);have z:=uK (l.take n) [] 0 [];simp only[aL]at z;have G:(l.take n).length=n:=by rw[aZ];omega
 refine⟨fun q=>CO fun _=>bH.mk ⟨by omega,fun x u=>hp.2 x (List.mem_of_mem_take u)⟩ fun _=>?_,fun q=>CO fun _=>?_⟩
 ·refine⟨fun f=>CO fun _=>?_,fun f=>?_⟩
  ·simp only[aD,aE,aR,aO]at f;refine cF.of (ι:={i:Nat // n<=i/\i<=l.length/\(ch≠2->i=n)}) (fun x=>⟨[(0,.fs 1 (l.map ij)),(2,.i .i64 ch),(8,.s ((xq (l.take n) [] 0 []++[10])++List.replicate (x.1-n) 10)),(11,.i .i64 (x.1:Nat))],[]⟩) (fun x=>l.length-x.1) ⟨n,aN _,p,fun _=>rfl⟩ (by simp only[Nat.sub_self,fE,dw];exact cG.cT [] (by decide) (by simp only[iD]) (by simp[bC,Vg.look,SV.bP,dX])) ?_;rintro⟨i,a,c,d⟩;simp only[↓XC,X1,seval,dB,XR];refine⟨fun h=>?_,fun h=>?_⟩
   ·simp only[aD,aE]at h;refine bH.mk (by simp only[aC,bJ,aK,aL];omega) fun _=>CR fun _=>⟨⟨i+1,by omega,by omega,fun b=>absurd h.2 b⟩,by simp only;omega, ?_⟩
    rw[show List.replicate (i+1-n) (10:UInt8)=List.replicate (i-n) 10++[10] by rw[show i+1-n=(i-n)+1 by omega,eo],<-bS];simp only[aP,aQ];exact cG.refl _ _
   have e:ch=2->i=l.length:=fun b=>by simp only[bA,aO]at h;omega
   have g:=DJ (fo:=fo) r a c e d;rw[aB ⟨by omega,f.2⟩,aB q]at g;rw[g]
  have k:¬(0<n/\ch≠1):=by intro b;rw[aJ (show(n:Int)>0 by omega),aI b.2]at f;cases f
  refine cF.of (ι:={i:Nat // n<=i/\i<=l.length/\(ch≠2->i=n)}) (fun x=>⟨[(0,.fs 1 (l.map ij)),(2,.i .i64 ch),(8,.s (xq (l.take n) [] 0 []++List.replicate (x.1-n) 10)),(11,.i .i64 (x.1:Nat))],[]⟩) (fun x=>l.length-x.1) ⟨n,aN _,p,fun _=>rfl⟩ (by simp only[Nat.sub_self,fE,dw];exact cG.cT [] (by decide) (by simp only[iD]) (by simp[bC,Vg.look,SV.bP,dX])) ?_;rintro⟨i,a,c,d⟩;simp only[↓XC,X1,seval,dB,XR];refine⟨fun h=>?_,fun h=>?_⟩
  ·simp only[aD,aE]at h;refine bH.mk (by simp only[aC,bJ,aK,aL];omega) fun _=>CR fun _=>⟨⟨i+1,by omega,by omega,fun b=>absurd h.2 b⟩,by simp only;omega, ?_⟩
   rw[show List.replicate (i+1-n) (10:UInt8)=List.replicate (i-n) 10++[10] by rw[show i+1-n=(i-n)+1 by omega,eo],<-bS];simp only[aP,aQ];exact cG.refl _ _
  have e:ch=2->i=l.length:=fun b=>by simp only[bA,aO]at h;omega
  have g:=DJ (fo:=fo) r a c e d;rw[aA k,aB q]at g;rw[g]
 have o:¬fo=true:=by simpa using q
 refine cF.of (ι:={j:Nat // j<=n}) (fun x=>⟨[(0,.fs 1 (l.map ij)),(2,.i .i64 ch),(7,.i .i64 (n:Nat)),(8,.s (Lib.join (l.take x.1) [10])),(33,.fs 1 ((l.take n).map ij)),(34,.i .i64 ((l.take n).length:Nat)),(35,.i .i64 (x.1:Nat))],[]⟩) (fun x=>n-x.1) ⟨0,bF _⟩ (cG.refl _ _) ?_;rintro⟨j,I⟩;simp only[↓XC,X1,seval,dB,XR];have A:=rh (l.take j);have B:=rj l j;refine⟨fun h=>?_,fun h=>?_⟩
 ·have m:j<n:=by omega
  have w:(l.take n).getD j []=l.getD j []:=by rw[aG,aG,ef m]
  have u:(l.getD j []).length<=1048576:=hp.2 _ (by rw[aG,aS (show j<l.length by omega)];exact gf _);have s:=LZ (l:=l) (i:=j) (by omega);rw[w];refine CO fun _=>⟨fun y=>CO fun _=>CO fun _=>CR fun _=>⟨⟨j+1,m⟩,by simp only;omega, ?_⟩,fun y=>CO fun _=>CR fun _=>⟨⟨j+1,m⟩,by simp only;omega, ?_⟩⟩
  ·simp only;rw[s,aA (by omega)];simp only[aP,aQ];exact cG.refl _ _
  obtain rfl:j=0:=by omega
  simp only;rw[s,aB rfl];exact cG.refl _ _
 obtain rfl:j=n:=by omega
 have a:True:=trivial;refine⟨fun f=>CO fun _=>?_,fun f=>?_⟩
 ·simp only[aD,aE,aR,aO]at f;refine cF.of (ι:={i:Nat // j<=i/\i<=l.length/\(ch≠2->i=j)}) (fun x=>⟨[(0,.fs 1 (l.map ij)),(2,.i .i64 ch),(8,.s ((Lib.join (l.take j) [10]++[10])++List.replicate (x.1-j) 10)),(11,.i .i64 (x.1:Nat))],[]⟩) (fun x=>l.length-x.1) ⟨j,aN _,p,fun _=>rfl⟩ (by simp only[Nat.sub_self,fE,dw];exact cG.cT [] (by decide) (by simp only[iD]) (by simp[bC,Vg.look,SV.bP,dX])) ?_;rintro⟨i,a,c,d⟩;simp only[↓XC,X1,seval,dB,XR];refine⟨fun h=>?_,fun h=>?_⟩
  ·simp only[aD,aE]at h;refine bH.mk (by simp only[aC,bJ,aK,aL];omega) fun _=>CR fun _=>⟨⟨i+1,by omega,by omega,fun b=>absurd h.2 b⟩,by simp only;omega, ?_⟩
   rw[show List.replicate (i+1-j) (10:UInt8)=List.replicate (i-j) 10++[10] by rw[show i+1-j=(i-j)+1 by omega,eo],<-bS];simp only[aP,aQ];exact cG.refl _ _
  have e:ch=2->i=l.length:=fun b=>by simp only[bA,aO]at h;omega
  have g:=DJ (fo:=fo) r a c e d;rw[aB ⟨by omega,f.2⟩,aA o]at g;rw[g]
 have k:¬(0<j/\ch≠1):=by intro b;rw[aJ (show(j:Int)>0 by omega),aI b.2]at f;cases f
 refine cF.of (ι:={i:Nat // j<=i/\i<=l.length/\(ch≠2->i=j)}) (fun x=>⟨[(0,.fs 1 (l.map ij)),(2,.i .i64 ch),(8,.s (Lib.join (l.take j) [10]++List.replicate (x.1-j) 10)),(11,.i .i64 (x.1:Nat))],[]⟩) (fun x=>l.length-x.1) ⟨j,aN _,p,fun _=>rfl⟩ (by simp only[Nat.sub_self,fE,dw];exact cG.cT [] (by decide) (by simp only[iD]) (by simp[bC,Vg.look,SV.bP,dX])) ?_;rintro⟨i,a,c,d⟩;simp only[↓XC,X1,seval,dB,XR];refine⟨fun h=>?_,fun h=>?_⟩
 ·simp only[aD,aE]at h;refine bH.mk (by simp only[aC,bJ,aK,aL];omega) fun _=>CR fun _=>⟨⟨i+1,by omega,by omega,fun b=>absurd h.2 b⟩,by simp only;omega, ?_⟩
  rw[show List.replicate (i+1-j) (10:UInt8)=List.replicate (i-j) 10++[10] by rw[show i+1-j=(i-j)+1 by omega,eo],<-bS];simp only[aP,aQ];exact cG.refl _ _
 have e:ch=2->i=l.length:=fun b=>by simp only[bA,aO]at h;omega
 have g:=DJ (fo:=fo) r a c e d;rw[aA k,aA o]at g;rw[g]
end Go.T
end
section
namespace Go.T
variable[Go.Vg.df][Go.Vg.cS 0 1]
open Go.Proofs Go.Vg Go.RowKit Go.TT Go.Pl
set_option maxRecDepth 10000
set_option maxHeartbeats 4000000
noncomputable def nh:=gC fun((s,p,n):Bs×Int×Int)=>([.s s,.i .i64 p,.i .i64 n],s.length<=60000 /\ -1<=n/\n<=60000,.fJ [.s (nQ s (spot s p) n).1,.i .i64 ((nQ s (spot s p) n).2.1:Nat),.i .i64 (nQ s (spot s p) n).2.2])
theorem nT{s:Bs}{p n:Int}:nh [.s s,.i .i64 p,.i .i64 n]=some (ptr nh rfl (s,p,n)):=iZ
theorem u7:fO Tryz.prog 301 nh:=gJ fun(s,p,n) hp=>by
 dsimp only at *;refine HP (eD.c (Ah.c (sY.c (Ax.c (hO.c (pU.c (lH.c (iM.c u2.d)))))))) 122 [[0,1,2],[0,1,2],[0,1,2,9,10,11,12],[0,1,2,9,10,11,12,30],[6,7,8],[0,2,9,10,11,13],[0,2,9,10,11,13],[0,2,9,10,11,13,14],[0,2,9,10,11,13,14,15],[0,2,9,10,11,13,14,15,47],[0,2,9,10,11,13,14,15],[0,2,9,10,11,13,14,15,54],[0,2,10,11,13,14,15],[0,10,11,13,14,15,59],[0,10,11,13,14,15],[0,10,11,13,14,15,16],[0,10,11,13,14,15,16,70],[0,10,11,13,14,15,16,17],[0,10,11,13,14,15,16,17,82],[0,10,11,13,14,15,16,17],[0,10,11,13,14,15,16,99],[0,10,11,13,14,15,16],[0,10,11,13,14,15,16],[0,10,11,13,14,15,16],[6,7,8]] Tryz.func301 [.tmp 6,.tmp 7,.tmp 8] ?_;simp only[↓XC,X1,seval,dB,eB,Ag,jS,Aw,cy,iK,gu,fi,hH,XR];have h0:=dW s p;generalize spot s p=q0 at *;have o:s.length<=1048576:=by omega
 rw[bQ s h0];refine bH.mk o fun _=>⟨fun h=>?_,fun h=>?_⟩
 ·unfold nQ;rw[aB (by simpa using h)]
 have hz:(jJ s q0).2.2.2=0:=by simpa using h
 have G:q0<s.length:=by
  unfold jJ at hz;split at hz
  ·rename_i v;rcases v with v|v
   ·exact cE v (by decide)
   exact cE v (by decide)
  cases hz
 obtain⟨⟨x,au,aa⟩,aq,ar⟩:=JX G hz;have ak:=(vW G).2.1;have aj:nQ s q0 n=(Qr (pN s (HJ s n (jJ s q0).1 (gZ s (jJ s q0).2.2.1)).1 (HJ s n (jJ s q0).1 (gZ s (jJ s q0).2.2.1)).2 (gZ s (jJ s q0).2.2.1)).1 (decide (bW s q0=62)) (jJ s q0).2.1,(pN s (HJ s n (jJ s q0).1 (gZ s (jJ s q0).2.2.1)).1 (HJ s n (jJ s q0).1 (gZ s (jJ s q0).2.2.1)).2 (gZ s (jJ s q0).2.2.1)).2,0):=by unfold nQ;rw[aA (by simpa using hz)]
 rw[aj];rw[bQ s ak];have af:gZ s (en s (jJ s q0).2.2.1)=gZ s (jJ s q0).2.2.1:=by rw[aa,T4 (DQ s x)]
 have ao:gZ s (jJ s q0).2.2.1<s.length->la s (gZ s (jJ s q0).2.2.1)=gZ s (jJ s q0).2.2.1:=by rw[aa];exact qY
 rw[af];clear aj hz af h aa ak;generalize (jJ s q0).1=J at *;generalize (jJ s q0).2.1=ch at *;generalize (jJ s q0).2.2.1=qe at *;have Y:=jZ s qe;generalize gZ s qe=a0 at *;have Z:a0<s.length->la s a0=a0/\mj []<=a0:=fun h=>⟨ao h,by simp[mj]⟩
 obtain⟨d,F,R⟩:∃d F,HJ s n J a0=(d,F):=⟨_,_,rfl⟩
 rw[R];have X:decide (J>0)=true->F<=a0:=fun h=>by have v:=aW h;unfold HJ at R;rw[aB ⟨v,by omega⟩]at R;have:=cD Prod.snd R;simp only at this;omega
 have S:decide (J>0)=false->um s a0 n=(d,F):=fun h=>by have v:=bE h;unfold HJ at R;rw[aA (fun b=>v b.1),aB (by omega)]at R;exact R
 have T:J>0->(d:Int)=max n 0+J:=fun v=>by unfold HJ at R;rw[aB ⟨v,by omega⟩]at R;have:=cD Prod.fst R;simp only at this;omega
 have al:¬J>0->(um s a0 n).1=d:=fun v=>by rw[S (aI v)]
 simp only;refine CO fun _=>bH.mk o fun _=>bH.mk ⟨o,by omega,by omega⟩ fun _=>⟨fun v=>⟨fun h2=>CR fun _=>⟨fun i=>absurd i (by omega),fun i=>?_⟩,fun h2=>⟨fun i=>absurd i (by omega),fun i=>?_⟩⟩,fun v=>?_⟩
 ·simp only[aD,aE]at h2;rw[show n+J=(d:Int) by have:=T v;omega];refine cF.of (ι:={x:(Nat×Bool)×List Bs // x.1.1<=s.length/\(x.1.1<s.length->la s x.1.1=x.1.1/\mj x.2<=x.1.1)/\mj x.2<=x.1.1+1/\(∀y∈x.2,y.length<=1048576)/\(x.2++(pN s d F x.1.1).1,(pN s d F x.1.1).2)=pN s d F a0/\(x.1.2=true->F<=x.1.1)/\(x.1.2=false->um s x.1.1 n=(d,F))}) (fun x=>⟨[(0,.s s),(10,.i .i64 ch),(11,.i .i64 (x.1.1.1:Nat)),(13,.b (decide ((((s.getD q0 0).toNat:Nat):Int)=62))),(14,.i .i64 (d:Nat)),(15,.b x.1.1.2),(16,.ew 0 0 x.1.2.length)],[some (.row false 1 x.1.2.length (bT ij [] x.1.2))]⟩) (fun x=>s.length-x.1.1.1) ⟨((a0,decide (J>0)),[]),Y,Z,by simp[mj],by simp,by simp,X,S⟩ (cG.cT [0] (by decide) (by simp only[Yd];exact bM fun j hj=>absurd hj (aT _)) (by simp[bC,Vg.look,SV.bP,dX])) ?_;rintro⟨⟨⟨a,q⟩,L⟩,O,W,k3,I,l,P,Q⟩;simp only[↓XC,X1,seval,dB,cy,iK,gu,fi,jS,XR];simp only at O W k3 I l P Q;rw[bQ s O];have ab:=ku L;refine bH.mk (fun h=>⟨⟨h,h⟩,o⟩) fun _=>⟨fun i=>bH.mk o fun _=>bH.mk (fun h=>⟨⟨h,h⟩,o⟩) fun _=>⟨fun w=>?_,fun w=>bH.mk (fun h=>⟨⟨h,h⟩,o⟩) fun _=>?_⟩,fun i=>?_⟩
  ·simp only[aD,aE,aR]at w;rw[sU (fun b=>by rcases b.2.2 with e|e;(rw[w.1]at e;cases e);omega)]at l;rw[<-l];simp only[dw];rw[et rfl,<-cW G];simp only[↓XC,X1,seval,dB,hH,XR];exact bH.mk ⟨by omega,by omega,I⟩ fun _=>trivial
  ·simp only[aD,aE]at i;have g:a<s.length:=by omega
   obtain⟨k8,k9⟩:=W g;have u:¬(js s a=false/\jG s a<d):=fun b=>by rw[b.1,aJ (show((jG s a:Nat):Int)<d by omega)]at w;cases w
   have E:=D4 (by omega) g i.2 P Q u;have hg:=lv g;have A:=jZ s (en s a);have ag:=jF s a O;have ah:=lW s a;have ad:bl s a-a=jG s a:=by unfold jG;rw[k8]
   have U:=y5 s a;have m:gZ s (en s a)<s.length->la s (gZ s (en s a))=gZ s (en s a):=qY;have B:gZ s (en s a)<s.length->gZ s (en s a)=en s a+1:=fun h=>by unfold gZ at *;omega
   have V:en s a<=gZ s (en s a):=by unfold gZ;omega
   have H:=CP (f:=F) (d:=d) (show a<s.length/\ib s a=0/\(js s a=true\/d<=jG s a)from⟨g,i.2,by
    cases hl:js s a
    ·right;exact Nat.not_lt.1 fun e=>u ⟨hl,e⟩
    left;rfl⟩)
   have C:(q||!js s a)=true->F<=gZ s (en s a):=fun b=>by
    cases z:q
    ·rw[z,cX,aR]at b;have:=(E.2 (.inl b)).1;omega
    have:=P z;omega
   have D:(q||!js s a)=false->um s (gZ s (en s a)) n=(d,F):=fun b=>by simp only[aY,bD]at b;rw[<-zI ⟨g,i.2⟩ b.2];exact Q b.1
   have t:(!js s a||(q||!js s a)&&decide (((jG s a:Nat):Int)>d))=decide (F<=a/\(js s a=false\/d<jG s a)):=by rw[bO,aE,E];cases js s a<;>cases q<;>simp<;>omega
   rw[t];refine⟨fun M=>?_,fun M=>⟨dz rfl rfl,CO fun _=>bH.mk o fun _=>?_⟩⟩
   ·have k:=aW M;have ae:d<=jG s a:=by
     rcases k.2 with b|b
     ·exact Nat.not_lt.1 fun e=>u ⟨b,e⟩
     omega
    have e1:((a:Int)+d).toNat=a+d:=by omega
    have c:(sub s (a+d) (en s a)).length=en s a-(a+d):=by simp only[sub,bK,aZ];omega
    refine CR fun _=>bH.mk o fun _=>bH.mk ⟨by omega,by omega,by omega⟩ fun _=>⟨dz rfl rfl,CO fun _=>bH.mk o fun _=>?_⟩
    rw[e1];refine⟨⟨((gZ s (en s a),q||!js s a),L++[sub s (a+d) (en s a)]),A,fun h=>⟨m h, ?_⟩, ?_, ?_, ?_,C,D⟩,by simp only;omega,(cG.cT [2] (by decide) (by simp only[Yd];exact fY (y:=sub s (a+d) (en s a)) (fun _=>rfl) rfl (fun _ _=>rfl) rfl) (by simp[bC,Vg.look,SV.bP,dX]))⟩
    ·have e:=B h;simp only[gX,c]at e |-
     omega
    ·simp only[gX,c];omega
    ·intro y N;rcases dh.1 N with b|b
     ·exact I y b
     have r:y=sub s (a+d) (en s a):=by simpa using b
     rw[r,c];omega
    rw[H,aB k]at l;simp only[bS,dl];exact l
   have k:=bE M;have c:([]:Bs).length=0:=rfl;refine⟨⟨((gZ s (en s a),q||!js s a),L++[([]:Bs)]),A,fun h=>⟨m h, ?_⟩, ?_, ?_, ?_,C,D⟩,by simp only;omega,(cG.cT [2] (by decide) (by simp only[Yd];exact fY (y:=([]:Bs)) (fun _=>rfl) rfl (fun _ _=>rfl) rfl) (by simp[bC,Vg.look,SV.bP,dX]))⟩
   ·have e:=B h;simp only[gX,c]at e |-
    omega
   ·simp only[gX,c];omega
   ·intro y N;rcases dh.1 N with b|b
    ·exact I y b
    have r:y=([]:Bs):=by simpa using b
    rw[r,c];omega
   rw[H,aA k]at l;simp only[bS,dl];exact l
  have K:¬(a<s.length/\ib s a=0):=fun b=>by rw[aJ (show(a:Int)<(s.length:Nat) by omega),aJ b.2]at i;cases i
  rw[sU (fun b=>K ⟨b.1,b.2.1⟩)]at l;rw[<-l];simp only[dw];rw[et rfl,<-cW G];simp only[↓XC,X1,seval,dB,hH,XR];exact bH.mk ⟨by omega,by omega,I⟩ fun _=>trivial
 ·have ap:¬n>0:=by intro b;rw[aJ b,aJ (show n<=60000 by omega)]at h2;cases h2
  rw[show J=(d:Int) by have:=T v;omega];refine cF.of (ι:={x:(Nat×Bool)×List Bs // x.1.1<=s.length/\(x.1.1<s.length->la s x.1.1=x.1.1/\mj x.2<=x.1.1)/\mj x.2<=x.1.1+1/\(∀y∈x.2,y.length<=1048576)/\(x.2++(pN s d F x.1.1).1,(pN s d F x.1.1).2)=pN s d F a0/\(x.1.2=true->F<=x.1.1)/\(x.1.2=false->um s x.1.1 n=(d,F))}) (fun x=>⟨[(0,.s s),(10,.i .i64 ch),(11,.i .i64 (x.1.1.1:Nat)),(13,.b (decide ((((s.getD q0 0).toNat:Nat):Int)=62))),(14,.i .i64 (d:Nat)),(15,.b x.1.1.2),(16,.ew 0 0 x.1.2.length)],[some (.row false 1 x.1.2.length (bT ij [] x.1.2))]⟩) (fun x=>s.length-x.1.1.1) ⟨((a0,decide ((d:Int)>0)),[]),Y,Z,by simp[mj],by simp,by simp,by rw[<-show J=(d:Int) by have:=T v;omega];exact X,by rw[<-show J=(d:Int) by have:=T v;omega];exact S⟩ (cG.cT [0] (by decide) (by simp only[Yd];exact bM fun j hj=>absurd hj (aT _)) (by simp[bC,Vg.look,SV.bP,dX])) ?_;rintro⟨⟨⟨a,q⟩,L⟩,O,W,k3,I,l,P,Q⟩;simp only[↓XC,X1,seval,dB,cy,iK,gu,fi,jS,XR];simp only at O W k3 I l P Q;rw[bQ s O];have ab:=ku L;refine bH.mk (fun h=>⟨⟨h,h⟩,o⟩) fun _=>⟨fun i=>bH.mk o fun _=>bH.mk (fun h=>⟨⟨h,h⟩,o⟩) fun _=>⟨fun w=>?_,fun w=>bH.mk (fun h=>⟨⟨h,h⟩,o⟩) fun _=>?_⟩,fun i=>?_⟩
  ·simp only[aD,aE,aR]at w;rw[sU (fun b=>by rcases b.2.2 with e|e;(rw[w.1]at e;cases e);omega)]at l;rw[<-l];simp only[dw];rw[et rfl,<-cW G];simp only[↓XC,X1,seval,dB,hH,XR];exact bH.mk ⟨by omega,by omega,I⟩ fun _=>trivial
  ·simp only[aD,aE]at i;have g:a<s.length:=by omega
   obtain⟨k8,k9⟩:=W g;have u:¬(js s a=false/\jG s a<d):=fun b=>by rw[b.1,aJ (show((jG s a:Nat):Int)<d by omega)]at w;cases w
   have E:=D4 (by omega) g i.2 P Q u;have hg:=lv g;have A:=jZ s (en s a);have ag:=jF s a O;have ah:=lW s a;have ad:bl s a-a=jG s a:=by unfold jG;rw[k8]
   have U:=y5 s a;have m:gZ s (en s a)<s.length->la s (gZ s (en s a))=gZ s (en s a):=qY;have B:gZ s (en s a)<s.length->gZ s (en s a)=en s a+1:=fun h=>by unfold gZ at *;omega
   have V:en s a<=gZ s (en s a):=by unfold gZ;omega
   have H:=CP (f:=F) (d:=d) (show a<s.length/\ib s a=0/\(js s a=true\/d<=jG s a)from⟨g,i.2,by
    cases hl:js s a
    ·right;exact Nat.not_lt.1 fun e=>u ⟨hl,e⟩
    left;rfl⟩)
   have C:(q||!js s a)=true->F<=gZ s (en s a):=fun b=>by
    cases z:q
    ·rw[z,cX,aR]at b;have:=(E.2 (.inl b)).1;omega
    have:=P z;omega
   have D:(q||!js s a)=false->um s (gZ s (en s a)) n=(d,F):=fun b=>by simp only[aY,bD]at b;rw[<-zI ⟨g,i.2⟩ b.2];exact Q b.1
   have t:(!js s a||(q||!js s a)&&decide (((jG s a:Nat):Int)>d))=decide (F<=a/\(js s a=false\/d<jG s a)):=by rw[bO,aE,E];cases js s a<;>cases q<;>simp<;>omega
   rw[t];refine⟨fun M=>?_,fun M=>⟨dz rfl rfl,CO fun _=>bH.mk o fun _=>?_⟩⟩
   ·have k:=aW M;have ae:d<=jG s a:=by
     rcases k.2 with b|b
     ·exact Nat.not_lt.1 fun e=>u ⟨b,e⟩
     omega
    have e1:((a:Int)+d).toNat=a+d:=by omega
    have c:(sub s (a+d) (en s a)).length=en s a-(a+d):=by simp only[sub,bK,aZ];omega
    refine CR fun _=>bH.mk o fun _=>bH.mk ⟨by omega,by omega,by omega⟩ fun _=>⟨dz rfl rfl,CO fun _=>bH.mk o fun _=>?_⟩
    rw[e1];refine⟨⟨((gZ s (en s a),q||!js s a),L++[sub s (a+d) (en s a)]),A,fun h=>⟨m h, ?_⟩, ?_, ?_, ?_,C,D⟩,by simp only;omega,(cG.cT [2] (by decide) (by simp only[Yd];exact fY (y:=sub s (a+d) (en s a)) (fun _=>rfl) rfl (fun _ _=>rfl) rfl) (by simp[bC,Vg.look,SV.bP,dX]))⟩
    ·have e:=B h;simp only[gX,c]at e |-
     omega
    ·simp only[gX,c];omega
    ·intro y N;rcases dh.1 N with b|b
     ·exact I y b
     have r:y=sub s (a+d) (en s a):=by simpa using b
     rw[r,c];omega
    rw[H,aB k]at l;simp only[bS,dl];exact l
   have k:=bE M;have c:([]:Bs).length=0:=rfl;refine⟨⟨((gZ s (en s a),q||!js s a),L++[([]:Bs)]),A,fun h=>⟨m h, ?_⟩, ?_, ?_, ?_,C,D⟩,by simp only;omega,(cG.cT [2] (by decide) (by simp only[Yd];exact fY (y:=([]:Bs)) (fun _=>rfl) rfl (fun _ _=>rfl) rfl) (by simp[bC,Vg.look,SV.bP,dX]))⟩
   ·have e:=B h;simp only[gX,c]at e |-
    omega
   ·simp only[gX,c];omega
   ·intro y N;rcases dh.1 N with b|b
    ·exact I y b
    have r:y=([]:Bs):=by simpa using b
    rw[r,c];omega
   rw[H,aA k]at l;simp only[bS,dl];exact l
  have K:¬(a<s.length/\ib s a=0):=fun b=>by rw[aJ (show(a:Int)<(s.length:Nat) by omega),aJ b.2]at i;cases i
  rw[sU (fun b=>K ⟨b.1,b.2.1⟩)]at l;rw[<-l];simp only[dw];rw[et rfl,<-cW G];simp only[↓XC,X1,seval,dB,hH,XR];exact bH.mk ⟨by omega,by omega,I⟩ fun _=>trivial
 rw[al v];refine cF.of (ι:={x:(Nat×Bool)×List Bs // x.1.1<=s.length/\(x.1.1<s.length->la s x.1.1=x.1.1/\mj x.2<=x.1.1)/\mj x.2<=x.1.1+1/\(∀y∈x.2,y.length<=1048576)/\(x.2++(pN s d F x.1.1).1,(pN s d F x.1.1).2)=pN s d F a0/\(x.1.2=true->F<=x.1.1)/\(x.1.2=false->um s x.1.1 n=(d,F))}) (fun x=>⟨[(0,.s s),(10,.i .i64 ch),(11,.i .i64 (x.1.1.1:Nat)),(13,.b (decide ((((s.getD q0 0).toNat:Nat):Int)=62))),(14,.i .i64 (d:Nat)),(15,.b x.1.1.2),(16,.ew 0 0 x.1.2.length)],[some (.row false 1 x.1.2.length (bT ij [] x.1.2))]⟩) (fun x=>s.length-x.1.1.1) ⟨((a0,decide (J>0)),[]),Y,Z,by simp[mj],by simp,by simp,X,S⟩ (cG.cT [0] (by decide) (by simp only[Yd];exact bM fun j hj=>absurd hj (aT _)) (by simp[bC,Vg.look,SV.bP,dX])) ?_;rintro⟨⟨⟨a,q⟩,L⟩,O,W,k3,I,l,P,Q⟩;simp only[↓XC,X1,seval,dB,cy,iK,gu,fi,jS,XR];simp only at O W k3 I l P Q;rw[bQ s O];have ab:=ku L;refine bH.mk (fun h=>⟨⟨h,h⟩,o⟩) fun _=>⟨fun i=>bH.mk o fun _=>bH.mk (fun h=>⟨⟨h,h⟩,o⟩) fun _=>⟨fun w=>?_,fun w=>bH.mk (fun h=>⟨⟨h,h⟩,o⟩) fun _=>?_⟩,fun i=>?_⟩
 ·simp only[aD,aE,aR]at w;rw[sU (fun b=>by rcases b.2.2 with e|e;(rw[w.1]at e;cases e);omega)]at l;rw[<-l];simp only[dw];rw[et rfl,<-cW G];simp only[↓XC,X1,seval,dB,hH,XR];exact bH.mk ⟨by omega,by omega,I⟩ fun _=>trivial
 ·simp only[aD,aE]at i;have g:a<s.length:=by omega
  obtain⟨k8,k9⟩:=W g;have u:¬(js s a=false/\jG s a<d):=fun b=>by rw[b.1,aJ (show((jG s a:Nat):Int)<d by omega)]at w;cases w
  have E:=D4 (by omega) g i.2 P Q u;have hg:=lv g;have A:=jZ s (en s a);have ag:=jF s a O;have ah:=lW s a;have ad:bl s a-a=jG s a:=by unfold jG;rw[k8]
  have U:=y5 s a;have m:gZ s (en s a)<s.length->la s (gZ s (en s a))=gZ s (en s a):=qY;have B:gZ s (en s a)<s.length->gZ s (en s a)=en s a+1:=fun h=>by unfold gZ at *;omega
  have V:en s a<=gZ s (en s a):=by unfold gZ;omega
  have H:=CP (f:=F) (d:=d) (show a<s.length/\ib s a=0/\(js s a=true\/d<=jG s a)from⟨g,i.2,by
   cases hl:js s a
   ·right;exact Nat.not_lt.1 fun e=>u ⟨hl,e⟩
   left;rfl⟩)
  have C:(q||!js s a)=true->F<=gZ s (en s a):=fun b=>by
   cases z:q
   ·rw[z,cX,aR]at b;have:=(E.2 (.inl b)).1;omega
   have:=P z;omega
  have D:(q||!js s a)=false->um s (gZ s (en s a)) n=(d,F):=fun b=>by simp only[aY,bD]at b;rw[<-zI ⟨g,i.2⟩ b.2];exact Q b.1
  have t:(!js s a||(q||!js s a)&&decide (((jG s a:Nat):Int)>d))=decide (F<=a/\(js s a=false\/d<jG s a)):=by rw[bO,aE,E];cases js s a<;>cases q<;>simp<;>omega
  rw[t];refine⟨fun M=>?_,fun M=>⟨dz rfl rfl,CO fun _=>bH.mk o fun _=>?_⟩⟩
  ·have k:=aW M;have ae:d<=jG s a:=by
    rcases k.2 with b|b
    ·exact Nat.not_lt.1 fun e=>u ⟨b,e⟩
    omega
   have e1:((a:Int)+d).toNat=a+d:=by omega
   have c:(sub s (a+d) (en s a)).length=en s a-(a+d):=by simp only[sub,bK,aZ];omega
   refine CR fun _=>bH.mk o fun _=>bH.mk ⟨by omega,by omega,by omega⟩ fun _=>⟨dz rfl rfl,CO fun _=>bH.mk o fun _=>?_⟩
   rw[e1];refine⟨⟨((gZ s (en s a),q||!js s a),L++[sub s (a+d) (en s a)]),A,fun h=>⟨m h, ?_⟩, ?_, ?_, ?_,C,D⟩,by simp only;omega,(cG.cT [2] (by decide) (by simp only[Yd];exact fY (y:=sub s (a+d) (en s a)) (fun _=>rfl) rfl (fun _ _=>rfl) rfl) (by simp[bC,Vg.look,SV.bP,dX]))⟩
   ·have e:=B h;simp only[gX,c]at e |-
    omega
   ·simp only[gX,c];omega
   ·intro y N;rcases dh.1 N with b|b
    ·exact I y b
    have r:y=sub s (a+d) (en s a):=by simpa using b
    rw[r,c];omega
   rw[H,aB k]at l;simp only[bS,dl];exact l
  have k:=bE M;have c:([]:Bs).length=0:=rfl;refine⟨⟨((gZ s (en s a),q||!js s a),L++[([]:Bs)]),A,fun h=>⟨m h, ?_⟩, ?_, ?_, ?_,C,D⟩,by simp only;omega,(cG.cT [2] (by decide) (by simp only[Yd];exact fY (y:=([]:Bs)) (fun _=>rfl) rfl (fun _ _=>rfl) rfl) (by simp[bC,Vg.look,SV.bP,dX]))⟩
  ·have e:=B h;simp only[gX,c]at e |-
   omega
  ·simp only[gX,c];omega
  ·intro y N;rcases dh.1 N with b|b
   ·exact I y b
   have r:y=([]:Bs):=by simpa using b
   rw[r,c];omega
  rw[H,aA k]at l;simp only[bS,dl];exact l
 have K:¬(a<s.length/\ib s a=0):=fun b=>by rw[aJ (show(a:Int)<(s.length:Nat) by omega),aJ b.2]at i;cases i
 rw[sU (fun b=>K ⟨b.1,b.2.1⟩)]at l;rw[<-l];simp only[dw];rw[et rfl,<-cW G];simp only[↓XC,X1,seval,dB,hH,XR];exact bH.mk ⟨by omega,by omega,I⟩ fun _=>trivial
end Go.T
end
section
namespace Go.T
variable[Go.Vg.df][Go.Vg.cS 0 1]
open Go.Proofs Go.Vg Go.RowKit Go.TT Go.Pl
set_option maxRecDepth 10000
set_option maxHeartbeats 4000000
theorem qi(s:Bs)(r:Rd)(a:Int)(hp:s.length<=1048576/\r.pos<=s.length):gQ Tryz.prog 175 4 [.ptr 0 0 0] (fk s (r) ((r).pos:Nat) a) (fun z c=>z=.b (fV s r.pos)/\c=(fk s (r) ((r).pos:Nat) a)):=by
 refine l5 hO.d 25 [[0],[2]] Tryz.func175 [.tmp 2] (fun _=>false) [] [(1,[],[],qa (.q0 3 [3] (.q0 7 [7] (.q1 8 (qh (.q1 15 (.q1 16 (.q1 17 (.q0 14 [14] (.q0 18 [18] (.de 19 (.q1 20 (.q1 21 (.q1 22 .fin))) .fin)))))))))))] ?_;simp only[↓X9,X1,seval,X2,cy];rw[bQ s hp.2];have hm:=kJ s r.pos;have e:(decide ((r.pos:Int)>=(s.length:Nat))||decide (ib s r.pos>0))=fV s r.pos:=by unfold fV;rw[bO];simp only[aV,aE,aR,aO];omega
 rw[e];refine⟨by decide +kernel,bH.mk (fun h=>⟨⟨h,h⟩,hp.1⟩) fun _=>?_⟩;exact Vf
theorem AY(s:Bs)(r:Rd)(k:Int)(f:Nat)(hp:s.length<=1048576/\r.cd=0/\f<=s.length):gQ Tryz.prog 227 4 [.ptr 0 0 0,.i .i64 (f:Nat)] (fk s (r) ((r).pos:Nat) k) (fun z c=>z=.fJ []/\c=(fk s (jn s r f) ((jn s r f).pos:Nat) k)):=by
 refine l5 (mu.c (iX.c fN.d)) 58 [[0],[0,4],[0,4,38],[0,5],[0,5,45],[0,5],[0,5,54],[]] Tryz.func227 [] (fun _=>false) [] [(1,[],[],qa (.q0 3 [3] (.q0 7 [7] (.de 8 (.q1 9 .fin) .fin)))),(2,[],[],.q1 0 (.de 1 (.q1 2 (.q1 3 (.q1 4 (.q1 5 (.q1 7 (.q1 9 (.q1 10 (.q1 11 (.de 6 (.de 8 (.seq [12,13,14]) (.de 12 (.seq [8,13,14]) .fin)) (.de 12 (.seq [6,8,13,14]) .fin)))))))))) .fin))] ?_;simp only[↓X9,X1,seval,X2,im,iy,cO];rw[bQ s hp.2.2];have l:=ez s f hp.2.2;rw[bQ s l];refine bH.mk hp.1 fun _=>⟨by decide +kernel,bH.mk hp.1 fun _=>⟨by decide +kernel, ?_⟩⟩
 refine Vm (qi s (atR r (dR s f)) k ⟨hp.1,l⟩) ?_;simp only[↓X9,X0,seval,X2,cO,XM];have p:=nP s (dR s f);rw[bQ s (show la s (dR s f)<=s.length by omega)];have g:∀{A:Prop},A->((A/\A)/\A):=fun h=>⟨⟨h,h⟩,h⟩
 refine g ?_;refine bH.mk (fun h=>⟨⟨h,h⟩,hp.1⟩) fun _=>⟨fun h=>?_,fun h=>?_⟩
 ·have e:jn s r f=atR r (dR s f):=OK (by simp only[aV,aR,aO]at h;rcases h with h|h;exact .inl h;exact .inr (by omega));rw[e];exact Vf
 have m:fV s (dR s f)=false:=by cases w:fV s (dR s f);rfl;rw[w]at h;simp at h
 have q:wh s (la s (dR s f))=dR s f:=by rw[m]at h;simp at h;omega
 refine cF.of (ι:={i:Nat // la s (dR s f)<=i/\i<=dR s f/\∀j,la s (dR s f)<=j->j<i->s.getD j 0≠9}) (fun x=>⟨[(0,.ptr 0 0 0),(5,.i .i64 (x.1:Nat))],(fk s (r) ((dR s f:Nat):Int) k)⟩) (fun x=>dR s f-x.1) ⟨la s (dR s f),aN _,p,fun j u d=>absurd d (by omega)⟩ (cG.cT [0,1,2,3] (by decide) (by simp only[Yd];exact⟨aM (by simp[Yf,Yh]),aF fun _=>rfl,aF fun _=>rfl,aF fun _=>rfl⟩) (by simp[bC,Vg.look,SV.bP,dX])) ?_;rintro⟨i,o,y,a⟩;simp only[YC];simp only[↓X9,X0,seval,X2];have hu:∀b:UInt8,(((s.getD i 0).toNat:Nat):Int)=(b.toNat:Nat)->s.getD i 0=b:=fun b h=>UInt8.toNat_inj.1 (by omega);refine⟨fun B=>CO fun _=>⟨fun d=>?_,fun d=>CR fun _=>⟨⟨i+1,by omega,by omega,fun j n v=>?_⟩,by simp only;omega,(by first|exact cG.refl _ _|(simp only[aP,aQ];exact cG.refl _ _))⟩⟩,fun B=>?_⟩
 ·have e:jn s r f=er (atR r (dR s f)) 2 i:=Rp m q l o (by omega) (hu 9 d) a;rw[e];refine Vm (jh s (atR r (dR s f)) k 2 i hp.2.1) ?_;simp only[↓XC,X1,seval,X2,XM];exact Vf
 ·rcases aU j i with t|t
  ·exact a j n t
  obtain rfl:j=i:=by omega
  intro u;exact d (by rw[u];rfl)
 have e:jn s r f=atR r (dR s f):=OJ m q l fun j n v=>a j n (by omega);rw[e];exact Vf
theorem Po(s:Bs)(r:Rd)(b:Int)(a:Bool)(hp:s.length<=1048576/\r.cd=0/\r.pos<=s.length):gQ Tryz.prog 174 4 [.ptr 0 0 0,.b a] (fk s (r) ((r).pos:Nat) b) (fun z c=>z=.fJ []/\c=(fk s (Mb s r a) ((Mb s r a).pos:Nat) b)):=by
 refine l5 jj.d 31 [[0,7],[0,4,5],[0,4,21],[],[]] Tryz.func174 [] (fun _=>false) [] [(1,[],[],qa (.q0 3 [3] (.q0 7 [7] (.de 8 (qh .fin) .fin))))] ?_;simp only[↓X9,X1,seval,X2,iq];rw[bQ s hp.2.2];have f:=gV (s:=s) hp.2.2;refine⟨fun d=>⟨by decide +kernel,bH.mk hp.1 fun _=>⟨fun h=>?_,fun h=>?_⟩⟩,fun d=>?_⟩
 ·have e:Mb s r a=er r 8 (iA s r.pos).1:=by unfold Mb;rw[aB ⟨by simpa using d,by simpa using h⟩]
  rw[e];refine Vm (jh s r b 8 (iA s r.pos).1 hp.2.1) ?_;simp only[↓XC,X1,seval,X2,XM];exact Vf
 ·have e:Mb s r a=jn s r r.pos:=by unfold Mb;rw[aA (by simp at h;simp[h])]
  rw[e];refine Vm (AY s r b r.pos ⟨hp.1,hp.2.1,hp.2.2⟩) ?_;simp only[↓XC,X1,seval,X2,XM];exact Vf
 have e:Mb s r a=jn s r r.pos:=by unfold Mb;rw[aA (by simp at d;simp[d])]
 rw[e];refine Vm (AY s r b r.pos ⟨hp.1,hp.2.1,hp.2.2⟩) ?_;simp only[↓XC,X1,seval,X2,XM];exact Vf
theorem Pj(s:Bs)(r:Rd)(b:Int)(n:Int)(a:Bool)(hp:s.length<=1048576/\r.pos<=s.length):gQ Tryz.prog 257 4 [.ptr 0 0 0,.i .i64 n,.b a] (fk s (r) ((r).pos:Nat) b) (fun z c=>z=.b (FF s r.pos n a)/\c=(fk s (r) ((r).pos:Nat) b)):=by
 refine l5 (nS.c oC.d) 41 [[0,1,2],[0,1,2,9],[6],[0,1,2,7],[6]] Tryz.func257 [.tmp 6] (fun _=>false) [] [(3,[],[],qa (.q0 3 [3] (.q0 7 [7] (.de 8 (.q1 9 .fin) .fin)))),(4,[],[],qe (.q1 4 (.q1 5 (.q1 6 (.q1 7 (.q1 8 (qh (.q1 15 (.q1 16 (.q1 17 (.q0 14 [14] (.q0 18 [18] (.de 19 (.q1 20 (.q1 21 (.q1 22 .fin))) .fin)))))))))))))] ?_;simp only[↓X9,X1,seval,X2,eu,jq];refine Vm (qi s r b ⟨hp.1,hp.2⟩) ?_;simp only[↓XC,X1,seval,X2,eu,jq,XM];rw[bQ s hp.2];refine⟨fun h=>?_,fun h=>⟨by decide +kernel,bH.mk hp.1 fun _=>⟨by decide +kernel,bH.mk (fun h=>⟨⟨h,h⟩,hp.1,by omega,by omega⟩) fun _=>?_⟩⟩⟩
 ·have e:FF s r.pos n a=false:=by unfold FF;rw[h];rfl
  rw[e];exact Vf
 have e:FF s r.pos n a=(decide (((gL s r.pos:Nat):Int)>n)||a&&decide (((gL s r.pos:Nat):Int)=n)&&mT s r.pos):=by unfold FF Ib;rw[h];rfl
 rw[e];exact Vf
end Go.T
end
section
namespace Go.T
variable[Go.Vg.df][Go.Vg.cS 0 1]
open Go.Proofs Go.Vg Go.RowKit Go.TT Go.Pl
set_option maxRecDepth 10000
set_option maxHeartbeats 4000000
theorem Ln(s:Bs)(r:Rd)(b:Int)(d a:Int)(e an tg:Bs)(hp:r.ev.length<=16777216/\r.dn.length=r.ev.length/\r.bs<=r.ev.length):gQ Tryz.prog 228 1 [.ptr 0 0 0,.agg [.i .i64 d,.i .i64 a,.b false,.s e,.s an,.s tg,.i .i64 0,.i .i64 0]] (fk s (r) ((r).pos:Nat) b) (fun z c=>z=.fJ []/\c=(fk s (cY r 1 [] an tg) ((cY r 1 [] an tg).pos:Nat) b)):=by refine HE pn 7 [[0,3],[]] Tryz.func228 [] ?_;simp only[↓X9,X1,seval,X2,EZ];refine Vb (qE s r b d a e an tg 1 [] hp) ?_;simp only[↓XC,X1,seval,X2,XM];exact⟨[0,1,2,3],by decide,by simp only[Yd];exact⟨aM (by simp[Yf,EZ]),aF fun _=>rfl,aF fun _=>rfl,aF fun _=>rfl⟩,by simp only[↓XC,X1,seval];try first|rfl|simp[Yf],by simp[da,SO.ro,YC],by simp⟩
end Go.T
end
