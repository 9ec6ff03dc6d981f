/- Own text: part VAX. -/
import Derived.Test.YtgippllfnmdnpaaGreatDoorVAV
import Derived.Test.YtgippllfnmdnpaaGreatDoorVAW
set_option linter.all false
section
namespace Go.T
variable[Go.Vg.df][Go.Vg.cS 0 1]
open Go.Proofs Go.Vg Go.RowKit Go.TT Go.Pl Go.TSh
set_option maxRecDepth 10000
set_option maxHeartbeats 4000000
noncomputable def od:=gC fun(l:List Pc)=>([.fs 2 (l.map mb)],mm l<=16777216,.s (mh l))
theorem jB{l:List Pc}:od [.fs 2 (l.map mb)]=some (ptr od rfl l):=qK @KR
theorem o8:fO Tryz.prog 104 od:=gJ fun l hp=>by
 dsimp only at *;refine HP ua.d 65 [[0],[0,10],[2],[0,3],[0,3,4],[0,3,4,5],[0,3,4,5,6],[0,3,4,5,6,22],[0,3,4,5,6],[0,3,4,5,6,7],[0,3,4,5,6,7,43],[0,3,4,5,6],[0,3,4,5,6,7,46],[0,3,6,7],[0,3,6,7,53],[0,3,6,7],[0,3,6,7],[0,3,4,6],[0,3,4,5,6],[2]] Tryz.func104 [.tmp 2] ?_;simp only[↓XC,X1,seval,dB,j6,nX];have q:=pS l;refine⟨fun h=>?_,fun h=>CO fun _=>CO fun _=>?_⟩
 ·obtain rfl:l=[]:=dj.1 (by omega);rfl
 refine cF.of (ι:={x:Nat×Bs×Bool×Nat // 1<=x.1/\x.1<=l.length/\x.2.1.length+x.2.2.2+mm (l.drop x.1)<=mm l/\x.2.1++kG x.2.2.1 x.2.2.2 (l.drop x.1)=mh l}) (fun x=>⟨[(0,.fs 2 (l.map mb)),(3,.s x.1.2.1),(4,.b x.1.2.2.1),(5,.i .i64 (x.1.2.2.2:Nat)),(6,.i .i64 (x.1.1:Nat))],[]⟩) (fun x=>l.length-x.1.1) ⟨(1,(l.getD 0 iH).text,(l.getD 0 iH).glue,0),by simp only;omega,by simp only;omega,by have:=z7 (l:=l) (i:=0) (by omega);simp only[gb,aX]at this;simp only;omega,(zq (by omega)).symm⟩ (cG.refl _ _) ?_;rintro⟨⟨i,out,glue,many⟩,k,m,n,d⟩;simp only[↓XC,X1,seval,dB,j6,nX];simp only at k m n d;refine⟨fun p=>CO fun _=>bH.mk (fun _=>by simp only[iU];omega) fun _=>?_,fun p=>?_⟩
 ·have j:i<l.length:=by omega
  have hw:=z7 (l:=l) j;have g:Lib.repeatL [10] many=List.replicate many 10:=by have:=Lib.repeatL_replicate 10 1 many;simpa using this
  have o:(decide ((l.getD i iH).text=[])&&!(l.getD i iH).glue&&decide ((i:Int)<(l.length:Int)-1))=decide ((l.getD i iH).text=[]/\(l.getD i iH).glue=false/\i+1<l.length):=by
   rw[bO];simp only[aD,aE,aR];constructor
   ·rintro⟨⟨a,b⟩,c⟩;exact⟨a,b,by omega⟩
   rintro⟨a,b,c⟩;exact⟨⟨a,b⟩,by omega⟩
  rw[o,g];refine⟨fun e=>?_,fun e=>?_⟩
  ·have e:=aW e;rw[e.1]at hw;simp only[aL]at hw;exact CR fun _=>CR fun _=>⟨⟨(i+1,out,glue,many+1),by simp only;omega,by simp only;omega,by simp only;omega,by simp only;rw[<-zp e.2.2 e.1 e.2.1];exact d⟩,by simp only;omega,(by(try simp only[aP,aQ]);exact cG.nil (by simp[bC,Vg.look,SV.bP]))⟩
  have e:=bE e;rw[Cn j e]at d;refine⟨fun hm=>?_,fun hm=>⟨fun f=>?_,fun f=>?_⟩⟩
  ·rw[aB (by omega)]at d;refine CO fun _=>bH.mk (by simp only[bJ];omega) fun _=>bH.mk (by simp only[bJ];omega) fun _=>CR fun _=>⟨⟨(i+1,out++List.replicate many 10++(l.getD i iH).text,(l.getD i iH).glue,0),by simp only;omega,by simp only;omega,by simp only[aC,bJ];omega,by simp only;rw[<-d];simp only[bS]⟩,by simp only;omega,(by(try simp only[aP,aQ]);exact cG.nil (by simp[bC,Vg.look,SV.bP]))⟩
  ·obtain rfl:many=0:=by omega
   have f:glue=false:=by simpa using f
   rw[f]at d;simp only[fU,bG,bU]at d;refine CO fun _=>CO fun _=>CR fun _=>⟨⟨(i+1,out++[32]++(l.getD i iH).text,(l.getD i iH).glue,0),by simp only;omega,by simp only;omega,by simp only[aC,aH];omega,by simp only;rw[<-d];simp only[bS]⟩,by simp only;omega,(by(try simp only[aP,aQ]);exact cG.nil (by simp[bC,Vg.look,SV.bP]))⟩
  obtain rfl:many=0:=by omega
  have f:glue=true:=by simpa using f
  rw[f]at d;simp only[fU,bG,dy,gy]at d;refine CO fun _=>CR fun _=>⟨⟨(i+1,out++(l.getD i iH).text,(l.getD i iH).glue,0),by simp only;omega,by simp only;omega,by simp only[aC];omega,by simp only;rw[<-d];simp only[bS]⟩,by simp only;omega,(by(try simp only[aP,aQ]);exact cG.nil (by simp[bC,Vg.look,SV.bP]))⟩
 obtain rfl:i=l.length:=by omega
 rw[List.drop_length]at d;rw[<-d];simp[kG]
noncomputable def oi:=gC fun(l:List Pc)=>([.fs 2 (l.map mb)],mm l<=16777216,.s (mh l))
theorem ek{l:List Pc}:oi [.fs 2 (l.map mb)]=some (ptr oi rfl l):=qK @KR
theorem lF:fO Tryz.prog 326 oi:=gJ fun l hp=>by
 dsimp only at *;refine HP pn 62 [[0],[0,3],[0,3,4],[0,3,4,5],[0,3,4,5,8,9,10],[0,3,4,5,8,9,10,11],[0,3,4,5,6,7,8,9,10],[0,3,4,5,6,7,8,9,10,33],[0,3,4,5,8,9,10],[0,3,4,7,8,9,10,45],[0,3,4,7,8,9,10],[0,3,4,7,8,9,10,49],[0,3,4,7,8,9,10],[0,3,4,7,8,9,10],[0,3,4,7,8,9,10],[0,3,4,5,8,9,10],[0,3,4,5,8,9,10],[2]] Tryz.func326 [.tmp 2] ?_;simp only[↓XC,X1,seval,dB,nX];have z:=pS l;refine cF.of (ι:={x:Nat×Bs×Bool×Nat // x.1<=l.length/\x.2.1.length+x.2.2.2+mm (l.drop x.1)<=mm l/\if x.1=0 then x.2.1=[]/\x.2.2.1=false/\x.2.2.2=0 else x.2.1++kG x.2.2.1 x.2.2.2 (l.drop x.1)=mh l}) (fun x=>⟨[(0,.fs 2 (l.map mb)),(3,.s x.1.2.1),(4,.i .i64 (x.1.2.2.2:Nat)),(5,.b x.1.2.2.1),(8,.fs 2 (l.map mb)),(9,.i .i64 (l.length:Nat)),(10,.i .i64 (x.1.1:Nat))],[]⟩) (fun x=>l.length-x.1.1) ⟨(0,[],false,0),bF _,by simp,rfl,rfl,rfl⟩ (cG.refl _ _) ?_;rintro⟨⟨i,out,glue,many⟩,t,u,f⟩;simp only[↓XC,X1,seval,dB,nX];simp only at t u f;refine⟨fun w=>CO fun _=>bH.mk (fun _=>by simp only[iU];omega) fun _=>?_,fun w=>?_⟩
 ·have q:i<l.length:=by omega
  have hw:=z7 (l:=l) q;have v:(decide ((i:Int)>0)&&decide ((i:Int)<(l.length:Int)-1)&&decide ((l.getD i iH).text=[])&&!(l.getD i iH).glue)=decide (0<i/\(l.getD i iH).text=[]/\(l.getD i iH).glue=false/\i+1<l.length):=by
   rw[bO];simp only[aD,aE,aR];constructor
   ·rintro⟨⟨⟨d,c⟩,a⟩,b⟩;exact⟨by omega,a,b,by omega⟩
   rintro⟨d,a,b,c⟩;exact⟨⟨⟨by omega,by omega⟩,a⟩,b⟩
  rw[v];refine⟨fun j=>?_,fun j=>?_⟩
  ·have j:=aW j;rw[j.2.1]at hw;simp only[aL]at hw;rw[aA (by omega)]at f;exact CR fun _=>CR fun _=>⟨⟨(i+1,out,glue,many+1),by simp only;omega,by simp only;omega,by simp only[Nat.succ_ne_zero,bG];rw[<-zp j.2.2.2 j.2.1 j.2.2.1];exact f⟩,by simp only;omega,(by(try simp only[aP,aQ]);exact cG.nil (by simp[bC,Vg.look,SV.bP]))⟩
  have j:=bE j;have e:∀g:Bs,g=(if decide ((i:Int)>0)&&decide ((many:Int)=0)&&!glue then out++[32]else out)++List.replicate many 10->g++(l.getD i iH).text++kG (l.getD i iH).glue 0 (l.drop (i+1))=mh l:=by
   rintro g rfl;by_cases o:i=0
   ·subst o;rw[aB rfl]at f;obtain⟨rfl,rfl,rfl⟩:=f;rw[zq q];simp
   rw[aA o,Cn q (fun h=>j ⟨by omega,h⟩)]at f;rw[<-f];by_cases hm:0<many
   ·rw[aB hm,aA (by simp;omega)];simp only[bS]
   obtain rfl:many=0:=by omega
   cases glue<;>simp[show 0<i by omega]
  refine⟨fun p=>CO fun _=>?_,fun p=>?_⟩
  ·rw[aB p]at e;have y:many=0:=by simp only[Yi]at p;omega
   refine cF.of (ι:={x:Nat×Bs // x.2.length+x.1<=(out++[32]:Bs).length+many/\x.2++List.replicate x.1 10=out++[32]++List.replicate many 10}) (fun x=>⟨[(0,.fs 2 (l.map mb)),(3,.s x.1.2),(4,.i .i64 (x.1.1:Nat)),(7,.ptr 0 0 0),(8,.fs 2 (l.map mb)),(9,.i .i64 (l.length:Nat)),(10,.i .i64 (i:Nat))],[some (.gA false [.s (l.getD i iH).text,.b (l.getD i iH).glue])]⟩) (fun x=>x.1.1) ⟨(many,out++[32]),aN _,rfl⟩ (by first|exact cG.refl _ _|exact cG.cT [0] (by decide) (by simp only[Yd];exact aM rfl) (by simp[bC,Vg.look,SV.bP,dX])) ?_;rintro⟨⟨k,g⟩,s,m⟩;simp only[↓XC,X1,seval,dB,nX];simp only[aC,aH]at s;simp only at m;refine⟨fun r=>CO fun _=>CR fun _=>⟨⟨(k-1,g++[10]),by simp only[aC,aH];omega,by simp only;rw[Dd,show k-1+1=k by omega];exact m⟩,by simp only;omega, ?_⟩,fun r=>?_⟩
   ·simp only[show((k:Int)-1)=((k-1:Nat):Int) by omega];exact cG.refl _ _
   obtain rfl:k=0:=by omega
   simp only[fE,dw]at m;have n:=e g m;refine CO fun _=>CR fun _=>⟨⟨(i+1,g++(l.getD i iH).text,(l.getD i iH).glue,0),by simp only;omega,by simp only[aC];omega,by simp only[Nat.succ_ne_zero,bG];exact n⟩,by simp only;omega,(by(try simp only[aP,aQ]);exact cG.nil (by simp[bC,Vg.look,SV.bP]))⟩
  rw[p]at e;simp only[bU,bG]at e;refine cF.of (ι:={x:Nat×Bs // x.2.length+x.1<=(out:Bs).length+many/\x.2++List.replicate x.1 10=out++List.replicate many 10}) (fun x=>⟨[(0,.fs 2 (l.map mb)),(3,.s x.1.2),(4,.i .i64 (x.1.1:Nat)),(7,.ptr 0 0 0),(8,.fs 2 (l.map mb)),(9,.i .i64 (l.length:Nat)),(10,.i .i64 (i:Nat))],[some (.gA false [.s (l.getD i iH).text,.b (l.getD i iH).glue])]⟩) (fun x=>x.1.1) ⟨(many,out),aN _,rfl⟩ (by first|exact cG.refl _ _|exact cG.cT [0] (by decide) (by simp only[Yd];exact aM rfl) (by simp[bC,Vg.look,SV.bP,dX])) ?_;rintro⟨⟨k,g⟩,s,m⟩;simp only[↓XC,X1,seval,dB,nX];simp only[aC,aH]at s;simp only at m;refine⟨fun r=>CO fun _=>CR fun _=>⟨⟨(k-1,g++[10]),by simp only[aC,aH];omega,by simp only;rw[Dd,show k-1+1=k by omega];exact m⟩,by simp only;omega, ?_⟩,fun r=>?_⟩
  ·simp only[show((k:Int)-1)=((k-1:Nat):Int) by omega];exact cG.refl _ _
  obtain rfl:k=0:=by omega
  simp only[fE,dw]at m;have n:=e g m;refine CO fun _=>CR fun _=>⟨⟨(i+1,g++(l.getD i iH).text,(l.getD i iH).glue,0),by simp only;omega,by simp only[aC];omega,by simp only[Nat.succ_ne_zero,bG];exact n⟩,by simp only;omega,(by(try simp only[aP,aQ]);exact cG.nil (by simp[bC,Vg.look,SV.bP]))⟩
 obtain rfl:i=l.length:=by omega
 by_cases o:l.length=0
 ·rw[aB o]at f;rw[f.1,dj.1 o];rfl
 rw[aA o,List.drop_length]at f;rw[<-f];simp[kG]
noncomputable def Ab:=gC fun((b,k):List UInt8×Int)=>([.fs 1 (b.map l8),.i .i64 k],b.length<=16777216/\0<=k,.s (jl k.toNat b))
theorem j3{b:List UInt8}{k:Int}:Ab [.fs 1 (b.map l8),.i .i64 k]=some (ptr Ab rfl (b,k)):=qK @LN
theorem xR:fO Tryz.prog 327 Ab:=gJ fun(b,k) hp=>by
 dsimp only at *;refine HP pn 34 [[0,1],[0,1,26],[0,1],[4]] Tryz.func327 [.tmp 4] ?_;simp only[↓XC,X1,seval,dB,nX];refine cF.of (ι:={x:Bs // jl k.toNat x=jl k.toNat b/\x.length<=b.length}) (fun x=>⟨[(0,.fs 1 (x.1.map l8)),(1,.i .i64 k)],[]⟩) (fun x=>x.1.length) ⟨b,rfl,aN _⟩ (cG.refl _ _) ?_;rintro⟨x,f,l⟩;simp only[↓XC,X1,seval,dB,XR];have g:((x.length:Int)-1).toNat=x.length-1:=by omega
 rw[g];have i:(decide ((x.length:Int)>k)&&(decide (((x.getD (x.length-1) 0).toNat:Int)=32)||decide (((x.getD (x.length-1) 0).toNat:Int)=9)))=decide (k.toNat<x.length/\(x.getD (x.length-1) 0=32\/x.getD (x.length-1) 0=9)):=by
  have d:=jW (c:=x.getD (x.length-1) 0) (n:=32) (by decide);have e:=jW (c:=x.getD (x.length-1) 0) (n:=9) (by decide);simp only[dM]at d e;rw[bO];simp only[aD,aV,aE,d,e];constructor
  ·rintro⟨a,b⟩;exact⟨by omega,b⟩
  rintro⟨a,b⟩;exact⟨by omega,b⟩
 rw[i];refine bH.mk (fun h=>by simp only[iU];omega) fun _=>bH.mk (fun h=>by omega) fun _=>bH.mk (fun h=>by simp only[iU];omega) fun _=>bH.mk (fun h=>by simp only[Yi]at h;omega) fun _=>⟨fun h=>?_,fun h=>?_⟩
 ·have h:=aW h;refine CR fun _=>CO fun _=>⟨⟨x.take (x.length-1),by rw[<-M7 h];exact f,by rw[aZ];omega⟩,by simp only[aZ];omega, ?_⟩
  rw[<-List.map_take];exact cG.refl _ _
 have h:=bE h;refine bH.mk (fun y j=>by obtain⟨z,_,rfl⟩:=List.mem_map.1 j;rfl) fun _=>?_;rw[DU,<-f,DN h]
end Go.T
end
section
namespace Go.T
variable[Go.Vg.df][Go.Vg.cS 0 1]
open Go.Proofs Go.Vg Go.RowKit Go.TT Go.Pl
set_option maxRecDepth 10000
set_option maxHeartbeats 4000000
theorem Ry(s:Bs)(n:Nat)(L:List Pc)(cur:Bs)(k:Nat)(t:Bs)(m:Int)(b:Bool)(hp:cur.length<=16777216/\t.length<=16/\n<=16777216/\0<=m/\m<=16777216):gQ Tryz.prog 239 1 [.ptr 0 0 0,.s t,.i .i64 m,.b b] [some (.gA false [.s s,.i .i64 ((n:Int)),.ew 1 0 (L).length,.s (cur),.i .i64 ((k:Int))]),some (.row false 2 (L).length (bT mb iH (L)))] (fun z c=>z=.fJ []/\c=[some (.gA false [.s s,.i .i64 ((n:Int)+m),.ew 1 0 (L).length,.s (cur++t),.i .i64 ((if b then((cur++t).length:Nat)else k:Nat))]),some (.row false 2 (L).length (bT mb iH (L)))]):=by
 refine HE pn 35 [[0,2,3],[0,3],[0,26],[]] Tryz.func239 [] ?_;simp only[↓XC,X1,seval,dB,nX];refine CO fun _=>CR fun _=>⟨fun a=>?_,fun a=>?_⟩
 ·subst a;exact⟨[0,1],by decide,by simp only[Yd];refine⟨aM (by simp[Yf]), ?_⟩;exact aF fun _=>rfl,by simp only[↓XC,X1,seval];try first|rfl|simp[Yf],by simp[da,SO.ro,YC],by simp⟩
 subst a;exact⟨[0,1],by decide,by simp only[Yd];refine⟨aM (by simp[Yf]), ?_⟩;exact aF fun _=>rfl,by simp only[↓XC,X1,seval];try first|rfl|simp[Yf],by simp[da,SO.ro,YC],by simp⟩
theorem O1(s:Bs)(n:Nat)(L:List Pc)(cur:Bs)(k:Nat)(b:Bool)(hp:s.length<=1048576/\n<s.length/\k<=cur.length/\L.length<=16777216/\cur.length<=16777216):gQ Tryz.prog 238 1 [.ptr 0 0 0,.b b] [some (.gA false [.s s,.i .i64 ((n:Int)),.ew 1 0 (L).length,.s (cur),.i .i64 ((k:Int))]),some (.row false 2 (L).length (bT mb iH (L)))] (fun z c=>z=.b (decide (ib s (n+1)=0))/\c=[some (.gA false [.s s,.i .i64 (((if ib s (n+1)=0 then wh s (n+1)else n+1:Nat):Int)),.ew 1 0 (L++[(⟨if b then cur else cur.take k,b⟩:Pc)]).length,.s (([]:Bs)),.i .i64 (0)]),some (.row false 2 (L++[(⟨if b then cur else cur.take k,b⟩:Pc)]).length (bT mb iH (L++[(⟨if b then cur else cur.take k,b⟩:Pc)])))]):=by
 refine l5 (hJ.c gI.d) 69 [[0,1],[0,1,6],[0,1],[0],[0],[0],[0],[0,56],[4],[],[4]] Tryz.func238 [.tmp 4] (fun _=>false) [] [(2,[12],[0],qf (.q0 4 [4,9,10,11,12] (.q0 8 [8,9,10,11,12] (.q0 9 [9,10,11,12] (.q1 10 (.q1 11 (.sw (.de 12 .fin .fin)))))))),(3,[12,15],[0,1],qf (.q1 9 (.q0 4 [4,12,13,14,15] (.q0 8 [8,10,11,12,13,14,15] (.q1 10 (.de 11 (.sw (.de 12 (.q1 13 (.q1 14 (.de 15 .fin .fin))) .fin)) .fin)))))),(7,[],[],qa (.q0 3 [3] (.q0 7 [7] (.de 8 (.q1 9 .fin) .fin)))),(9,[12],[0],qf (.q0 4 [4,9,10,11,12] (.q0 8 [8,9,10,11,12] (.de 9 (.q1 10 (.q1 11 (.sw (.de 12 .fin .fin)))) .fin))))] ?_;simp only[↓XC,X1,seval,dB,bR,dK,nX];have d:spot s ((n:Int)+1)=n+1:=by unfold spot;omega
 rw[d];have hm:ib s (n+1)=0\/¬ib s (n+1)=0:=Classical.em _;refine⟨fun a=>⟨by decide +kernel,CO fun _=>⟨by decide +kernel,dz rfl rfl,CO fun _=>CR fun _=>⟨by decide +kernel,bH.mk hp.1 fun _=>?_⟩⟩⟩,fun a=>⟨by decide +kernel,dz rfl rfl,CO fun _=>CR fun _=>⟨by decide +kernel,bH.mk hp.1 fun _=>?_⟩⟩⟩
 ·obtain rfl:b=false:=by simpa using a
  rcases hm with hm|hm
  ·simp only[hm,dy,eE,dQ,bU,ei,cP,true_implies,bG,eV];exact⟨by decide +kernel,bH.mk hp.1 fun _=>⟨[0,3],by decide,by simp only[Yd];refine⟨aM (by simp[Yf]), ?_⟩;exact nA (enc:=mb) (z:=iH) L (⟨cur.take k,false⟩:Pc) 2 (fun _=>rfl) (fun _ _=>rfl) rfl rfl,by simp only[↓XC,X1,seval];try first|rfl|simp[Yf],by simp[da,SO.ro,YC],by simp⟩⟩
  simp only[hm,bG,dS,ej,true_implies,fL,ei,dD,bU,eV];exact⟨[0,3],by decide,by simp only[Yd];refine⟨aM (by simp[Yf]), ?_⟩;exact nA (enc:=mb) (z:=iH) L (⟨cur.take k,false⟩:Pc) 2 (fun _=>rfl) (fun _ _=>rfl) rfl rfl,by simp only[↓XC,X1,seval];try first|rfl|simp[Yf],by simp[da,SO.ro,YC],by simp⟩
 obtain rfl:b=true:=by simpa using a
 rcases hm with hm|hm
 ·simp only[hm,dy,eE,dQ,bU,ei,cP,true_implies,eV];exact⟨by decide +kernel,bH.mk hp.1 fun _=>⟨[0,3],by decide,by simp only[Yd];refine⟨aM (by simp[Yf]), ?_⟩;exact nA (enc:=mb) (z:=iH) L (⟨cur,true⟩:Pc) 2 (fun _=>rfl) (fun _ _=>rfl) rfl rfl,by simp only[↓XC,X1,seval];try first|rfl|simp[Yf],by simp[da,SO.ro,YC],by simp⟩⟩
 simp only[hm,bG,dy,dS,ej,true_implies,fL,ei,dD,eV];exact⟨[0,3],by decide,by simp only[Yd];refine⟨aM (by simp[Yf]), ?_⟩;exact nA (enc:=mb) (z:=iH) L (⟨cur,true⟩:Pc) 2 (fun _=>rfl) (fun _ _=>rfl) rfl rfl,by simp only[↓XC,X1,seval];try first|rfl|simp[Yf],by simp[da,SO.ro,YC],by simp⟩
theorem SI(s:Bs)(n:Nat)(L:List Pc)(cur:Bs)(k:Nat)(hp:mm L+cur.length<=16777214/\n<=16777216):gQ Tryz.prog 240 1 [.ptr 0 0 0] [some (.gA false [.s s,.i .i64 ((n:Int)),.ew 1 0 (L).length,.s (cur),.i .i64 ((k:Int))]),some (.row false 2 (L).length (bT mb iH (L)))] (fun z c=>z=.fJ [.s (mh (L++[(⟨cur,false⟩:Pc)])),.i .i64 ((n:Int)+1),.i .i64 0]/\c=[some (.gA false [.s s,.i .i64 ((n:Int)),.ew 1 0 (L++[(⟨cur,false⟩:Pc)]).length,.s (cur),.i .i64 ((k:Int))]),some (.row false 2 (L++[(⟨cur,false⟩:Pc)]).length (bT mb iH (L++[(⟨cur,false⟩:Pc)])))]):=by refine l5 o8.d 29 [[0],[0],[2,3,4]] Tryz.func240 [.tmp 2,.tmp 3,.tmp 4] (fun _=>false) [] [(1,[11,14],[0,1],qf (.q0 4 [4,11,12,13,14] (.q0 8 [8,9,10,11,12,13,14] (.q1 9 (.de 10 (.sw (.de 11 (.q1 12 (.q1 13 (.de 14 .fin .fin))) .fin)) .fin))))),(2,[],[],.q1 0 (.q1 1 (.q1 2 (.q1 5 (.q1 6 (.q1 7 (.q0 3 [3] (.q0 8 [8] (.q1 9 (.de 4 (.q1 10 (.q1 11 (.q1 12 .fin))) .fin))))))))))] ?_;simp only[↓XC,X1,seval,dB,jB,nX];have a:=pS L;refine⟨by decide +kernel,dz rfl rfl,CO fun _=>⟨by decide +kernel,CR fun _=>?_⟩⟩;have e:jd (lm L.length (fun j=>[SV.s (L.getD j iH).text,SV.b (L.getD j iH).glue]) fun j=>fF [SV.s cur,SV.b false] 2 j) 0 (L.length+1)=(L++[(⟨cur,false⟩:Pc)]).map mb:=oL iH L ⟨cur,false⟩ 2 (fun _ _=>rfl) rfl rfl;rw[e];simp only[↓XC,X1,seval,dB,jB,nX];refine bH.mk ⟨⟨aN _,tb (enc:=mb) iH L ⟨cur,false⟩ 2 (fun _=>rfl) (fun _ _=>rfl) rfl fun _=>rfl⟩,by rw[gh,jc];show mm L+(cur.length+1)<=16777216;omega⟩ fun _=>?_;exact⟨[0,3],by decide,by simp only[Yd];refine⟨aM (by simp[Yf]), ?_⟩;exact nA (enc:=mb) (z:=iH) L (⟨cur,false⟩:Pc) 2 (fun _=>rfl) (fun _ _=>rfl) rfl rfl,by simp only[↓XC,X1,seval];try first|rfl|simp[Yf],by simp[da,SO.ro,YC],by simp⟩
end Go.T
end
