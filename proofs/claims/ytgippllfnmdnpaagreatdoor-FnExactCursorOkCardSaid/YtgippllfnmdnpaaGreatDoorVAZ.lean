/- Own text: part VAZ. -/
import Derived.Test.YtgippllfnmdnpaaGreatDoorVAY
set_option linter.all false
section
namespace Go.T
variable[Go.Vg.df][Go.Vg.cS 0 1]
open Go.Proofs Go.Vg Go.RowKit Go.TT Go.Pl
set_option maxRecDepth 10000
set_option maxHeartbeats 4000000
noncomputable def wK:=gC fun(b:UInt8)=>([.i .u8 (b.toNat:Nat)],True,.b (pK b))
theorem ve{b:UInt8}:wK [.i .u8 (b.toNat:Nat)]=some (ptr wK rfl b):=qK (ai @Int.ofNat_inj @UInt8.toNat_inj)
theorem Ei:fO Tryz.prog 311 wK:=gJ fun b _=>by dsimp only at *;refine HP pn 29 [[0],[2]] Tryz.func311 [.tmp 2] ?_;simp only[↓XC,X1,seval,dB];simp only[SV.b.injEq];unfold pK;rw[bO];simp only[aV,aD,aE];omega
noncomputable def wT:=gC fun(s:Bs)=>([.s s],s.length<=1048576,.b (MJ s))
theorem vi{s:Bs}:wT [.s s]=some (ptr wT rfl s):=iZ
theorem vj:fO Tryz.prog 276 wT:=gJ fun s hp=>by
 dsimp only at *;refine HP Ei.d 36 [[0],[0,23],[2],[0,3],[0,3,28],[0,3],[0,3,35],[2],[2]] Tryz.func276 [.tmp 2] ?_;simp only[↓XC,X1,seval,dB,ve];have p:∀x:Nat,x=s.length-1->((decide ((s.length:Int)>60)||decide (s=[])||!decide (((s.getD 0 0).toNat:Int)=33)||!decide (((s.getD x 0).toNat:Int)=33))=false↔(s.length<=60/\s≠[]/\s.getD 0 0=33/\s.getD (s.length-1) 0=33)):=by
  rintro x rfl;have f:=jW (c:=s.getD 0 0) (n:=33) (by decide);have o:=jW (c:=s.getD (s.length-1) 0) (n:=33) (by decide);simp only[dM]at f o;simp only[f,o];simp only[aY,aO,bD,aE,ne_eq];constructor
  ·rintro⟨⟨⟨a,b⟩,c⟩,d⟩;exact⟨by omega,b,c,d⟩
  rintro⟨a,b,c,d⟩;exact⟨⟨⟨by omega,b⟩,c⟩,d⟩
 have e:s≠[]->0<s.length:=fun h=>fX.2 h;have u:((s.length:Int)-1).toNat=s.length-1:=by omega
 rw[u];refine bH.mk (fun h=>by simp at h;have:=e h.2;omega) fun _=>bH.mk (fun h=>by simp only[iU];omega) fun _=>bH.mk (fun h=>by simp at h;have:=e h.1.2;omega) fun _=>⟨fun h=>?_,fun h=>?_⟩
 ·have:¬(s.length<=60/\s≠[]/\s.getD 0 0=33/\s.getD (s.length-1) 0=33):=by rw[<-p _ rfl,h];simp
  rw[MJ,aI this];rfl
 have q:=(p _ rfl).1 h;have g:MJ s=(sub s 1 (s.length-1)).all pK:=by rw[MJ,aJ q];rfl
 have t:=e q.2.1;refine cF.of (ι:={i:Nat // 1<=i/\i<=s.length/\∀j,1<=j->j<i->pK (s.getD j 0)=true}) (fun x=>⟨[(0,.s s),(3,.i .i64 (x.1:Nat))],[]⟩) (fun x=>s.length-x.1) ⟨1,aN _,by omega,fun j k m=>by omega⟩ (cG.refl _ _) ?_;rintro⟨i,l,w,r⟩;simp only[↓XC,X1,seval,dB,ve];refine CR fun _=>⟨fun y=>CO fun _=>⟨fun hw=>?_,fun hw=>CR fun _=>?_⟩,fun y=>?_⟩
 ·have:MJ s=false:=by rw[g,Bool.eq_false_iff];intro v;have:=(yM pK (by omega)).1 v i l (by omega);rw[this]at hw;cases hw
  rw[this]
 ·refine⟨⟨i+1,by omega,by omega,fun j k m=>?_⟩,by simp only;omega,(by first|exact cG.refl _ _|(simp only[aP,aQ];exact cG.refl _ _))⟩;rcases aU j i with f|f
  ·exact r j k f
  obtain rfl:j=i:=by omega
  simpa using hw
 have:MJ s=true:=by rw[g];exact(yM pK (by omega)).2 fun j k m=>r j k (by omega)
 rw[this]
noncomputable def wC:=gC fun(s:Bs)=>([.s s],s.length<=1048576,.b (s.all pK))
theorem Ef{s:Bs}:wC [.s s]=some (ptr wC rfl s):=iZ
theorem Eg:fO Tryz.prog 285 wC:=gJ fun s hp=>by
 dsimp only at *;refine HP pn 40 [[0],[0,3],[0,3,8],[0,3],[0,3,4],[0,3,39],[2],[2]] Tryz.func285 [.tmp 2] ?_;simp only[↓XC,X1,seval,dB];refine cF.of (ι:={i:Nat // i<=s.length/\∀j,j<i->pK (s.getD j 0)=true}) (fun x=>⟨[(0,.s s),(3,.i .i64 (x.1:Nat))],[]⟩) (fun x=>s.length-x.1) ⟨0,bF _,fun j c=>by omega⟩ (cG.refl _ _) ?_;rintro⟨i,h,e⟩;simp only[↓XC,X1,seval,dB];have a:s.all pK=(sub s 0 s.length).all pK:=by simp[sub]
 refine⟨fun k=>CO fun _=>?_,fun k=>?_⟩
 ·have g:∀b:UInt8,((decide ((b.toNat:Int)<97)||decide ((b.toNat:Int)>122))&&(decide ((b.toNat:Int)<65)||decide ((b.toNat:Int)>90))&&(decide ((b.toNat:Int)<48)||decide ((b.toNat:Int)>57))&&!decide ((b.toNat:Int)=45))=!pK b:=by intro b;unfold pK;rw[bO];simp only[aV,aD,aE,aR,aO,aY,bA];omega
  rw[g];refine⟨fun hw=>?_,fun hw=>CR fun _=>?_⟩
  ·have:s.all pK=false:=by rw[a,Bool.eq_false_iff];intro f;have:=(yM pK (aN _)).1 f i (by omega) (by omega);rw[this]at hw;cases hw
   rw[this]
  refine⟨⟨i+1,by omega,fun j c=>?_⟩,by simp only;omega,(by first|exact cG.refl _ _|(simp only[aP,aQ];exact cG.refl _ _))⟩;rcases aU j i with d|d
  ·exact e j d
  obtain rfl:j=i:=by omega
  simpa using hw
 have:s.all pK=true:=by rw[a];exact(yM pK (aN _)).2 fun j l c=>e j (by omega)
 rw[this]
noncomputable def tK:=gC fun(s:Bs)=>([.s s],s.length<=1048576,.b (MJ s))
theorem lR{s:Bs}:tK [.s s]=some (ptr tK rfl s):=iZ
theorem sX:fO Tryz.prog 255 tK:=gJ fun s hp=>by
 dsimp only at *;refine HP Eg.d 37 [[0],[0,9],[2],[0,3],[2]] Tryz.func255 [.tmp 2] ?_;simp only[↓XC,X1,seval,dB,Ef];have f:=jW (c:=s.getD 0 0) (n:=33) (by decide);have i:((s.length:Int)-1).toNat=s.length-1:=by omega
 have g:=jW (c:=s.getD (s.length-1) 0) (n:=33) (by decide);simp only[dM]at f g;simp only[i,f,g];refine⟨fun h=>?_,fun h=>bH.mk (fun h=>by simp at h;omega) fun _=>bH.mk (fun h=>by simp only[iU];omega) fun _=>bH.mk (fun h=>by simp at h;omega) fun _=>bH.mk (fun h=>by simp only[iU];omega) fun _=>bH.mk (fun h=>by simp at h;omega) fun _=>bH.mk (fun h=>⟨h,by simp only[bK,aZ];omega⟩) fun _=>?_⟩
 ·simp only[aV,aE]at h;rcases h with rfl|rfl<;>rfl
 have j:MJ s=(decide (s.length<=60/\s≠[]/\s.getD 0 0=33/\s.getD (s.length-1) 0=33)&&(sub s 1 (s.length-1)).all pK):=rfl;rw[j];simp only[SV.b.injEq];change(_&&(sub s 1 (s.length-1)).all pK)=_;congr 1;rw[bO];simp only[aD,aE,fg,ne_eq];constructor
 ·rintro⟨⟨⟨a,b⟩,c⟩,d⟩;exact⟨by omega,fun e=>by subst e;simp at a,c,d⟩
 rintro⟨a,b,c,d⟩;refine⟨⟨⟨?_,by omega⟩,c⟩,d⟩
 match s,h,b,c,d with
 |[x],h,_,c,_=>simp at c;subst c;simp at h
 |[x,y],h,_,c,d=>simp at c d;subst c;subst d;simp at h
 |x::y::z::r,_,_,_,_=>simp only[aK];omega
noncomputable def pY:=gC fun((raw,l):Bs×List Hd)=>([.s raw,.fs 2 (l.map kl)],raw.length<=1048576/\l.length<=1048576/\(∀h∈l,h.pre.length<=1048576),.fJ [.s (B2 raw l).1,.b (B2 raw l).2])
theorem qv{raw:Bs}{l:List Hd}:pY [.s raw,.fs 2 (l.map kl)]=some (ptr pY rfl (raw,l)):=qK @DX
theorem yk:fO Tryz.prog 342 pY:=gJ fun(raw,l) hp=>by
 dsimp only at *;refine HF (AA.c vj.d) 87 [[0,1],[0,1,11],[4,5],[0,1,19],[4,5],[0,1,41],[4,5],[0,1,6],[1,7,8],[1,7,8,59],[4,5],[7,8,60,61,62],[7,8,60,61,62,63],[7,8,10,60,61,62],[7,8,10,60,61,62,69],[8,10,72],[4,5],[4,5],[7,8,60,61,62],[8,78],[8,78,79],[4,5],[8,83],[4,5],[4,5]] Tryz.func342 [.tmp 4,.tmp 5] (fun _=>false) [] [(8,[],[],qe (.q1 4 (.q1 5 (.q1 6 (.q1 7 .fin)))))] ?_;simp only[↓XC,X1,seval,dB,Az,vi,qF];have u:=NW raw 33;have o:=jW (c:=raw.getD 0 0) (n:=33) (by decide);have p:=jW (c:=raw.getD 1 0) (n:=60) (by decide);have r:((raw.length:Int)-1).toNat=raw.length-1:=by omega
 have q:=jW (c:=raw.getD (raw.length-1) 0) (n:=62) (by decide);simp only[dM]at o p q;have s:((raw.length:Int)>3)=(3<raw.length):=by apply propext;omega
 simp only[o,p,q,r,s];refine bH.mk (fun h=>dF.2 (fX.2 (by simpa using h))) fun _=>⟨fun h=>?_,fun h=>bH.mk (fun h=>by omega) fun _=>bH.mk (fun h=>by simp only[iU];omega) fun _=>bH.mk (fun h=>by simp at h;omega) fun _=>⟨fun b=>CR fun _=>bH.mk (by simp at b;omega) fun _=>?_,fun b=>⟨fun f=>?_,fun f=>bH.mk hp.1 fun _=>CR fun _=>⟨by decide +kernel,CO fun _=>CO fun _=>bH.mk (fun h=>⟨h,by simp only[aZ];omega⟩) fun _=>⟨fun hd=>?_,fun hd=>?_⟩⟩⟩⟩⟩
 ·rw[Tr (by simpa using h)]
 ·rw[Ts (by simpa using h) (by simpa[fe]using b)];rfl
 ·subst f;rw[Tt]
 ·rw[P9 (by simpa using h) (by simpa[fe]using b) f,aB (by simpa using hd)]
 have e:=P9 (l:=l) (by simpa using h) (by simpa[fe]using b) f;rw[aA (by simpa using hd)]at e;generalize List.take (CM raw 33+1).toNat raw=j at *;have w:(List.drop (CM raw 33+1).toNat raw).length<=1048576:=by simp only[bK];omega
 generalize List.drop (CM raw 33+1).toNat raw=rs at *;refine cF.of (ι:={i:Nat // i<=l.length/\E1 j rs (l.drop i)=E1 j rs l}) (fun x=>⟨[(7,.s j),(8,.s rs),(60,.fs 2 (l.map kl)),(61,.i .i64 (l.length:Nat)),(62,.i .i64 (x.1:Nat))],[]⟩) (fun x=>l.length-x.1) ⟨0,bF _,rfl⟩ (cG.refl _ _) ?_;rintro⟨i,y,a⟩;simp only[↓XC,X1,seval,dB,qF];refine⟨fun t=>CO fun _=>?_,fun t=>?_⟩
 ·have m:=NE (name:=j) (rest:=rs) (l:=l) (i:=i) (by omega);have v:=hp.2.2 (l.getD i lO) (kW (by omega));refine⟨fun g=>⟨fun he=>?_,fun he=>CO fun _=>?_⟩,fun g=>CR fun _=>⟨⟨i+1,by omega, ?_⟩,by simp only;omega,(by(try simp only[aP,aQ]);exact cG.nil (by simp[bC,Vg.look,SV.bP]))⟩⟩
  ·rw[e,<-a,m,aB g,aB he]
  ·rw[e,<-a,m,aB g,aA he]
  rw[<-a,m,aA g]
 rw[e,<-a,fC (by omega)];refine⟨fun d=>CO fun _=>?_,fun d=>⟨fun k=>CO fun _=>?_,fun k=>?_⟩⟩
 ·unfold E1;rw[aB d];rfl
 ·unfold E1;rw[aA d,aB k];rfl
 unfold E1;rw[aA d,aA k]
noncomputable def rC:=gC fun((raw,l):Bs×List Hd)=>([.s raw,.fs 2 (l.map kl)],l.length<=1048576,.s (FX raw l))
theorem rD{raw:Bs}{l:List Hd}:rC [.s raw,.fs 2 (l.map kl)]=some (ptr rC rfl (raw,l)):=qK @DX
theorem Aj:fO Tryz.prog 324 rC:=gJ fun(raw,l) hp=>by
 dsimp only at *;refine HP pn 25 [[0,1],[0,7,8,9],[0,7,8,9,10],[0,6,7,8,9],[0,6,7,8,9,16],[4],[0,7,8,9],[20],[20,21],[4],[23],[4],[4]] Tryz.func324 [.tmp 4] ?_;simp only[↓XC,X1,seval,dB,qF];refine cF.of (ι:={i:Nat // i<=l.length/\FX raw (l.drop i)=FX raw l}) (fun x=>⟨[(0,.s raw),(7,.fs 2 (l.map kl)),(8,.i .i64 (l.length:Nat)),(9,.i .i64 (x.1:Nat))],[]⟩) (fun x=>l.length-x.1) ⟨0,bF _,rfl⟩ (cG.refl _ _) ?_;rintro⟨i,f,hd⟩;simp only[↓XC,X1,seval,dB,qF];refine⟨fun e=>CO fun _=>?_,fun e=>?_⟩
 ·have d:=NF (name:=raw) (l:=l) (i:=i) (by omega);refine⟨fun c=>?_,fun c=>CR fun _=>⟨⟨i+1,by omega, ?_⟩,by simp only;omega,(by(try simp only[aP,aQ]);exact cG.nil (by simp[bC,Vg.look,SV.bP]))⟩⟩
  ·rw[<-hd,d,aB c]
  rw[<-hd,d,aA c]
 rw[<-hd,fC (by omega)];refine⟨fun a=>?_,fun a=>⟨fun b=>?_,fun b=>?_⟩⟩
 ·unfold FX;rw[aB a]
 ·unfold FX;rw[aA a,aB b]
 unfold FX;rw[aA a,aA b]
noncomputable def pZ:=gC fun((raw,l):Bs×List Hd)=>([.s raw,.fs 2 (l.map kl)],raw.length<=1048576/\l.length<=1048576/\(∀h∈l,h.pre.length<=1048576),.fJ [.s (B2 raw l).1,.b (B2 raw l).2])
theorem gM{raw:Bs}{l:List Hd}:pZ [.s raw,.fs 2 (l.map kl)]=some (ptr pZ rfl (raw,l)):=qK @DX
theorem yl:fO Tryz.prog 289 pZ:=gJ fun(raw,l) hp=>by
 dsimp only at *;refine HP (Aj.c sX.d) 70 [[0,1],[0,1,6],[0,1,6,17],[4,5],[0,1,6,19],[4,5],[0,1,6,33],[4,5],[0,1,6,7],[0,1,6,7,43],[0,1,6,7],[0,6,7,8],[0,7,8,64],[4,5],[4,5]] Tryz.func289 [.tmp 4,.tmp 5] ?_;simp only[↓XC,X1,seval,dB,rD,lR,qF];have G:=NW raw 33;have s:=jW (c:=raw.getD 0 0) (n:=33) (by decide);have t:=jW (c:=raw.getD 1 0) (n:=60) (by decide);have w:((raw.length:Int)-1).toNat=raw.length-1:=by omega
 have u:=jW (c:=raw.getD (raw.length-1) 0) (n:=62) (by decide);simp only[dM]at s t u;have B:((raw.length:Int)>3)=(3<raw.length):=by apply propext;omega
 simp only[s,t,u,w,B];have q:(raw.length:Int)=0↔raw=[]:=by rw[<-dj];omega
 simp only[q];refine bH.mk (fun h=>dF.2 (fX.2 (by simpa using h))) fun _=>⟨fun h=>?_,fun h=>⟨fun p=>?_,fun p=>bH.mk (fun h=>by omega) fun _=>bH.mk (fun h=>by simp only[iU];omega) fun _=>bH.mk (fun h=>by simp at h;omega) fun _=>⟨fun g=>CR fun _=>bH.mk (by simp at g;omega) fun _=>?_,fun g=>?_⟩⟩⟩
 ·rw[Tr (by simpa using h)]
 ·subst p;rw[Tt]
 ·rw[Ts (by simpa using h) (by simpa[fe]using g)];rfl
 have o:=P9 (l:=l) (by simpa using h) (by simpa[fe]using g) p;have e:raw≠[]/\raw.getD 0 0=33:=by simpa using h
 have f:=fX.2 e.1;have m:((raw.getD 0 0).toNat:Int)=33:=by rw[e.2];rfl
 refine cF.of (ι:={k:Nat // 1<=k/\k<=raw.length/\pL raw 33 k=CM raw 33}) (fun x=>⟨[(0,.s raw),(1,.fs 2 (l.map kl)),(6,.i .i64 (raw.length:Nat)),(7,.i .i64 (x.1:Nat))],[]⟩) (fun x=>x.1) ⟨raw.length,f,aN _,rfl⟩ (cG.refl _ _) ?_;rintro⟨k,D,E,v⟩;simp only[↓XC,X1,seval,dB,rD,lR,qF];obtain⟨j,rfl⟩:∃j,k=j+1:=⟨k-1,by omega⟩
 have y:(((j+1:Nat):Int)-1).toNat=j:=by omega
 have z:((j+1:Nat):Int)-1=(j:Nat):=by omega
 rw[y,z];refine CR fun _=>CO fun _=>⟨fun i=>CR fun _=>⟨⟨j, ?_,by omega,by rw[<-L4 (by simpa using i)];exact v⟩,by simp only;omega,cG.refl _ _⟩,fun i=>?_⟩
 ·rcases dO j with a|a
  ·subst a;exact absurd m (by simpa using i)
  exact a
 rw[NV (by simpa using i)]at v;have A:(CM raw 33+1).toNat=j+1:=by omega
 have F:=JZ (name:=raw.take (j+1)) (l:=l) (N:=1048576) (by decide) hp.2.2;rw[A,Sd]at o;have d:List.drop (j+1) raw=[]↔((j+1:Nat):Int)=raw.length:=by rw[<-dj,bK];omega
 have C:(List.drop (j+1) raw).length<=1048576:=by simp only[bK];omega
 have r:(List.take (j+1) raw).length<=1048576:=by simp only[aZ];omega
 refine CO fun _=>bH.mk hp.2.1 fun _=>bH.mk (fun _=>by omega) fun _=>bH.mk (fun h=>⟨h,r⟩) fun _=>⟨fun b=>?_,fun b=>CO fun _=>CO fun _=>?_⟩
 ·rw[o];simp only[aV,aE,aR]at b;rw[<-d]at b;by_cases a:List.drop (j+1) raw=[]\/MJ (raw.take (j+1))=false
  ·rw[aB a]
  rw[aA a,aB (by rcases b with b|b;exact absurd b a;exact b)]
 simp only[aY,aO,bD]at b;rw[o,aA (by rintro(a|a);exact b.1.1 (d.1 a);rw[b.1.2]at a;cases a),aA b.2]
end Go.T
end
section
namespace Go.T
variable[Go.Vg.df][Go.Vg.cS 0 1]
open Go.Proofs Go.Vg Go.RowKit Go.TT Go.Pl
set_option maxRecDepth 10000
set_option maxHeartbeats 4000000
noncomputable def ns:=gC fun((s,e,n,fl):Bs×Int×Int×Bool)=>([.s s,.i .i64 e,.i .i64 n,.b fl],s.length<=1048576/\0<=e/\e<=s.length,.fJ [.i .i64 (ml s e.toNat n fl).1,.i .i64 (ml s e.toNat n fl).2.1,.b (ml s e.toNat n fl).2.2])
theorem nV{s:Bs}{e n:Int}{fl:Bool}:ns [.s s,.i .i64 e,.i .i64 n,.b fl]=some (ptr ns rfl (s,e,n,fl)):=iZ
theorem vk:fO Tryz.prog 103 ns:=gJ fun(s,e,n,fl) hp=>by
 dsimp only at *;refine HP (gI.c (dv.c (pT.c (jQ.c (hJ.c (lG.c lI.d)))))) 73 [[0,1,2,3],[0,1,2,3,19],[8,9,10],[0,2,3,11],[0,2,3,11,12],[0,2,3,11,12,26],[0,2,3,11,12,32],[8,9,10],[0,2,3,11,12],[0,2,3,11,12],[0,2,3,11,12,13],[12,13,70],[8,9,10],[8,9,10]] Tryz.func103 [.tmp 8,.tmp 9,.tmp 10] ?_;simp only[↓XC,X1,seval,dB,dK,bL,ji,gj,bR,gU,iQ];obtain⟨q,rfl⟩:∃q:Nat,e=q:=⟨e.toNat,by omega⟩
 have m:q<=s.length:=by omega
 have hw:=gO s q m;rw[bQ s m,bQ s hw];simp only[Int.toNat_natCast];refine bH.mk hp.1 fun _=>bH.mk hp.1 fun _=>⟨fun h=>?_,fun h=>bH.mk hp.1 fun _=>CR fun _=>?_⟩
 ·rw[zX (by rintro⟨c,_⟩;simp[c]at h)];rfl
 have f:bW s (wh s q)=10:=by simpa using h
 have k:=cE f (by decide);refine cF.of (ι:={x:Nat×Nat // wh s q+1<=x.1/\x.1<=s.length/\x.2<=x.1/\qI s x.1 x.2=qI s (wh s q+1) 0}) (fun x=>⟨[(0,.s s),(2,.i .i64 n),(3,.b fl),(11,.i .i64 (x.1.1:Nat)),(12,.i .i64 (x.1.2:Nat))],[]⟩) (fun x=>s.length-x.1.1) ⟨(wh s q+1,0),aN _,k,by simp only;omega,rfl⟩ (by simp only[aP,aQ];exact cG.refl _ _) ?_;rintro⟨⟨a,many⟩,o,c,p,b⟩;simp only[↓XC,X1,seval,dB,ji,gj,dK,bR,gU,bL,iQ];simp only at o c p b;have u:=jF s a c;have t:=lW s a;have j:=gO s a c;rw[bQ s c,bQ s j];have r:(!decide (ib s a=0)||!fl&&decide ((jG s a:Int)<=n)||decide (bW s (wh s a)=35)||decide ((kj s (wh s a) fl:Int)=(wh s a:Nat)))=!HK s a n fl:=by unfold HK;rw[show decide (n<(jG s a:Int))=!decide ((jG s a:Int)<=n) by rw[<-decide_not,cZ];omega,show decide ((kj s (wh s a) fl:Int)=(wh s a:Nat))=decide (kj s (wh s a) fl=wh s a) by rw[cZ];omega];simp only[Bool.not_and,Bool.not_not,Bool.not_or]
 rw[r];refine bH.mk hp.1 fun _=>⟨fun g=>bH.mk hp.1 fun _=>⟨fun he=>?_,fun he=>bH.mk hp.1 fun _=>CR fun _=>CR fun _=>?_⟩,fun g=>bH.mk hp.1 fun _=>bH.mk hp.1 fun _=>bH.mk (fun h=>⟨⟨h,h⟩,hp.1⟩) fun _=>bH.mk (fun h=>⟨⟨h,h⟩,hp.1⟩) fun _=>bH.mk (fun h=>⟨⟨h,h,h⟩,hp.1⟩) fun _=>⟨fun i=>?_,fun i=>?_⟩⟩
 ·rw[Sq g (by omega)]at b;rw[zX (by rintro⟨_,d,_⟩;rw[<-b]at d;cases d)];rfl
 ·exact⟨⟨(en s a+1,many+1),by simp only;omega,by simp only;omega,by simp only;omega,by rw[<-Sr g (by omega)];exact b⟩,by simp only;omega,(by first|exact cG.refl _ _|(simp only[aP,aQ];exact cG.refl _ _))⟩
 ·rw[NY g]at b;rw[zX (by rintro⟨_,_,d⟩;rw[<-b]at d;simp only at d;rw[d]at i;cases i)];rfl
 rw[NY g]at b;have l:HK s a n fl=true:=by simpa using i
 rw[Ow ⟨f,by rw[<-b],by rw[<-b];exact l⟩,<-b]
noncomputable def pW:=gC fun((s,p,n,fl):Bs×Int×Int×Bool)=>([.s s,.i .i64 p,.i .i64 n,.b fl],s.length<=1048576,.fJ [.s (AK s (spot s p) n fl).1,.i .i64 (AK s (spot s p) n fl).2.1,.b (AK s (spot s p) n fl).2.2])
theorem yh{s:Bs}{p n:Int}{fl:Bool}:pW [.s s,.i .i64 p,.i .i64 n,.b fl]=some (ptr pW rfl (s,p,n,fl)):=iZ
theorem yi:fO Tryz.prog 31 pW:=gJ fun(s,p,n,fl) hp=>by
 dsimp only at *;refine HP (eh.c (iY.c (lI.c (vk.c o8.d)))) 68 [[0,1,2,3],[0,1,2,3],[0,1,2,3,23],[8,9,10],[0,1,2,3,11],[0,2,3,11,12],[0,2,3,11,12,13,14,15],[0,2,3,11,12,13,14,44],[8,9,10],[0,2,3,12,13,48,49],[0,2,3,12,13,48,49,50],[0,2,3,12,13,48,49],[0,2,3,12,13,48,49],[0,2,3,11,12,13],[0,2,3,11,12]] Tryz.func31 [.tmp 8,.tmp 9,.tmp 10] ?_;simp only[↓XC,X1,seval,dB,eg,cU,iQ,nV,jB,nX];have m:=dW s p;rw[bQ s m];generalize spot s p=q at *;have u:=Ey s q fl;have hle:=oG s q fl m;refine bH.mk hp fun _=>⟨fun h=>?_,fun h=>bH.mk hp fun _=>CO fun _=>?_⟩
 ·unfold AK;rw[aA (by simpa using h)];rfl
 have l:AK s q n fl=((B1 s (kj s q fl) n fl [⟨sub s q (kj s q fl),false⟩]).1,(B1 s (kj s q fl) n fl [⟨sub s q (kj s q fl),false⟩]).2,true):=by unfold AK;rw[aB (by simpa using h)]
 rw[l];refine cF.of (ι:={x:Nat×List Pc // x.1<=s.length/\mm x.2<=x.1+1/\B1 s x.1 n fl x.2=B1 s (kj s q fl) n fl [⟨sub s q (kj s q fl),false⟩]}) (fun x=>⟨[(0,.s s),(2,.i .i64 n),(3,.b fl),(11,.i .i64 (x.1.1:Nat)),(12,.ew 0 0 x.1.2.length)],[some (.row false 2 x.1.2.length (bT mb iH x.1.2))]⟩) (fun x=>s.length-x.1.1) ⟨(kj s q fl,[⟨sub s q (kj s q fl),false⟩]),hle,by simp only[mm,cC,eO,eX,List.sum_nil,sub,bK,aZ];omega,rfl⟩ (cG.cT [0] (by decide) (by simp only[Yd];exact bM fun j o=>by match j,o with|0,_=>rfl) (by simp[bC,Vg.look,SV.bP,dX])) ?_;rintro⟨⟨e,L⟩,r,t,c⟩;simp only[↓XC,X1,seval,dB,nV,jB,iQ,nX];simp only at r t c;have v:=pS L;refine bH.mk ⟨hp,by omega,by omega⟩ fun _=>⟨fun g=>?_,fun g=>?_⟩
 ·rw[et rfl];simp only[↓XC,X1,seval,dB,jB,nX];refine bH.mk ⟨aN _,by omega⟩ fun _=>?_;rw[<-c,KZ (by simpa using g)]
 have a:(ml s e n fl).2.2=true:=by simpa using g
 have b:=oZ a;have i:=oG s (ml s e n fl).1 fl b.2.1;refine cF.of (ι:={k:Nat // (k:Int)<=(ml s e n fl).2.1}) (fun x=>⟨[(0,.s s),(2,.i .i64 n),(3,.b fl),(12,.ew 0 0 (L.length+x.1)),(13,.i .i64 (ml s e n fl).1),(48,.i .i64 (ml s e n fl).2.1),(49,.i .i64 (x.1:Nat))],[some (.row false 2 (L.length+x.1) (bT mb iH (L++List.replicate x.1 iH)))]⟩) (fun x=>(ml s e n fl).2.1-x.1) ⟨0,by omega⟩ (cG.cT [0] (by decide) (by simp only[Yd];exact bM fun j o=>by simp only[fE,dw];rfl) (by simp[bC,Vg.look,SV.bP,dX])) ?_;rintro⟨k,w⟩;simp only[↓XC,X1,seval,dB,iQ,nX];rw[bQ s b.2.1];refine⟨fun f=>⟨dz rfl rfl,CO fun _=>CR fun _=>⟨⟨k+1,by omega⟩,by simp only;omega, ?_⟩⟩,fun f=>bH.mk hp fun _=>CO fun _=>⟨dz rfl rfl,CO fun _=>?_⟩⟩
 ·simp only[aP,aQ];exact(cG.cT [2] (by decide) (by simp only[Yd];exact eU (L++List.replicate k iH) iH (fun _=>rfl) (by rw[eo,bS]) (by simp) rfl (fun _ _=>rfl) rfl rfl) (by simp[bC,Vg.look,SV.bP,dX,dk]))
 have d:k=(ml s e n fl).2.1:=by omega
 subst d;have y:(sub s (ml s e n fl).1 (kj s (ml s e n fl).1 fl)).length=kj s (ml s e n fl).1 fl-(ml s e n fl).1:=by simp only[sub,bK,aZ];omega
 refine⟨⟨(kj s (ml s e n fl).1 fl,L++List.replicate (ml s e n fl).2.1 iH++[⟨sub s (ml s e n fl).1 (kj s (ml s e n fl).1 fl),false⟩]),i, ?_,by rw[<-SF a];exact c⟩,by simp only;omega, ?_⟩
 ·simp only[gh,jc,u0];omega
 exact(cG.cT [2] (by decide) (by simp only[Yd];exact eU (L++List.replicate (ml s e n fl).2.1 iH) ⟨sub s (ml s e n fl).1 (kj s (ml s e n fl).1 fl),false⟩ (fun _=>rfl) rfl (by simp) (by simp[dk]) (fun _ _=>rfl) rfl rfl) (by simp[bC,Vg.look,SV.bP,dX,dk]))
noncomputable def pX:=gC fun((s,p,n,fl):Bs×Int×Int×Bool)=>([.s s,.i .i64 p,.i .i64 n,.b fl],s.length<=1048576,.fJ [.s (AK s (spot s p) n fl).1,.i .i64 (AK s (spot s p) n fl).2.1,.b (AK s (spot s p) n fl).2.2])
theorem qu{s:Bs}{p n:Int}{fl:Bool}:pX [.s s,.i .i64 p,.i .i64 n,.b fl]=some (ptr pX rfl (s,p,n,fl)):=iZ
theorem yj:fO Tryz.prog 339 pX:=gJ fun(s,p,n,fl) hp=>by
 dsimp only at *;refine HF (eD.c (kE.c (pa.c (fN.c (pU.c (iM.c (hO.c (lH.c lF.d)))))))) 133 [[0,1,2,3],[0,1,2,3],[0,1,2,3,22],[8,9,10],[0,1,2,3,11],[0,2,3,11,12],[0,2,3,11,12,13],[0,2,3,11,12,13,14],[0,2,3,11,12,13,14,46],[0,2,3,11,12,13,14],[0,2,3,11,12,13,14,65],[0,2,3,11,12,13,14],[0,2,3,11,12,13,14],[0,2,3,11,12,13,14,88],[0,2,3,11,12,13,14],[0,2,3,11,12,13,14,115],[0,2,3,11,12,13,14],[0,2,3,11,12],[8,9,10]] Tryz.func339 [.tmp 8,.tmp 9,.tmp 10] (fun _=>false) [] [(17,[],[],.q1 0 (.q1 1 (.q1 3 (.q1 4 (.q1 5 (.q1 6 (.q1 7 (.de 2 (.seq [8,9,10]) (.de 8 (.seq [2,9,10]) .fin)))))))))] ?_;simp only[↓XC,X1,seval,dB,eB,ig,iR,cO,iK,fi,cy,gu,ek,nX];have O:=dW s p;rw[bQ s O];generalize spot s p=q at *;have V:=Ey s q fl;have hle:=oG s q fl O;refine bH.mk hp fun _=>⟨fun h=>?_,fun h=>bH.mk hp fun _=>CO fun _=>?_⟩
 ·unfold AK;rw[aA (by simpa using h)];rfl
 have J:AK s q n fl=((B1 s (kj s q fl) n fl [⟨sub s q (kj s q fl),false⟩]).1,(B1 s (kj s q fl) n fl [⟨sub s q (kj s q fl),false⟩]).2,true):=by unfold AK;rw[aB (by simpa using h)]
 rw[J];refine cF.of (ι:={x:Nat×List Pc // x.1<=s.length/\mm x.2<=x.1+1/\B1 s x.1 n fl x.2=B1 s (kj s q fl) n fl [⟨sub s q (kj s q fl),false⟩]}) (fun x=>⟨[(0,.s s),(2,.i .i64 n),(3,.b fl),(11,.i .i64 (x.1.1:Nat)),(12,.ew 0 0 x.1.2.length)],[some (.row false 2 x.1.2.length (bT mb iH x.1.2))]⟩) (fun x=>s.length-x.1.1) ⟨(kj s q fl,[⟨sub s q (kj s q fl),false⟩]),hle,by simp only[mm,cC,eO,eX,List.sum_nil,sub,bK,aZ];omega,rfl⟩ (cG.cT [0] (by decide) (by simp only[Yd];exact bM fun j v=>by match j,v with|0,_=>rfl) (by simp[bC,Vg.look,SV.bP,dX])) ?_;rintro⟨⟨e,L⟩,C,Q,u⟩;simp only[↓XC,X1,seval,dB,cO,ek,iR,iK,fi,cy,gu,nX];simp only at C Q u;have hW:=pS L;have X:=gO s e C;rw[bQ s C];refine bH.mk hp fun _=>bH.mk (fun h=>by simp at h;omega) fun _=>⟨fun H=>?_,fun H=>CR fun _=>?_⟩
 ·rw[et rfl];simp only[↓XC,X1,seval,dB,ek,nX];refine bH.mk ⟨aN _,by omega⟩ fun _=>?_;rw[<-u,KZ];have g:ml s e n fl=(0,0,false):=zX fun h=>by have S:=cE h.1 (by decide);have A:=h.1;rw[cW S]at A;simp only[A,eE,dQ,fT,aE]at H;omega
  rw[g]
 have m:bW s (wh s e)=10:=by simp only[Yi]at H;rw[cW (by omega)];omega
 have K:=cE m (by decide);refine cF.of (ι:={x:Nat×Nat // wh s e+1<=x.1/\x.1<=s.length/\x.2<=x.1/\la s x.1=x.1/\qI s x.1 x.2=qI s (wh s e+1) 0}) (fun x=>⟨[(0,.s s),(2,.i .i64 n),(3,.b fl),(11,.i .i64 (e:Nat)),(12,.ew 0 0 L.length),(13,.ew 1 0 x.1.2),(14,.i .i64 (x.1.1:Nat))],[some (.row false 2 L.length (bT mb iH L)),some (.row false 2 x.1.2 (bT mb iH (List.replicate x.1.2 iH)))]⟩) (fun x=>s.length-x.1.1) ⟨(wh s e+1,0),aN _,K,by simp only;omega,NT m,rfl⟩ (cG.cT [0,1] (by decide) (by simp only[Yd];exact⟨aF fun _=>rfl,bM fun j v=>absurd v (aT _)⟩) (by simp[bC,Vg.look,SV.bP,dX])) ?_;rintro⟨⟨a,k⟩,Y,B,Z,P,N⟩;simp only[↓XC,X1,seval,dB,cO,ek,iR,iK,fi,cy,gu,nX];simp only at Y B Z P N;have U:=jF s a B;have T:=lW s a;have M:=gO s a B;rw[bQ s B,bQ s M];have F:(decide ((a:Int)<s.length)&&js s a&&decide ((en s a:Int)<s.length))=decide (js s a=true/\en s a<s.length):=by
  rw[bO];simp only[aD,aE];constructor
  ·rintro⟨⟨_,b⟩,c⟩;exact⟨b,by omega⟩
  rintro⟨b,c⟩;exact⟨⟨by omega,b⟩,by omega⟩
 have G:decide (ib s a>0)=!decide (ib s a=0):=by rcases kJ s a with g|g|g<;>rw[g]<;>rfl
 have w:js s a=kH s (wh s a):=by unfold js;rw[P]
 have E:(decide ((wh s a:Int)>=s.length)||decide (((s.getD (wh s a) 0).toNat:Int)=10))=js s a:=by
  rw[w];unfold kH;rcases aU (wh s a) s.length with D|D
  ·rw[cW D,aI (show ¬((wh s a:Int)>=s.length) by omega),aI (show ¬((s.getD (wh s a) 0).toNat:Int)<0 by omega),cX,fT];rfl
  rw[eZ D,aJ (show(wh s a:Int)>=s.length by omega)];rfl
 have o:js s a=false->wh s a<s.length/\decide (((s.getD (wh s a) 0).toNat:Int)=35)=decide (bW s (wh s a)=35):=fun l=>by have:wh s a<s.length:=kb (by rw[<-w];exact l);rw[cW this];exact⟨this,rfl⟩
 rw[F,G,E];refine bH.mk (fun h=>⟨⟨h,h⟩,hp⟩) fun _=>bH.mk (fun h=>⟨⟨h,h⟩,hp⟩) fun _=>⟨fun r=>⟨dz rfl rfl,CO fun _=>bH.mk hp fun _=>CR fun _=>?_⟩,fun r=>bH.mk hp fun _=>bH.mk (fun h=>⟨⟨h,h⟩,hp⟩) fun _=>⟨fun hm=>?_,fun hm=>bH.mk hp fun _=>bH.mk (fun h=>by simp at h;omega) fun _=>bH.mk (fun h=>by have:=(o (by simpa using h)).1;omega) fun _=>bH.mk (fun h=>⟨⟨h,h,h⟩,hp⟩) fun _=>⟨fun i=>?_,fun i=>?_⟩⟩⟩
 ·have r:=aW r;refine⟨⟨(en s a+1,k+1),by simp only;omega,by simp only;omega,by simp only;omega,NT (R6 r.2),by rw[<-Sr r.1 r.2];exact N⟩,by simp only;omega, ?_⟩;simp only[aP,aQ];exact(cG.cT [0,3] (by decide) (by simp only[Yd];refine⟨aF fun _=>rfl, ?_⟩;exact eU (List.replicate k iH) iH (fun _=>rfl) (by rw[eo])  (by simp) rfl (fun _ _=>rfl) rfl rfl) (by simp[bC,Vg.look,SV.bP,dX]))
 all_goals
  have d:=UJ (n:=n) (fl:=fl) m N (bE r)
 ·have f:HK s a n fl=false:=by unfold HK;rw[show decide (n<(jG s a:Int))=!decide ((jG s a:Int)<=n) by rw[<-decide_not,cZ];omega];cases R:decide (ib s a=0)<;>cases fl<;>cases A:decide ((jG s a:Int)<=n)<;>simp_all
  rw[aA (by rw[f];simp)]at d;rw[et rfl];simp only[↓XC,X1,seval,dB,ek,nX];refine bH.mk ⟨aN _,by omega⟩ fun _=>?_;rw[<-u,KZ (by rw[d])]
 ·have f:¬(js s a=false/\HK s a n fl=true):=by rintro⟨l,g⟩;unfold HK at g;rw[l,(o l).2,show decide ((kj s (wh s a) fl:Int)=(wh s a:Nat))=decide (kj s (wh s a) fl=wh s a) by rw[cZ];omega]at i;simp only[aD,aR]at g;rw[g.1.2,g.2]at i;cases i
  rw[aA f]at d;rw[et rfl];simp only[↓XC,X1,seval,dB,ek,nX];refine bH.mk ⟨aN _,by omega⟩ fun _=>?_;rw[<-u,KZ (by rw[d])]
 have l:js s a=false:=by simp only[aY]at i;exact i.1.1
 have f:HK s a n fl=true:=by rw[l,(o l).2,show decide ((kj s (wh s a) fl:Int)=(wh s a:Nat))=decide (kj s (wh s a) fl=wh s a) by rw[cZ];omega]at i;unfold HK;rw[show decide (n<(jG s a:Int))=!decide ((jG s a:Int)<=n) by rw[<-decide_not,cZ];omega];simp only[aY]at i hm;rw[i.1.2,i.2];cases R:decide (ib s a=0)<;>cases fl<;>cases A:decide ((jG s a:Int)<=n)<;>simp_all
 rw[aB ⟨l,f⟩]at d;have y:(ml s e n fl).2.2=true:=by rw[d]
 have t:=oZ y;rw[d]at t;simp only at t;have I:=oG s (wh s a) fl t.2.1;have hs:(sub s (wh s a) (kj s (wh s a) fl)).length=kj s (wh s a) fl-wh s a:=by simp only[sub,bK,aZ];omega
 refine bH.mk hp fun _=>⟨by decide +kernel,CO fun _=>?_⟩
 have W:(List.replicate k iH).length=k:=by simp
 refine⟨?_, ?_⟩;all_goals
  refine bH.mk (aN _) fun _=>CO fun _=>⟨dz rfl rfl,CO fun _=>⟨⟨(kj s (wh s a) fl,L++List.replicate k iH++[⟨sub s (wh s a) (kj s (wh s a) fl),false⟩]),I, ?_, ?_⟩,by simp only;omega, ?_⟩⟩
  ·simp only[gh,jc,u0];omega
  ·simp only;rw[<-u]
   conv=>rhs;rw[SF y,d]
  exact(cG.cT [4] (by decide) (by simp only[Yd];exact eU (L++List.replicate k iH) ⟨sub s (wh s a) (kj s (wh s a) fl),false⟩ (fun _=>rfl) rfl (by simp) (by simp[dk]) (fun j v=>GW (enc:=mb) (z:=iH) rfl W.symm (fun _ _=>rfl) (fun _ _=>rfl) v) rfl rfl) (by simp[bC,Vg.look,SV.bP,dX,dk]))
end Go.T
end
section
namespace Go.T
variable[Go.Vg.df][Go.Vg.cS 0 1]
open Go.Proofs Go.Vg Go.RowKit Go.TT Go.Pl
set_option maxRecDepth 10000
set_option maxHeartbeats 4000000
theorem gP(s:Bs)(r:Rd)(fr:Bool)(la:Int)(a:Int)(p:Nat)(hp:r.cd=0):gQ Tryz.prog 211 5 [.ptr 0 0 0,.i .i64 a,.i .i64 (p:Nat)] (iF s (r) fr la) (fun z c=>z=.b false/\c=(iF s (er r a p) fr la)):=by refine HE pn 20 [[0,1,2],[0,1,2,11],[],[6]] Tryz.func211 [.tmp 6] ?_;simp only[↓XC,X1,seval,X2];exact⟨fun _=>⟨[0,1,2,3,4],by decide,by simp only[Yd];exact⟨aM (by simp[Yf,Yh]),aF fun _=>rfl,aF fun _=>rfl,cB,aF fun _=>rfl⟩,by simp only[↓XC,X1,seval];try first|rfl|simp[Yf],by simp[da,SO.ro,YC],by simp⟩,fun h=>absurd hp h⟩
theorem O6(s:Bs)(r:Rd)(fr:Bool)(la:Int)(hp:s.length<=1048576/\r.cd=0/\r.pos<=s.length):gQ Tryz.prog 361 5 [.ptr 0 0 0] (iF s (r) fr la) (fun z c=>z=.b (decide ((ik s r).cd=0))/\c=(iF s (ik s r) fr la)):=by
 refine l5 hJ.d 37 [[0],[0,3],[2],[0,20],[2],[2]] Tryz.func361 [.tmp 2] (fun _=>false) [] [(1,[],[],qa (.q0 3 [3] (.q0 7 [7] (qd (.q1 10 .fin))))),(3,[],[],qa (.q0 3 [3] (.q0 7 [7] (.de 8 (.q1 9 (.q1 10 .fin)) .fin))))] ?_;simp only[↓XC,X1,seval,X2,bR];rw[bQ s hp.2.2];refine⟨by decide +kernel,fun h=>?_,fun h=>⟨by decide +kernel,bH.mk hp.1 fun _=>⟨fun a=>?_,fun a=>?_⟩⟩⟩
 ·have e:ik s r=er r 3 r.pos:=by unfold ik;rw[aB (by omega)]
  rw[e];refine Wm (gP s r fr la 3 r.pos hp.2.1) ?_;simp only[↓XC,X1,seval,X2,XM];exact Wf
 ·have e:ik s r=er r 4 r.pos:=by unfold ik;rw[aA (by omega),aB (by simpa using a)]
  rw[e];refine Wm (gP s r fr la 4 r.pos hp.2.1) ?_;simp only[↓XC,X1,seval,X2,XM];exact Wf
 have e:ik s r=r:=by unfold ik;rw[aA (by omega),aA (by simpa using a)]
 rw[e,aJ hp.2.1];exact Wf
theorem Mw(s:Bs)(r:Rd)(fr:Bool)(la:Int)(hp:s.length<=1048576/\r.cd=0/\r.pos<=s.length):gQ Tryz.prog 355 5 [.ptr 0 0 0] (iF s (r) fr la) (fun z c=>z=.b (decide ((cL s r).cd=0))/\c=(iF s (cL s r) fr la)):=by refine l5 l1.d 17 [[0],[0],[2]] Tryz.func355 [.tmp 2] (fun _=>false) [] [(1,[12],[0],qf (.q0 4 [4,9,10,11,12] (.q0 8 [8,9,10,11,12] (.de 9 (.q1 10 (.q1 11 (.sw (.de 12 .fin .fin)))) .fin))))] ?_;simp only[↓XC,X1,seval,X2,dE];rw[bQ s hp.2.2];have a:=ez s r.pos hp.2.2;refine⟨by decide +kernel,bH.mk hp.1 fun _=>?_⟩;rw[show cL s r=ik s (atR r (dR s r.pos))from rfl];refine Wm (O6 s (atR r (dR s r.pos)) fr la ⟨hp.1,hp.2.1,a⟩) ?_;simp only[↓XC,X1,seval,X2,XM];exact Wf
theorem O2(s:Bs)(r:Rd)(fr:Bool)(la:Int)(b:UInt8)(hp:s.length<=1048576/\r.cd=0/\r.pos<s.length):gQ Tryz.prog 357 5 [.ptr 0 0 0,.i .u8 (b.toNat:Nat)] (iF s (r) fr la) (fun z c=>z=.b (decide ((ly s r b.toNat).cd=0))/\c=(iF s (ly s r b.toNat) fr la)):=by
 refine l5 pn 32 [[0,1],[0,1,13],[4],[0,1,13,20],[],[0,29],[4]] Tryz.func357 [.tmp 4] (fun _=>false) [] [(1,[],[],qa (.q0 3 [3] (.q0 7 [7] (.q1 8 .fin))))] ?_;simp only[↓XC,X1,seval,X2];rw[<-cW hp.2.2];refine⟨by decide +kernel,CO fun _=>⟨fun h=>CR fun _=>?_,fun h=>⟨fun a=>?_,fun a=>?_⟩⟩⟩
 ·have e:ly s r b.toNat=atR r (r.pos+1):=by unfold ly;rw[aB h]
  rw[e,aJ (show(atR r (r.pos+1)).cd=0 from hp.2.1)];exact Wf
 ·have e:ly s r b.toNat=r:=by unfold ly;rw[aA h,aB a]
  rw[e,aJ hp.2.1];exact Wf
 have e:ly s r b.toNat=er r 11 r.pos:=by unfold ly;rw[aA h,aA a]
 rw[e];refine Wm (gP s r fr la 11 r.pos hp.2.1) ?_;simp only[↓XC,X1,seval,X2,XM];exact Wf
theorem s3(s:Bs)(r:Rd)(fr:Bool)(la:Int)(k st:Int)(fl:Bool)(x a g:Bs)(p b:Int)(hp:r.ev.length<=16777216/\r.dn.length=r.ev.length/\r.bs<=r.ev.length):gQ Tryz.prog 70 1 [.ptr 0 0 0,.agg [.i .i64 k,.i .i64 st,.b fl,.s x,.s a,.s g,.i .i64 p,.i .i64 b]] (iF s (r) fr la) (fun z c=>z=.i .i64 (r.ev.length:Nat)/\c=(iF s (bB r ⟨k,st,fl,x,a,g,p,b⟩ (!decide (k=3)&&!decide (k=4))) fr la)):=by
 refine l5 pn 53 [[0,3],[0,3],[0,3],[0,3,34],[0],[4]] Tryz.func70 [.tmp 4] (fun _=>false) [] [(1,[7,10],[0,1],qe (.q0 4 [4,7,8,9,10] (.q0 5 [5,6,7,8,9,10] (.de 6 (.sw (.de 7 (qd (.de 10 .fin .fin)) .fin)) .fin)))),(2,[14,17],[0,2],qe (.q1 5 (.q0 4 [4,14,15,16,17] (.q0 6 [6,7,8,9,10,11,12,13,14,15,16,17] (.q1 7 (qd (.q0 10 [10,11,12,13,14,15,16,17] (.q1 11 (.q1 12 (.de 13 (.sw (.de 14 (.q1 15 (.q1 16 (.de 17 .fin .fin))) .fin)) .fin)))))))))),(4,[12],[3],.q1 0 (.q1 1 (.q1 2 (.q1 4 (.q1 6 (.q1 7 (.q1 8 (.q0 3 [3,12] (.q0 5 [5,12] (.q0 9 [9,10,11,12] (.q1 10 (.q1 11 (.sw (.de 12 .fin .fin))))))))))))))] ?_;simp only[↓XC,X1,seval,X2];have d:xL (r.ev++[⟨k,st,fl,x,a,g,p,b⟩]) r.bs=if a=[]then xL r.ev r.bs else updS (xL r.ev r.bs) a r.ev.length:=Oe hp.2.2;have e:((r.ev.length+1:Nat):Int)-1=r.ev.length:=by omega
 simp only[e,d];refine⟨by decide +kernel,dz rfl rfl,CO fun _=>⟨by decide +kernel,dz rfl rfl,CO fun _=>⟨fun h=>⟨by decide +kernel,CR fun _=>CR fun _=>?_⟩,fun h=>CR fun _=>?_⟩⟩⟩
 ·rw[aA (by simpa using h)];exact⟨[0,7,9,3,4],by decide,by simp only[Yd];exact⟨aM (by simp[Yf]),eU r.ev (⟨k,st,fl,x,a,g,p,b⟩:Ev) (fun _=>rfl) rfl rfl rfl (fun _ _=>rfl) rfl rfl,eU r.dn (!decide (k=3)&&!decide (k=4)) (fun _=>rfl) rfl hp.2.1.symm rfl (fun _ _=>rfl) rfl rfl,cB,aF fun _=>rfl⟩,by simp only[↓XC,X1,seval];try first|rfl|simp[Yf],by simp[da,SO.ro,YC],by simp⟩
 rw[aB (by simpa using h)];exact⟨[0,7,9,3,4],by decide,by simp only[Yd];exact⟨aM (by simp[Yf]),eU r.ev (⟨k,st,fl,x,a,g,p,b⟩:Ev) (fun _=>rfl) rfl rfl rfl (fun _ _=>rfl) rfl rfl,eU r.dn (!decide (k=3)&&!decide (k=4)) (fun _=>rfl) rfl hp.2.1.symm rfl (fun _ _=>rfl) rfl rfl,cB,aF fun _=>rfl⟩,by simp only[↓XC,X1,seval];try first|rfl|simp[Yf],by simp[da,SO.ro,YC],by simp⟩
end Go.T
end
section
namespace Go.T
variable[Go.Vg.df][Go.Vg.cS 0 1]
open Go.Proofs Go.Vg Go.RowKit Go.TT Go.Pl
set_option maxRecDepth 10000
set_option maxHeartbeats 4000000
theorem r5(s:Bs)(r:Rd)(fr:Bool)(la:Int)(st:Int)(t:Bs)(a:Bool)(an tg:Bs)(pf:Int)(b:Nat)(hp:r.ev.length<=16777216/\r.dn.length=r.ev.length/\r.bs<=r.ev.length):gQ Tryz.prog 284 1 [.ptr 0 0 0,.i .i64 st,.s t,.agg [.b a,.s an,.s tg,.i .i64 pf,.i .i64 (b:Nat)]] (iF s (r) fr la) (fun z c=>z=.fJ []/\c=(iF s (cY r st t an tg) fr la)):=by refine HE pn 17 [[0,1,2,7],[]] Tryz.func284 [] ?_;simp only[↓XC,X1,seval,X2,EZ];refine Wb (s3 s r fr la 5 st false t an tg 0 0 hp) ?_;simp only[↓XC,X1,seval,X2,XM];exact⟨[0,1,2,3,4],by decide,by simp only[Yd];exact⟨aM (by simp[Yf]),aF fun _=>rfl,aF fun _=>rfl,cB,aF fun _=>rfl⟩,by simp only[↓XC,X1,seval];try first|rfl|simp[Yf],by simp[da,SO.ro,YC],by simp⟩
theorem Mx(s:Bs)(r:Rd)(fr:Bool)(la:Int)(fl:Bool)(b:Bool)(an tg:Bs)(pf:Int)(d:Nat)(hp:s.length<=1048576/\r.cd=0/\r.pos<=s.length/\lA s r.pos=true/\(r.hd.length<=1048576/\∀h∈r.hd,h.pre.length<=1048576)):gQ Tryz.prog 312 6 [.ptr 0 0 0,.ptr 5 0 0,.b fl] (Mt s (r) fr la [some (.gA false [.b ((⟨b,an,tg,d⟩:Pp)).has,.s ((⟨b,an,tg,d⟩:Pp)).an,.s ((⟨b,an,tg,d⟩:Pp)).tg,.i .i64 pf,.i .i64 (((⟨b,an,tg,d⟩:Pp)).en:Nat)])]) (fun z c=>z=.b (decide ((fM s fl r (⟨b,an,tg,d⟩:Pp)).cd=0))/\c=(Mt s (fM s fl r (⟨b,an,tg,d⟩:Pp)) fr la [some (.gA false [.b ((lq s r.hd fl r.pos (⟨b,an,tg,d⟩:Pp)).1).has,.s ((lq s r.hd fl r.pos (⟨b,an,tg,d⟩:Pp)).1).an,.s ((lq s r.hd fl r.pos (⟨b,an,tg,d⟩:Pp)).1).tg,.i .i64 pf,.i .i64 (((lq s r.hd fl r.pos (⟨b,an,tg,d⟩:Pp)).1).en:Nat)])])):=by
 refine l5 (nj.c (BP.c (iO.c (dv.c (kZ.c (yk.c (gI.c l1.d))))))) 183 [[0,1,2],[0,1,2],[0,1,2,25],[0,1,2,8,9,10],[0,1,2,8,9,47],[6],[0,1,2,7],[0,1,2,11,12,13],[0,1,2,11,12,102],[6],[0,1,2,12,14,15],[0,1,2,12,14,119],[6],[0,1,2,7],[0,1,2,7,150],[6],[0,1,2,7],[0,2,7],[0,2,7],[0,7,173],[],[6]] Tryz.func312 [.tmp 6] (fun _=>false) [] [(2,[],[],qa (.q0 3 [3] (.q0 7 [7] (qd .fin)))),(3,[],[],qa (.q0 3 [3] (.q0 7 [7] (.de 8 (qg .fin) .fin)))),(7,[],[],qa (.q0 3 [3] (.q0 7 [7] (.de 8 (qg .fin) .fin))))] ?_;simp only[↓XC,X1,seval,X2,ni,BO,dq,bL,dV,qv,dK,dE];obtain⟨i,a,t,u,v,w⟩:=hp;have x:r.pos<s.length:=uQ u;rw[bQ s t,<-cW x];refine⟨by decide +kernel,CO fun _=>⟨fun l=>⟨by decide +kernel,bH.mk i fun _=>?_⟩,fun j=>?_⟩⟩
 ·by_cases g:(jm s r.pos).2.2=true/\an=[]
  ·have q:=j1 g.1;have o:spot s (jm s r.pos).2.1=(jm s r.pos).2.1.toNat:=by unfold spot;omega
   have A:((jm s r.pos).2.1.toNat:Int)=(jm s r.pos).2.1:=by omega
   rw[o];refine⟨fun f=>by simp[g.1,g.2]at f,fun _=>bH.mk ⟨i,by omega⟩ fun _=>bH.mk (fun h=>⟨⟨h,h⟩,i⟩) fun _=>⟨fun m=>?_,fun m=>?_⟩⟩
   ·have k:¬HX s fl (jm s r.pos).2.1.toNat=true:=by unfold HX;rw[HY m];simp
    have e:lq s r.hd fl r.pos (⟨b,an,tg,d⟩:Pp)=(⟨b,(jm s r.pos).1,tg,d⟩,7):=by unfold lq;rw[aB l,aB g,aA k]
    refine Wm (gP s r fr la 7 r.pos a) ?_;simp only[↓XC,X1,seval,X2,XM];simp only[fM,e,Int.reduceEq,reduceIte,atR,er,aJ a,dS];exact⟨[0,1,2,3,4,5],by decide,by simp only[Yd];exact⟨aM (by simp[Yf,Yh]),aF fun _=>rfl,aF fun _=>rfl,cB,aF fun _=>rfl,aM (by simp[Yf];try omega)⟩,by simp only[↓XC,X1,seval];try first|rfl|simp[Yf],by simp[da,SO.ro,YC],by simp⟩
   have k:HX s fl (jm s r.pos).2.1.toNat=true:=by unfold HX;exact Jw m
   have e:lq s r.hd fl r.pos (⟨b,an,tg,d⟩:Pp)=(⟨true,(jm s r.pos).1,tg,(jm s r.pos).2.1.toNat⟩,0):=by unfold lq;rw[aB l,aB g,aB k]
   simp only[fM,e,Int.reduceEq,reduceIte,atR,er,aJ a,dS];refine bH.mk i fun _=>⟨fun n=>bH.mk i fun _=>?_,fun n=>?_⟩
   ·subst n;rw[show HO s true _=dR s _ from rfl];exact⟨[0,1,2,3,4,5],by decide,by simp only[Yd];exact⟨aM (by simp[Yf,Yh]),aF fun _=>rfl,aF fun _=>rfl,cB,aF fun _=>rfl,aM (by simp[Yf];try omega)⟩,by simp only[↓XC,X1,seval];try first|rfl|simp[Yf],by simp[da,SO.ro,YC],by simp⟩
   subst n;rw[show HO s false _=wh s _ from rfl];exact⟨[0,1,2,3,4,5],by decide,by simp only[Yd];exact⟨aM (by simp[Yf,Yh]),aF fun _=>rfl,aF fun _=>rfl,cB,aF fun _=>rfl,aM (by simp[Yf];try omega)⟩,by simp only[↓XC,X1,seval];try first|rfl|simp[Yf],by simp[da,SO.ro,YC],by simp⟩
  have e:lq s r.hd fl r.pos (⟨b,an,tg,d⟩:Pp)=(⟨b,an,tg,d⟩,7):=by unfold lq;rw[aB l,aA g]
  refine⟨fun f=>?_,fun f=>absurd (by simpa using f) g⟩;refine Wm (gP s r fr la 7 r.pos a) ?_;simp only[↓XC,X1,seval,X2,XM];simp only[fM,e,Int.reduceEq,reduceIte,atR,er,aJ a,dS];exact⟨[0,1,2,3,4,5],by decide,by simp only[Yd];exact⟨aM (by simp[Yf,Yh]),aF fun _=>rfl,aF fun _=>rfl,cB,aF fun _=>rfl,aM (by simp[Yf];try omega)⟩,by simp only[↓XC,X1,seval];try first|rfl|simp[Yf],by simp[da,SO.ro,YC],by simp⟩
 have y:=Q2 u j;have p:=P4 s r.pos;refine⟨by decide +kernel,bH.mk i fun _=>bH.mk (fun h=>⟨⟨h,h⟩,i,p⟩) fun _=>bH.mk (fun h=>⟨⟨h,h⟩,i⟩) fun _=>?_⟩;by_cases g:(my s r.pos).2.2=true/\tg=[]/\HX s fl (my s r.pos).2.1.toNat=true
 ·have q:=sG g.1;have B:=EQ s r.pos;have o:spot s (my s r.pos).2.1=(my s r.pos).2.1.toNat:=by unfold spot;omega
  have A:((my s r.pos).2.1.toNat:Int)=(my s r.pos).2.1:=by omega
  have k:=g.2.2;unfold HX at k;rw[o];refine⟨fun f=>?_,fun _=>?_⟩
  ·simp only[g.1,g.2.1,dQ,eE,cX]at f;rw[HY f]at k;cases k
  rw[et rfl];simp only[↓XC,X1,seval,X2,qv,dq,bL,dV,dK,dE];refine bH.mk ⟨aN _,by omega,v,w⟩ fun _=>⟨fun m=>?_,fun m=>?_⟩
  ·have e:lq s r.hd fl r.pos (⟨b,an,tg,d⟩:Pp)=(⟨b,an,tg,d⟩,15):=by unfold lq;rw[aA j,aB g,aA (by simpa using m)]
   refine Wm (gP s r fr la 15 r.pos a) ?_;simp only[↓XC,X1,seval,X2,XM];simp only[fM,e,Int.reduceEq,reduceIte,atR,er,aJ a,dS];exact⟨[0,1,2,3,4,5],by decide,by simp only[Yd];exact⟨aM (by simp[Yf,Yh]),aF fun _=>rfl,aF fun _=>rfl,cB,aF fun _=>rfl,aM (by simp[Yf];try omega)⟩,by simp only[↓XC,X1,seval];try first|rfl|simp[Yf],by simp[da,SO.ro,YC],by simp⟩
  have e:lq s r.hd fl r.pos (⟨b,an,tg,d⟩:Pp)=(⟨true,an,(B2 (my s r.pos).1 r.hd).1,(my s r.pos).2.1.toNat⟩,0):=by unfold lq;rw[aA j,aB g,aB (by simpa using m)]
  simp only[o];refine bH.mk ⟨i,p⟩ fun _=>bH.mk (fun h=>⟨⟨h,h⟩,i⟩) fun _=>⟨fun f=>(by rw[HY f]at k;cases k),fun _=>?_⟩
  simp only[fM,e,Int.reduceEq,reduceIte,atR,er,aJ a,dS];refine bH.mk i fun _=>⟨fun n=>bH.mk i fun _=>?_,fun n=>?_⟩
  ·subst n;rw[show HO s true _=dR s _ from rfl];exact⟨[0,1,2,3,4,5],by decide,by simp only[Yd];exact⟨aM (by simp[Yf,Yh]),aF fun _=>rfl,aF fun _=>rfl,cB,aF fun _=>rfl,aM (by simp[Yf];try omega)⟩,by simp only[↓XC,X1,seval];try first|rfl|simp[Yf],by simp[da,SO.ro,YC],by simp⟩
  subst n;rw[show HO s false _=wh s _ from rfl];exact⟨[0,1,2,3,4,5],by decide,by simp only[Yd];exact⟨aM (by simp[Yf,Yh]),aF fun _=>rfl,aF fun _=>rfl,cB,aF fun _=>rfl,aM (by simp[Yf];try omega)⟩,by simp only[↓XC,X1,seval];try first|rfl|simp[Yf],by simp[da,SO.ro,YC],by simp⟩
 have e:lq s r.hd fl r.pos (⟨b,an,tg,d⟩:Pp)=(⟨b,an,tg,d⟩,7):=by unfold lq;rw[aA j,aA g]
 refine⟨fun f=>?_,fun f=>absurd ?_ g⟩
 ·refine Wm (gP s r fr la 7 r.pos a) ?_;simp only[↓XC,X1,seval,X2,XM];simp only[fM,e,Int.reduceEq,reduceIte,atR,er,aJ a,dS];exact⟨[0,1,2,3,4,5],by decide,by simp only[Yd];exact⟨aM (by simp[Yf,Yh]),aF fun _=>rfl,aF fun _=>rfl,cB,aF fun _=>rfl,aM (by simp[Yf];try omega)⟩,by simp only[↓XC,X1,seval];try first|rfl|simp[Yf],by simp[da,SO.ro,YC],by simp⟩
 simp only[aY,bD,aE]at f;have q:=sG f.1.1;have o:spot s (my s r.pos).2.1=(my s r.pos).2.1.toNat:=by unfold spot;omega
 rw[o]at f;exact⟨f.1.1,f.1.2,by unfold HX;exact Jw f.2⟩
end Go.T
end
