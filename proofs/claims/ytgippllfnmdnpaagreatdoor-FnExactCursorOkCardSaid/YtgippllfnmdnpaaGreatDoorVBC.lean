/- Own text: part VBC. -/
import Derived.Test.YtgippllfnmdnpaaGreatDoorVAT
import Derived.Test.YtgippllfnmdnpaaGreatDoorVAW
import Derived.Test.YtgippllfnmdnpaaGreatDoorVAP
import Derived.Test.YtgippllfnmdnpaaGreatDoorVAZ
import Derived.Test.YtgippllfnmdnpaaGreatDoorVBB
import Derived.Test.YtgippllfnmdnpaaGreatDoorVBA
import Derived.Test.YtgippllfnmdnpaaGreatDoorVAS
import Derived.Test.YtgippllfnmdnpaaGreatDoorVAO
set_option linter.all false
section
namespace Go.T
variable[Go.Vg.df][Go.Vg.cS 0 1]
open Go.Proofs Go.Vg Go.RowKit Go.TT Go.Pl Go.TSh
set_option maxRecDepth 10000
set_option maxHeartbeats 4000000
noncomputable def rV:=gC fun(r:Nat)=>([.i .i64 (r:Nat)],True,.b (Im r))
theorem rW{r:Nat}:rV [.i .i64 (r:Nat)]=some (ptr rV rfl r):=qK @Int.natCast_inj
theorem AB:fO Tryz.prog 142 rV:=gJ fun r _=>by dsimp only at *;refine HP iL.d 29 [[0],[2]] Tryz.func142 [.tmp 2] ?_;simp only[↓XC,X1,seval,dB,gv,XR];unfold Im;congr 1;rw[bO];simp only[aV,aD,aE,aR,aO];omega
noncomputable def rE:=gC fun((s,p):Bs×Int)=>([.s s,.i .i64 p],s.length<=1048576,.fJ [.i .i64 ((yq (s.drop (spot s p))).1:Nat),.i .i64 ((yq (s.drop (spot s p))).2:Nat)])
theorem rF{s:Bs}{p:Int}:rE [.s s,.i .i64 p]=some (ptr rE rfl (s,p)):=iZ
theorem Ak:fO Tryz.prog 141 rE:=gJ fun(s,p) hp=>by
 dsimp only at *;refine HP (eh.c IH.d) 30 [[0,1],[6,7],[6,7,26],[4,5],[4,5]] Tryz.func141 [.tmp 4,.tmp 5] ?_;simp only[↓XC,X1,seval,dB,eg,IG,XR];have b:=dW s p;have a:=Nh (s.drop (spot s p));rw[bK]at a;unfold yq;change bH _ (((decide (((Bw (s.drop (spot s p))).2:Int)=0)||decide (((Bw (s.drop (spot s p))).1:Int)=65533)&&decide (((Bw (s.drop (spot s p))).2:Int)=1))=true->_)/\((decide (((Bw (s.drop (spot s p))).2:Int)=0)||decide (((Bw (s.drop (spot s p))).1:Int)=65533)&&decide (((Bw (s.drop (spot s p))).2:Int)=1))=false->bH (iU .i64 ((Bw (s.drop (spot s p))).1:Int)) (SV.fJ [.i .i64 ((Bw (s.drop (spot s p))).1:Nat),.i .i64 ((Bw (s.drop (spot s p))).2:Nat)]=_)));generalize Bw (s.drop (spot s p))=D at *;have hC:(decide ((D.2:Int)=0)||decide ((D.1:Int)=65533)&&decide ((D.2:Int)=1))=decide (D.2=0\/(D.1=65533/\D.2=1)):=by rw[bO];simp only[aV,aD,aE];omega
 rw[hC];refine bH.mk ⟨by omega,by omega,by omega⟩ fun _=>⟨fun h=>by rw[aB (aW h)];rfl,fun h=>CR fun _=>by rw[aA (bE h)]⟩
noncomputable def tD:=gC fun(s:Bs)=>([.s s],s.length<=1048576,.i .i64 (vM s 0:Nat))
theorem BE{s:Bs}:tD [.s s]=some (ptr tD rfl s):=iZ
theorem BF:fO Tryz.prog 68 tD:=gJ fun s hp=>by
 dsimp only at *;refine HP (Ak.c AB.d) 29 [[0],[0,3],[0,3,9],[0,3,4,5],[0,3,5,22],[2],[0,3],[2]] Tryz.func68 [.tmp 2] ?_;simp only[↓XC,X1,seval,dB,rF,rW,XR];refine cF.of (ι:={p:Nat // p<=s.length/\vM s p=vM s 0}) (fun x=>⟨[(0,.s s),(3,.i .i64 (x.1:Nat))],[]⟩) (fun x=>s.length-x.1) ⟨0,bF _,rfl⟩ (cG.refl _ _) ?_;rintro⟨p,c,b⟩;simp only[↓XC,X1,seval,dB,rW,rF];rw[bQ s c];have e:=IY (s.drop p);rw[bK]at e;refine⟨fun h=>bH.mk hp fun _=>⟨fun a=>?_,fun a=>CR fun _=>?_⟩,fun h=>?_⟩
 ·rw[<-b,VR];rintro⟨f,d⟩;rw[d]at a;simp at a;omega
 ·simp only[aY,aO,bD]at a;exact⟨⟨p+(yq (s.drop p)).2,by omega,by rw[<-VS (by omega) (by omega) a.2];exact b⟩,by simp only;omega,(by first|exact cG.refl _ _|(simp only[aP,aQ];exact cG.refl _ _))⟩
 rw[<-b,VQ (by omega),show p=s.length by omega]
end Go.T
end
section
namespace Go.T
variable[Go.Vg.df][Go.Vg.cS 0 1]
open Go.Proofs Go.Vg Go.RowKit Go.TT Go.Pl
set_option maxRecDepth 10000
set_option maxHeartbeats 4000000
noncomputable def tU:=gC fun(s:Bs)=>([.s s],s.length<=1048576,.b (s.all fun b=>decide (33<=b.toNat)&&decide (b.toNat<=126)))
theorem BU{s:Bs}:tU [.s s]=some (ptr tU rfl s):=iZ
theorem BV:fO Tryz.prog 277 tU:=gJ fun s hp=>by
 dsimp only at *;refine HP pn 20 [[0],[0,5,6],[0,5,6,7],[0,3,5,6],[0,5,6,18],[2],[0,5,6],[2]] Tryz.func277 [.tmp 2] ?_;simp only[↓XC,X1,seval,dB,XR];refine cF.of (ι:={i:Nat // i<=s.length/\((s.drop i).all fun b=>decide (33<=b.toNat)&&decide (b.toNat<=126))=(s.all fun b=>decide (33<=b.toNat)&&decide (b.toNat<=126))}) (fun x=>⟨[(0,.s s),(5,.i .i64 (s.length:Nat)),(6,.i .i64 (x.1:Nat))],[]⟩) (fun x=>s.length-x.1) ⟨0,bF _,rfl⟩ (cG.refl _ _) ?_;rintro⟨i,g,a⟩;simp only[↓XC,X1,seval,dB];have j:=(s.getD i 0).toNat_lt;refine⟨fun h=>?_,fun h=>?_⟩
 ·have d:i<s.length:=by omega
  have e:s.drop i=s.getD i 0::s.drop (i+1):=by rw[cz d];congr 1;simp[List.getD,d]
  rw[e,List.all_cons]at a;refine CO fun _=>bH.mk (fun _=>by omega) fun _=>⟨fun c=>?_,fun c=>CR fun _=>?_⟩
  ·simp only[aV,aE]at c;have:(decide (33<=(s.getD i 0).toNat)&&decide ((s.getD i 0).toNat<=126))=false:=by
    rw[bA];rcases c with f|f
    ·exact .inl (by rw[aO];omega)
    exact .inr (by rw[aO];omega)
   rw[<-a,this];rfl
  simp only[aY,aO]at c;have:(decide (33<=(s.getD i 0).toNat)&&decide ((s.getD i 0).toNat<=126))=true:=by rw[aD,aE,aE];omega
  rw[this,di]at a;exact⟨⟨i+1,by omega,a⟩,by simp only;omega,(by first|exact cG.refl _ _|(simp only[aP,aQ];exact cG.refl _ _))⟩
 rw[<-a,List.drop_eq_nil_of_le (by omega)];rfl
noncomputable def ol:=gC fun((a,b):Bs×Bs)=>([.agg [.s a,.s b]],a.length<=1048576/\b.length<=1048576,.b (HH ⟨a,b⟩))
theorem dH{a b:Bs}:ol [.agg [.s a,.s b]]=some (ptr ol rfl (a,b)):=iZ
theorem wu:fO Tryz.prog 250 ol:=gJ fun(b,a) hp=>by
 dsimp only at *;refine HP (vj.c (iL.c BV.d)) 17 [[1],[2]] Tryz.func250 [.tmp 2] ?_;simp only[↓XC,X1,seval,dB,vi,gv,BU,XR];have e:(decide ((1:Int)<=(a.length:Nat))&&decide (((a.length:Nat):Int)<=60))=(decide (1<=a.length)&&decide (a.length<=60)):=by
  congr 1
  ·rw[cZ];omega
  rw[cZ];omega
 rw[e];exact bH.mk hp.1 fun _=>bH.mk (fun h=>⟨h,hp.2⟩) fun _=>rfl
end Go.T
end
section
namespace Go.T
variable[Go.Vg.df][Go.Vg.cS 0 1]
open Go.Proofs Go.Vg Go.RowKit Go.TT Go.Pl
set_option maxRecDepth 10000
set_option maxHeartbeats 4000000
theorem qc(s:Bs)(r:Rd)(fr:Bool)(la:Int)(p:Nat)(hp:s.length<=1048576/\p<=s.length):gQ Tryz.prog 216 5 [.ptr 0 0 0,.i .i64 (p:Nat)] (iF s (r) fr la) (fun z c=>z=.b (fV s p)/\c=(iF s (r) fr la)):=by
 refine HE hJ.d 21 [[0,1],[4]] Tryz.func216 [.tmp 4] ?_;simp only[↓XC,X1,seval,X2,bR];rw[bQ s hp.2];have e:(decide ((p:Int)>=(s.length:Nat))||!decide (ib s p=0))=fV s p:=by unfold fV;congr 1;rw[cZ];omega
 rw[e];exact bH.mk (fun h=>⟨⟨h,h⟩,hp.1⟩) fun _=>⟨[0,1,2,3,4],by decide,by simp only[Yd];exact⟨aM (by simp[Yf,Yh]),aF fun _=>rfl,aF fun _=>rfl,cB,aF fun _=>rfl⟩,by simp only[↓XC,X1,seval];try first|rfl|simp[Yf],by simp[da,SO.ro,YC],by simp⟩
theorem O8(s:Bs)(r:Rd)(fr:Bool)(la:Int)(hp:s.length<=1048576/\r.cd=0/\r.pos<=s.length):gQ Tryz.prog 251 5 [.ptr 0 0 0] (iF s (r) fr la) (fun z c=>z=.b (decide ((kB s r).cd=0))/\c=(iF s (kB s r) fr la)):=by
 refine l5 (iW.c (gI.c wM.d)) 45 [[0],[0,3],[0,3,24],[2],[0,3,4],[2]] Tryz.func251 [.tmp 2] (fun _=>true) [] [(1,[],[],qa (.q0 3 [3] (.q0 7 [7] (.de 8 (.q1 9 .fin) .fin)))),(2,[],[],.q1 0 (.q1 1 (.q1 2 (.q1 4 (.q1 6 (.q1 7 (.q1 8 (.q0 3 [3] (.q0 9 [9] (.de 5 (.q1 10 .fin) .fin)))))))))),(4,[],[],qa (.q1 7 (.q0 3 [3] (.q0 8 [8] (.q1 9 (.de 10 (.q1 11 .fin) .fin))))))] ?_;simp only[↓XC,X1,reduceIte,Nat.reduceAdd,Nat.reduceLT,Nat.reduceEqDiff,Nat.reduceBEq,Nat.reduceLeDiff,reduceCtorEq,Nat.reduceSub,Nat.reduceMul,Int.reduceToNat,Int.reduceLT,Int.reduceLE,X2,iw,dK,wL];obtain⟨g,b,d⟩:=hp;have l:=nP s r.pos;rw[bQ s d,bQ s (show Pl.la s r.pos<=s.length by omega)];refine⟨by decide +kernel,bH.mk g fun _=>⟨by decide +kernel,bH.mk g fun _=>⟨fun h=>?_,fun h=>⟨by decide +kernel,bH.mk ⟨by omega,by omega,by omega⟩ fun _=>?_⟩⟩⟩⟩
 ·have e:kB s r=r:=by unfold kB;rw[aB (by simp at h;omega)]
  rw[e,aJ b];exact Wf (by simp only[↓XC,X1,reduceIte,Nat.reduceAdd,Nat.reduceLT,Nat.reduceEqDiff,Nat.reduceBEq,Nat.reduceLeDiff,reduceCtorEq,Nat.reduceSub,Nat.reduceMul,Int.reduceToNat,Int.reduceLT,Int.reduceLE];try first|rfl|simp[Yf])
 have hw:¬wh s (Pl.la s r.pos)≠r.pos:=by simp at h;omega
 rw[show List.drop (Pl.la s r.pos) (List.take r.pos s)=sub s (Pl.la s r.pos) r.pos from rfl,show(UInt8.ofNat 9:UInt8)=9 from rfl];have j:=NH (sub s (Pl.la s r.pos) r.pos) 9;have i:(sub s (Pl.la s r.pos) r.pos).length<=r.pos-Pl.la s r.pos:=by simp only[sub,bK,aZ];omega
 have f:kB s r=if idx (sub s (Pl.la s r.pos) r.pos) 9<0 then r else er r 2 (Pl.la s r.pos+(idx (sub s (Pl.la s r.pos) r.pos) 9).toNat):=by unfold kB;rw[aA hw]
 generalize idx (sub s (Pl.la s r.pos) r.pos) 9=k at *;by_cases a:k<0
 ·simp only[aJ a];simp only[↓X9,X0,reduceIte,Nat.reduceAdd,Nat.reduceLT,Nat.reduceEqDiff,Nat.reduceBEq,Nat.reduceLeDiff,reduceCtorEq,Nat.reduceSub,Nat.reduceMul,Int.reduceToNat,Int.reduceLT,Int.reduceLE,X2];rw[f,aB a,aJ b];exact Wf (by simp only[↓XC,X1,reduceIte,Nat.reduceAdd,Nat.reduceLT,Nat.reduceEqDiff,Nat.reduceBEq,Nat.reduceLeDiff,reduceCtorEq,Nat.reduceSub,Nat.reduceMul,Int.reduceToNat,Int.reduceLT,Int.reduceLE];try first|rfl|simp[Yf])
 simp only[aI a];simp only[↓X9,X0,reduceIte,Nat.reduceAdd,Nat.reduceLT,Nat.reduceEqDiff,Nat.reduceBEq,Nat.reduceLeDiff,reduceCtorEq,Nat.reduceSub,Nat.reduceMul,Int.reduceToNat,Int.reduceLT,Int.reduceLE,X2];refine CR fun _=>?_;rw[show((Pl.la s r.pos:Nat):Int)+k=((Pl.la s r.pos+k.toNat:Nat):Int) by omega,f,aA a];refine Wm (gP s r fr la 2 (Pl.la s r.pos+k.toNat) b) ?_;simp only[↓X9,X0,reduceIte,Nat.reduceAdd,Nat.reduceLT,Nat.reduceEqDiff,Nat.reduceBEq,Nat.reduceLeDiff,reduceCtorEq,Nat.reduceSub,Nat.reduceMul,Int.reduceToNat,Int.reduceLT,Int.reduceLE,X2,XM];exact Wf (by simp only[↓XC,X1,reduceIte,Nat.reduceAdd,Nat.reduceLT,Nat.reduceEqDiff,Nat.reduceBEq,Nat.reduceLeDiff,reduceCtorEq,Nat.reduceSub,Nat.reduceMul,Int.reduceToNat,Int.reduceLT,Int.reduceLE];try first|rfl|simp[Yf])
theorem GV(s:Bs)(r:Rd)(fr:Bool)(la:Int)(p:Nat)(hp:s.length<=1048576/\r.cd=0/\p<=s.length):gQ Tryz.prog 253 5 [.ptr 0 0 0,.i .i64 (p:Nat)] (iF s (r) fr la) (fun z c=>z=.b (decide ((jn s r p).cd=0))/\c=(iF s (jn s r p) fr la)):=by
 refine l5 l1.d 24 [[0,1],[0],[4]] Tryz.func253 [.tmp 4] (fun _=>true) [] [] ?_;simp only[↓XC,X1,seval,X2,dE];obtain⟨f,d,b⟩:=hp;have g:=ez s p b;rw[bQ s b];refine bH.mk f fun _=>?_;refine Wm (qc s (atR r (dR s p)) fr la (dR s p) ⟨f,g⟩) ?_;simp only[↓XC,X1,seval,X2,XM];by_cases a:fV s (dR s p)=true
 ·rw[a];simp only[↓X9,X0,seval,X2];have e:jn s r p=atR r (dR s p):=by unfold jn;rw[aB a]
  rw[e,aJ (show(atR r (dR s p)).cd=0 from d)];exact Wf
 rw[ga]at a;rw[a];simp only[↓X9,X0,seval,X2];have e:jn s r p=kB s (atR r (dR s p)):=by unfold jn;rw[aA (by rw[a];simp)]
 rw[e];refine Wm (O8 s (atR r (dR s p)) fr la ⟨f,d,g⟩) ?_;simp only[↓X9,X0,seval,X2,XM];exact Wf
theorem r4(s:Bs)(r:Rd)(fr:Bool)(la:Int)(a:Bool)(an tg:Bs)(pf:Int)(b:Nat)(e:Nat)(hp:r.ev.length<=16777216/\r.dn.length=r.ev.length/\r.bs<=r.ev.length):gQ Tryz.prog 254 1 [.ptr 0 0 0,.agg [.b a,.s an,.s tg,.i .i64 pf,.i .i64 (b:Nat)],.i .i64 (e:Nat)] (iF s (r) fr la) (fun z c=>z=.fJ []/\c=(iF s (BD r (⟨a,an,tg,b⟩:Pp) e) true la)):=by
 refine HE pn 16 [[0,2,4],[0,2],[0],[]] Tryz.func254 [] ?_;simp only[↓XC,X1,seval,X2];refine Wb (r5 s r fr la 1 [] a an tg pf b hp) ?_;simp only[↓XC,X1,seval,X2,XM];try simp only[BD,atR,cY,bB,aC,aK,aL,aX]
 exact Wf
theorem K4(s:Bs)(r:Rd)(fr:Bool)(la:Int)(n:Int)(a:Bool)(hp:s.length<=1048576/\r.pos<=s.length):gQ Tryz.prog 279 5 [.ptr 0 0 0,.i .i64 n,.b a] (iF s (r) fr la) (fun z c=>z=.b (Ib s r.pos n a)/\c=(iF s (r) fr la)):=by refine l5 (nR.c p4.d) 39 [[0,1,2],[0,1,2,7],[6]] Tryz.func279 [.tmp 6] (fun _=>false) [] [(1,[],[],qa (.q0 3 [3] (.q0 7 [7] (.de 8 (.q1 9 .fin) .fin)))),(2,[],[],qe (.q1 4 (.q1 5 (.q1 6 (.q1 7 (.q1 8 (qh (.q1 15 (.q1 16 (.q1 17 (.q0 14 [14] (.q0 18 [18] (.de 19 (.q1 20 (.q1 21 (.q1 22 .fin))) .fin)))))))))))))] ?_;simp only[↓XC,X1,seval,X2,iv,fw];rw[bQ s hp.2];refine⟨by decide +kernel,bH.mk hp.1 fun _=>⟨by decide +kernel,bH.mk (fun h=>⟨⟨h,h⟩,hp.1,by omega,by omega⟩) fun _=>?_⟩⟩;rw[show(decide ((gL s r.pos:Int)>n)||a&&decide ((gL s r.pos:Int)=n)&&mT s r.pos)=Ib s r.pos n a from rfl];exact Wf
theorem Pd(s:Bs)(r:Rd)(fr:Bool)(la:Int)(hp:s.length<=1048576/\r.cd=0/\r.pos<=s.length):gQ Tryz.prog 215 5 [.ptr 0 0 0] (iF s (r) fr la) (fun z c=>z=.b (decide ((nG s ⟨r,fr,0⟩).r.cd=0))/\c=(iF s ((nG s ⟨r,fr,0⟩).r) fr (r.pos:Nat))):=by
 refine l5 kd.d 40 [[0],[0],[0,16],[0,3,4],[0,3,30],[2],[2]] Tryz.func215 [.tmp 2] (fun _=>false) [] [(3,[],[],qa (.q0 3 [3] (.q0 7 [7] (.de 8 (qh .fin) .fin))))] ?_;simp only[↓XC,X1,seval,X2,fb];obtain⟨f,d,a⟩:=hp;rw[bQ s a];have i:=gV a;refine⟨fun g=>⟨by decide +kernel,bH.mk f fun _=>⟨fun h=>?_,fun h=>?_⟩⟩,fun h=>?_⟩
 ·have b:fr=false:=by simpa using g
  subst b;refine Wm (gP s r false (r.pos:Nat) 8 (iA s r.pos).1 d) ?_;simp only[↓XC,X1,seval,X2,XM];have e:nG s ⟨r,false,0⟩=⟨er r 8 (iA s r.pos).1,false,r.pos⟩:=by unfold nG;rw[aB ⟨rfl,by simpa using h⟩]
  rw[e];exact Wf
 ·have b:fr=false:=by simpa using g
  subst b;refine Wm (GV s r false (r.pos:Nat) r.pos ⟨f,d,a⟩) ?_;simp only[↓XC,X1,seval,X2,XM];have e:nG s ⟨r,false,0⟩=⟨jn s r r.pos,false,r.pos⟩:=by unfold nG;rw[aA (by simpa using h)]
  rw[e];exact Wf
 have b:fr=true:=by simpa using h
 subst b;refine Wm (GV s r true (r.pos:Nat) r.pos ⟨f,d,a⟩) ?_;simp only[↓XC,X1,seval,X2,XM];have e:nG s ⟨r,true,0⟩=⟨jn s r r.pos,true,r.pos⟩:=by unfold nG;rw[aA (by simpa using h)]
 rw[e];exact Wf
theorem K5(s:Bs)(r:Rd)(fr:Bool)(k lt:Nat)(hp:r.ev.length<=16777216/\r.dn.length=r.ev.length/\r.bs<=r.ev.length/\k<r.ev.length/\0<r.dp/\r.dp<=40):gQ Tryz.prog 316 1 [.ptr 0 0 0,.i .i64 (k:Nat)] (iF s (r) fr (lt:Nat)) (fun z c=>z=.b true/\c=(iF s ((yb ⟨r,fr,lt⟩ k).r) true (lt:Nat))):=by
 refine HE pn 18 [[0,1],[0],[0],[],[4]] Tryz.func316 [.tmp 4] ?_;simp only[↓XC,X1,seval,X2];refine Wb (Pe s r fr (lt:Nat) k hp) ?_;simp only[↓XC,X1,seval,X2,XM];try simp only[yb,atR,mH,aC,aK,aL,aX]
 exact Wf
end Go.T
end
section
namespace Go.T
variable[Go.Vg.df][Go.Vg.cS 0 1]
open Go.Proofs Go.Vg Go.RowKit Go.TT Go.Pl Go.TSh
set_option maxRecDepth 10000
set_option maxHeartbeats 4000000
noncomputable def Av:=gC fun(s:Bs)=>([.s s],s.length<=1048576,.b (FN s))
theorem xT{s:Bs}:Av [.s s]=some (ptr Av rfl s):=iZ
theorem Gz:fO Tryz.prog 360 Av:=gJ fun s hp=>by dsimp only at *;refine HP (dv.c jo.d) 6 [[0],[2]] Tryz.func360 [.tmp 2] ?_;simp only[↓XC,X1,seval,dB,bL,dL,XR];exact bH.mk hp fun _=>by rw[show spot s 0=0 from by unfold spot;omega];rfl
noncomputable def na:=gC fun(l:List Bs)=>([.fs 1 (l.map ij)],mj l<=1073741824/\∀x∈l,x.length<=1048576,.s (xq l [] 0 []))
theorem jV{l:List Bs}:na [.fs 1 (l.map ij)]=some (ptr na rfl l):=qK @vy
theorem u3:fO Tryz.prog 354 na:=gJ fun l hp=>by
 dsimp only at *;refine HP (ua.c Gz.d) 52 [[0],[0,3],[0,3,4],[0,3,4,5],[3,4,5,8,9,10],[3,4,5,8,9,10,11],[3,4,5,7,8,9,10],[3,4,5,7,8,9,10,15],[3,4,5,8,9,10],[3,7,8,9,10],[3,4,5,7,8,9,10,22],[3,7,8,9,10],[3,5,7,8,9,10,29],[3,7,8,9,10],[3,5,7,8,9,10,41],[3,7,8,9,10],[3,7,8,9,10],[3,4,8,9,10],[3,4,5,8,9,10],[3,4,5,8,9,10],[2]] Tryz.func354 [.tmp 2] ?_;simp only[↓XC,X1,seval,dB,j6,xT,XR];refine cF.of (ι:={x:(Nat×Nat)×Bs×Bs // x.1.1<=l.length/\x.2.1.length+x.1.2+mj (l.drop x.1.1)<=mj l/\x.2.2.length<=1048576/\xq (l.drop x.1.1) x.2.2 x.1.2 x.2.1=xq l [] 0 []}) (fun x=>⟨[(3,.s x.1.2.1),(4,.s x.1.2.2),(5,.i .i64 (x.1.1.2:Nat)),(8,.fs 1 (l.map ij)),(9,.i .i64 (l.length:Nat)),(10,.i .i64 (x.1.1.1:Nat))],[]⟩) (fun x=>l.length-x.1.1.1) ⟨((0,0),[],[]),bF _,by simp,by simp,rfl⟩ (cG.refl _ _) ?_;rintro⟨⟨⟨i,k⟩,out,last⟩,o,d,g,c⟩;simp only[↓XC,X1,seval,dB,xT,j6,XR];simp only at o d g c;have p:∀m:Nat,Lib.repeatL [10] m=List.replicate m 10:=fun m=>by have:=Lib.repeatL_replicate 10 1 m;simpa using this
 have t:=hp.1;have s:=ku l;have n:((k:Int)+1).toNat=k+1:=by omega
 simp only[n,p];refine⟨fun h=>CO fun _=>?_,fun h=>?_⟩
 ·have f:i<l.length:=by omega
  have hd:=DP f;have j:=F7 f;have r:(l.getD i []).length<=1048576:=hp.2 _ (by rw[aG,aS f];exact gf f);rw[j]at d;rw[hd]at c;refine⟨fun a=>CR fun _=>CR fun _=>?_,fun a=>⟨fun b=>CO fun _=>bH.mk (by simp only[aC,bJ,aH];omega) fun _=>bH.mk (by simp only[aC,bJ,aH];omega) fun _=>CR fun _=>?_,fun b=>bH.mk g fun _=>bH.mk (fun h=>⟨h,r⟩) fun _=>⟨fun e=>CR fun _=>CO fun _=>bH.mk (by simp only[aC,bJ,aH];omega) fun _=>bH.mk (by simp only[aC,bJ,aH];omega) fun _=>CR fun _=>?_,fun e=>⟨fun q=>CO fun _=>CO fun _=>CR fun _=>?_,fun q=>CO fun _=>bH.mk (by simp only[aC,bJ,aH];omega) fun _=>bH.mk (by simp only[aC,bJ,aH];omega) fun _=>CR fun _=>?_⟩⟩⟩⟩
  ·rw[a]at d;simp only[aL]at d;exact⟨⟨((i+1,k+1),out,last),by simp only;omega,by simp only;omega,g,by simp only;rw[<-c,R8 a]⟩,by simp only;omega,(by first|exact cG.refl _ _|(simp only[aP,aQ];exact cG.refl _ _))⟩
  ·exact⟨⟨((i+1,0),out++List.replicate k 10++l.getD i [],l.getD i []),by simp only;omega,by simp only[aC,bJ,aH];omega,by simp only;omega,by simp only;rw[<-c,zn a,aB b]⟩,by simp only;omega,(by first|exact cG.refl _ _|(simp only[aP,aQ];exact cG.refl _ _))⟩
  ·exact⟨⟨((i+1,0),out++List.replicate (k+1) 10++l.getD i [],l.getD i []),by simp only;omega,by simp only[aC,bJ,aH];omega,by simp only;omega,by simp only;rw[<-c,zn a,aA b,aB (by simpa using e)]⟩,by simp only;omega,(by first|exact cG.refl _ _|(simp only[aP,aQ];exact cG.refl _ _))⟩
  ·exact⟨⟨((i+1,0),out++[32]++l.getD i [],l.getD i []),by simp only;omega,by simp only[aC,bJ,aH];omega,by simp only;omega,by simp only;rw[<-c,zn a,aA b,aA (by simpa using e),aB (by omega)]⟩,by simp only;omega,(by first|exact cG.refl _ _|(simp only[aP,aQ];exact cG.refl _ _))⟩
  exact⟨⟨((i+1,0),out++List.replicate k 10++l.getD i [],l.getD i []),by simp only;omega,by simp only[aC,bJ,aH];omega,by simp only;omega,by simp only;rw[<-c,zn a,aA b,aA (by simpa using e),aA (by omega)]⟩,by simp only;omega,(by first|exact cG.refl _ _|(simp only[aP,aQ];exact cG.refl _ _))⟩
 rw[<-c,List.drop_eq_nil_of_le (by omega)];rfl
noncomputable def mY:=gC fun((l,fo,ch):List Bs×Bool×Int)=>([.fs 1 (l.map ij),.b fo,.i .i64 ch],mj l<=1073741824/\∀x∈l,x.length<=1048576,.s (Qr l fo ch))
theorem hG{l:List Bs}{fo:Bool}{ch:Int}:mY [.fs 1 (l.map ij),.b fo,.i .i64 ch]=some (ptr mY rfl (l,fo,ch)):=qK @vy
theorem u1:fO Tryz.prog 347 mY:=gJ fun(l,fo,ch) hp=>by
 dsimp only at *;refine HP (ua.c (GB.c u3.d)) 55 [[0,1,2],[0,1,2,7],[0,1,2,7,20],[0,1,2,7],[0,1,2,7,24],[0,26],[6],[6],[0,1,2,7,8],[0,2,7,8,34],[0,2,7,8],[0,7,8,39],[0,7,8,39,40],[6],[0,7,8,43],[6],[6]] Tryz.func347 [.tmp 6] ?_;simp only[↓XC,X1,seval,dB,j6,l2,jV,XR];refine cF.of (ι:={n:Nat // n<=l.length/\yA l n=yA l l.length}) (fun x=>⟨[(0,.fs 1 (l.map ij)),(1,.b fo),(2,.i .i64 ch),(7,.i .i64 (x.1:Nat))],[]⟩) (fun x=>x.1) ⟨l.length,aN _,rfl⟩ (cG.refl _ _) ?_;rintro⟨n,s,i⟩;simp only[↓XC,X1,seval,dB,jV,j6,l2,XR];have f:∀m:Nat,Lib.repeatL [10] m=List.replicate m 10:=fun m=>by have:=Lib.repeatL_replicate 10 1 m;simpa using this
 have y:=hp.1;have j:((n:Int)-1).toNat=n-1:=by omega
 have v:=ku l;simp only[j,f,<-List.map_take,l2];simp only[↓XC,X1,seval,dB,jV,j6,l2,XR];simp only[f,<-List.map_take];simp only[↓XC,X1,seval,dB,jV,j6,l2,XR];simp only[f];have p:=rj l n;have u:=rh (l.take n);have o:=uK (l.take n) [] 0 [];simp only[aL]at o;have w:(l.take n).length<=l.length:=by rw[aZ];omega
 refine bH.mk (fun _=>(by simp only[iU];omega)) fun _=>bH.mk (fun _=>by omega) fun _=>⟨fun h=>CR fun _=>?_,fun h=>?_⟩
 ·simp only[fg,aD,aE]at h;refine⟨⟨n-1,by omega,by rw[<-F9 (by omega) h.2];exact i⟩,by simp only;omega, ?_⟩;rw[show((n:Int)-1)=((n-1:Nat):Int) by omega];exact cG.refl _ _
 simp only[fg,bA,aO]at h;have q:yA l l.length=n:=by rw[<-i];exact Kk fun t=>h.resolve_left (by omega)
 have g:((1:Int)+l.length-n).toNat=1+l.length-n:=by omega
 unfold Qr;rw[q];refine⟨fun k=>⟨fun c=>CO fun _=>by rw[aB (by omega),aB c],fun c=>by rw[aB (by omega),aA c]⟩,fun k=>CO fun _=>bH.mk ⟨by omega,by omega⟩ fun _=>?_⟩;have b:¬n=0:=by omega
 refine⟨fun e=>CO fun _=>bH.mk ⟨by omega,fun x r=>hp.2 x (List.mem_of_mem_take r)⟩ fun _=>?_,fun e=>?_⟩
 ·exact⟨fun c=>by rw[aA b,aB c,aB e],fun c=>⟨fun a=>CR fun _=>CR fun _=>CO fun _=>bH.mk (by rw[bJ];omega) fun _=>by rw[aA b,aA c,aB a,aB e,g],fun a=>CO fun _=>by rw[aA b,aA c,aA a,aB e]⟩⟩
 have d:¬fo=true:=by simpa using e
 exact⟨fun c=>by rw[aA b,aB c,aA d],fun c=>⟨fun a=>CR fun _=>CR fun _=>CO fun _=>bH.mk (by rw[bJ];omega) fun _=>by rw[aA b,aA c,aB a,aA d,g],fun a=>CO fun _=>by rw[aA b,aA c,aA a,aA d]⟩⟩
end Go.T
end
section
namespace Go.T
variable[Go.Vg.df][Go.Vg.cS 0 1]
open Go.Proofs Go.Vg Go.RowKit Go.TT Go.Pl Go.TSh
set_option maxRecDepth 10000
set_option maxHeartbeats 4000000
noncomputable def nf:=gC fun((s,p,n):Bs×Int×Int)=>([.s s,.i .i64 p,.i .i64 n],s.length<=1048576,.fJ [.s (nQ s (spot s p) n).1,.i .i64 ((nQ s (spot s p) n).2.1:Nat),.i .i64 (nQ s (spot s p) n).2.2])
theorem u5{s:Bs}{p n:Int}:nf [.s s,.i .i64 p,.i .i64 n]=some (ptr nf rfl (s,p,n)):=iZ
theorem u6:fO Tryz.prog 317 nf:=gJ fun(s,p,n) hp=>by
 dsimp only at *;refine HP (eh.c (Af.c (pg.c (wS.c (hJ.c (pT.c (lG.c (jQ.c u1.d)))))))) 122 [[0,1,2],[0,1,2],[0,1,2,9,10,11,12],[0,1,2,9,10,11,12,30],[6,7,8],[0,1,2,9,10,13],[0,1,2,9,10,13,14,15],[0,1,2,9,10,13,14,15,37],[0,1,10,13,14,15],[0,1,2,10,13,14,15,48],[0,1,10,13,14,15],[0,1,10,13,14,15,16],[0,1,10,13,14,15,16,80],[0,1,10,13,14,15,16,17],[0,1,10,13,14,15,16,17,96],[0,1,10,13,14,15,16,17],[0,1,10,13,14,15,16],[0,1,10,13,14,15,16],[6,7,8]] Tryz.func317 [.tmp 6,.tmp 7,.tmp 8] ?_;simp only[↓XC,X1,seval,dB,eg,Ae,iS,wR,bR,ji,gU,gj,hG,XR];have h0:=dW s p;generalize spot s p=q0 at *;rw[bQ s h0];have hP:(jJ s q0).2.2.1<=s.length:=by
  by_cases h:q0<s.length
  ·exact(vW h).2.1
  unfold jJ;rw[eZ (by omega),aA (by decide)];exact h0
 unfold nQ;have hE:(jJ s q0).2.2.2=0->q0<s.length/\(∃x,x<=s.length/\(jJ s q0).2.2.1=en s x)/\0<=(jJ s q0).1/\(jJ s q0).1<=9:=fun h=>by
  have O:q0<s.length:=by
   rcases aU q0 s.length with g|g
   ·exact g
   unfold jJ at h;rw[eZ g,aA (by decide)]at h;simp at h
  exact⟨O,JX O h⟩
 generalize jJ s q0=H at *;obtain⟨P,ch,e,cd⟩:=H;simp only at hP hE;simp only;refine bH.mk hp fun _=>⟨fun h=>by rw[aB (show cd≠0 by simpa using h)],fun h=>bH.mk ⟨hp,by omega,by omega⟩ fun _=>?_⟩
 have hz:cd=0:=by simpa using h
 obtain⟨O,⟨x0,ad,hex⟩,aa,ab⟩:=hE hz;rw[aA (show ¬cd≠0 by simpa using h)];have N:=jZ s e;have E:gZ s e<s.length->la s (gZ s e)=gZ s e:=fun h=>by rw[hex]at h |-;exact qY h
 generalize gZ s e=a0 at *;obtain⟨d,f,G⟩:∃d f,HJ s n P a0=(d,f):=⟨_,_,rfl⟩
 rw[G];unfold HJ at G;refine⟨fun h1=>bH.mk ?_ fun _=>?_,fun h1=>⟨fun h2=>bH.mk ⟨hp,by omega,by omega⟩ fun _=>?_,fun h2=>?_⟩⟩
 ·simp only[fg,aD,aE]at h1;simp only[iU];split<;>omega
 ·have z:0<P/\n<=60000:=by simpa using h1
  rw[aB z,eb]at G;have A:(if(0:Int)>n then 0 else n)+P=(d:Int):=by have:=G.1;split<;>omega
  have B:f=a0:=G.2.symm;refine cF.of (ι:={x:Nat×List Bs // x.1<=s.length/\(x.1<s.length->la s x.1=x.1/\mj x.2<=x.1)/\mj x.2<=x.1+1/\(∀y∈x.2,y.length<=1048576)/\(x.2++(pN s d f x.1).1,(pN s d f x.1).2)=pN s d f a0}) (fun x=>⟨[(0,.s s),(1,.i .i64 (q0:Nat)),(10,.i .i64 ch),(13,.i .i64 (x.1.1:Nat)),(14,.i .i64 (d:Nat)),(15,.i .i64 (f:Nat)),(16,.ew 0 0 x.1.2.length)],[some (.row false 1 x.1.2.length (bT ij [] x.1.2))]⟩) (fun x=>s.length-x.1.1) ⟨(a0,[]),N,fun h=>⟨E h,bF _⟩,bF _,(fun y v=>by simp at v),rfl⟩ (by rw[<-A,B];exact(cG.cT [0] (by decide) (by simp only[Yd];exact bM fun i X=>by simp at X) (by simp[bC,Vg.look,SV.bP,dX]))) ?_;rintro⟨⟨a,L⟩,F,M,Y,w,o⟩;simp only[↓XC,X1,seval,dB,bR,ji,gU,gj,iS,hG,XR];simp only at F M Y w o;rw[bQ s F];have T:=ku L;have R:(decide ((a:Int)<(s.length:Nat))&&decide (ib s a=0)&&(js s a||decide ((jG s a:Int)>=d)))=decide (a<s.length/\ib s a=0/\(js s a=true\/d<=jG s a)):=by rw[bO];simp only[aD,aV,aE,dF,fB,ge_iff_le,fe]
  have S:(decide ((a:Int)>=f)&&(!js s a||decide ((jG s a:Int)>d)))=decide (f<=a/\(js s a=false\/d<jG s a)):=by rw[bO];simp only[aD,aV,aE,dF,fB,ge_iff_le,fg,aR]
  rw[R,S];refine bH.mk (fun h=>⟨⟨h,h⟩,hp⟩) fun _=>bH.mk (fun h=>⟨⟨h,h⟩,hp⟩) fun _=>bH.mk (fun h=>⟨⟨h,h⟩,hp⟩) fun _=>⟨fun C=>bH.mk (fun h=>⟨⟨h,h⟩,hp⟩) fun _=>bH.mk (fun h=>⟨⟨h,h⟩,hp⟩) fun _=>?_,fun C=>?_⟩
  ·have c:=aW C;obtain⟨Z,k7⟩:=M c.1;have hg:=lv c.1;have q:=jZ s (en s a);have V:=jF s a F;have W:=lW s a;have U:bl s a-a=jG s a:=by unfold jG;rw[Z]
   have J:=y5 s a;have j:gZ s (en s a)<s.length->la s (gZ s (en s a))=gZ s (en s a):=qY;have r:gZ s (en s a)<s.length->gZ s (en s a)=en s a+1:=fun h=>by unfold gZ at *;omega
   have K:en s a<=gZ s (en s a):=by unfold gZ;omega
   have u:=CP (f:=f) (d:=d) c;have t:decide (f<=a/\(js s a=false\/d<jG s a))=true->d<=jG s a:=fun l=>by
    rcases(aW l).2 with I|I
    ·exact c.2.2.resolve_left (by rw[I];simp)
    omega
   refine⟨fun l=>bH.mk (by have:=t l;simp only[iU];omega) fun _=>bH.mk hp fun _=>bH.mk ⟨by omega, ?_,by omega⟩ fun _=>⟨dz rfl rfl,CO fun _=>bH.mk hp fun _=>bH.mk ⟨hp,by omega,by omega⟩ fun _=>?_⟩,fun l=>⟨dz rfl rfl,CO fun _=>bH.mk hp fun _=>bH.mk ⟨hp,by omega,by omega⟩ fun _=>?_⟩⟩
   ·have:=t l;omega
   ·have m:=aW l;have Q:((a:Int)+d).toNat=a+d:=by omega
    rw[Q];have b:(sub s (a+d) (en s a)).length=en s a-(a+d):=by simp only[sub,bK,aZ];omega
    refine⟨⟨(gZ s (en s a),L++[sub s (a+d) (en s a)]),q,fun h=>⟨j h, ?_⟩, ?_, ?_, ?_⟩,by simp only;omega,(cG.cT [2] (by decide) (by simp only[Yd];exact fY (y:=sub s (a+d) (en s a)) (fun _=>rfl) rfl (fun _ _=>rfl) rfl) (by simp[bC,Vg.look,SV.bP,dX]))⟩
    ·have D:=r h;simp only[gX,b]at D |-
     omega
    ·simp only[gX,b];omega
    ·intro y v;rcases dh.1 v with g|g
     ·exact w y g
     have k:y=sub s (a+d) (en s a):=by simpa using g
     rw[k,b];omega
    rw[u,aB m]at o;simp only[bS,dl];exact o
   have m:=bE l;have b:([]:Bs).length=0:=rfl;refine⟨⟨(gZ s (en s a),L++[([]:Bs)]),q,fun h=>⟨j h, ?_⟩, ?_, ?_, ?_⟩,by simp only;omega,(cG.cT [2] (by decide) (by simp only[Yd];exact fY (y:=([]:Bs)) (fun _=>rfl) rfl (fun _ _=>rfl) rfl) (by simp[bC,Vg.look,SV.bP,dX]))⟩
   ·have D:=r h;simp only[gX,b]at D |-
    omega
   ·simp only[gX,b];omega
   ·intro y v;rcases dh.1 v with g|g
    ·exact w y g
    have k:y=([]:Bs):=by simpa using g
    rw[k,b];omega
   rw[u,aA m]at o;simp only[bS,dl];exact o
  rw[sU (bE C)]at o;rw[<-o];refine bH.mk ⟨by omega,by omega⟩ fun _=>?_;rw[et rfl,<-cW O];simp only[↓XC,X1,seval,dB,hG,XR];exact bH.mk ⟨aN _,by omega,w⟩ fun _=>trivial
 ·have z:¬(0<P/\n<=60000):=by omega
  rw[aA z,aB h2]at G;have A:(((um s a0 n).1:Nat):Int)=(d:Int):=by rw[G]
  have B:f=(um s a0 n).2:=by rw[G]
  refine cF.of (ι:={x:Nat×List Bs // x.1<=s.length/\(x.1<s.length->la s x.1=x.1/\mj x.2<=x.1)/\mj x.2<=x.1+1/\(∀y∈x.2,y.length<=1048576)/\(x.2++(pN s d f x.1).1,(pN s d f x.1).2)=pN s d f a0}) (fun x=>⟨[(0,.s s),(1,.i .i64 (q0:Nat)),(10,.i .i64 ch),(13,.i .i64 (x.1.1:Nat)),(14,.i .i64 (d:Nat)),(15,.i .i64 (f:Nat)),(16,.ew 0 0 x.1.2.length)],[some (.row false 1 x.1.2.length (bT ij [] x.1.2))]⟩) (fun x=>s.length-x.1.1) ⟨(a0,[]),N,fun h=>⟨E h,bF _⟩,bF _,(fun y v=>by simp at v),rfl⟩ (by rw[<-A,B];exact(cG.cT [0] (by decide) (by simp only[Yd];exact bM fun i X=>by simp at X) (by simp[bC,Vg.look,SV.bP,dX]))) ?_;rintro⟨⟨a,L⟩,F,M,Y,w,o⟩;simp only[↓XC,X1,seval,dB,bR,ji,gU,gj,iS,hG,XR];simp only at F M Y w o;rw[bQ s F];have T:=ku L;have R:(decide ((a:Int)<(s.length:Nat))&&decide (ib s a=0)&&(js s a||decide ((jG s a:Int)>=d)))=decide (a<s.length/\ib s a=0/\(js s a=true\/d<=jG s a)):=by rw[bO];simp only[aD,aV,aE,dF,fB,ge_iff_le,fe]
  have S:(decide ((a:Int)>=f)&&(!js s a||decide ((jG s a:Int)>d)))=decide (f<=a/\(js s a=false\/d<jG s a)):=by rw[bO];simp only[aD,aV,aE,dF,fB,ge_iff_le,fg,aR]
  rw[R,S];refine bH.mk (fun h=>⟨⟨h,h⟩,hp⟩) fun _=>bH.mk (fun h=>⟨⟨h,h⟩,hp⟩) fun _=>bH.mk (fun h=>⟨⟨h,h⟩,hp⟩) fun _=>⟨fun C=>bH.mk (fun h=>⟨⟨h,h⟩,hp⟩) fun _=>bH.mk (fun h=>⟨⟨h,h⟩,hp⟩) fun _=>?_,fun C=>?_⟩
  ·have c:=aW C;obtain⟨Z,k7⟩:=M c.1;have hg:=lv c.1;have q:=jZ s (en s a);have V:=jF s a F;have W:=lW s a;have U:bl s a-a=jG s a:=by unfold jG;rw[Z]
   have J:=y5 s a;have j:gZ s (en s a)<s.length->la s (gZ s (en s a))=gZ s (en s a):=qY;have r:gZ s (en s a)<s.length->gZ s (en s a)=en s a+1:=fun h=>by unfold gZ at *;omega
   have K:en s a<=gZ s (en s a):=by unfold gZ;omega
   have u:=CP (f:=f) (d:=d) c;have t:decide (f<=a/\(js s a=false\/d<jG s a))=true->d<=jG s a:=fun l=>by
    rcases(aW l).2 with I|I
    ·exact c.2.2.resolve_left (by rw[I];simp)
    omega
   refine⟨fun l=>bH.mk (by have:=t l;simp only[iU];omega) fun _=>bH.mk hp fun _=>bH.mk ⟨by omega, ?_,by omega⟩ fun _=>⟨dz rfl rfl,CO fun _=>bH.mk hp fun _=>bH.mk ⟨hp,by omega,by omega⟩ fun _=>?_⟩,fun l=>⟨dz rfl rfl,CO fun _=>bH.mk hp fun _=>bH.mk ⟨hp,by omega,by omega⟩ fun _=>?_⟩⟩
   ·have:=t l;omega
   ·have m:=aW l;have Q:((a:Int)+d).toNat=a+d:=by omega
    rw[Q];have b:(sub s (a+d) (en s a)).length=en s a-(a+d):=by simp only[sub,bK,aZ];omega
    refine⟨⟨(gZ s (en s a),L++[sub s (a+d) (en s a)]),q,fun h=>⟨j h, ?_⟩, ?_, ?_, ?_⟩,by simp only;omega,(cG.cT [2] (by decide) (by simp only[Yd];exact fY (y:=sub s (a+d) (en s a)) (fun _=>rfl) rfl (fun _ _=>rfl) rfl) (by simp[bC,Vg.look,SV.bP,dX]))⟩
    ·have D:=r h;simp only[gX,b]at D |-
     omega
    ·simp only[gX,b];omega
    ·intro y v;rcases dh.1 v with g|g
     ·exact w y g
     have k:y=sub s (a+d) (en s a):=by simpa using g
     rw[k,b];omega
    rw[u,aB m]at o;simp only[bS,dl];exact o
   have m:=bE l;have b:([]:Bs).length=0:=rfl;refine⟨⟨(gZ s (en s a),L++[([]:Bs)]),q,fun h=>⟨j h, ?_⟩, ?_, ?_, ?_⟩,by simp only;omega,(cG.cT [2] (by decide) (by simp only[Yd];exact fY (y:=([]:Bs)) (fun _=>rfl) rfl (fun _ _=>rfl) rfl) (by simp[bC,Vg.look,SV.bP,dX]))⟩
   ·have D:=r h;simp only[gX,b]at D |-
    omega
   ·simp only[gX,b];omega
   ·intro y v;rcases dh.1 v with g|g
    ·exact w y g
    have k:y=([]:Bs):=by simpa using g
    rw[k,b];omega
   rw[u,aA m]at o;simp only[bS,dl];exact o
  rw[sU (bE C)]at o;rw[<-o];refine bH.mk ⟨by omega,by omega⟩ fun _=>?_;rw[et rfl,<-cW O];simp only[↓XC,X1,seval,dB,hG,XR];exact bH.mk ⟨aN _,by omega,w⟩ fun _=>trivial
 have z:¬(0<P/\n<=60000):=by simpa using h1
 rw[aA z,aA h2,eb]at G;have A:(60000:Int)=(d:Int):=by omega
 have B:f=a0:=G.2.symm;refine cF.of (ι:={x:Nat×List Bs // x.1<=s.length/\(x.1<s.length->la s x.1=x.1/\mj x.2<=x.1)/\mj x.2<=x.1+1/\(∀y∈x.2,y.length<=1048576)/\(x.2++(pN s d f x.1).1,(pN s d f x.1).2)=pN s d f a0}) (fun x=>⟨[(0,.s s),(1,.i .i64 (q0:Nat)),(10,.i .i64 ch),(13,.i .i64 (x.1.1:Nat)),(14,.i .i64 (d:Nat)),(15,.i .i64 (f:Nat)),(16,.ew 0 0 x.1.2.length)],[some (.row false 1 x.1.2.length (bT ij [] x.1.2))]⟩) (fun x=>s.length-x.1.1) ⟨(a0,[]),N,fun h=>⟨E h,bF _⟩,bF _,(fun y v=>by simp at v),rfl⟩ (by rw[<-A,B];exact(cG.cT [0] (by decide) (by simp only[Yd];exact bM fun i X=>by simp at X) (by simp[bC,Vg.look,SV.bP,dX]))) ?_;rintro⟨⟨a,L⟩,F,M,Y,w,o⟩;simp only[↓XC,X1,seval,dB,bR,ji,gU,gj,iS,hG,XR];simp only at F M Y w o;rw[bQ s F];have T:=ku L;have R:(decide ((a:Int)<(s.length:Nat))&&decide (ib s a=0)&&(js s a||decide ((jG s a:Int)>=d)))=decide (a<s.length/\ib s a=0/\(js s a=true\/d<=jG s a)):=by rw[bO];simp only[aD,aV,aE,dF,fB,ge_iff_le,fe]
 have S:(decide ((a:Int)>=f)&&(!js s a||decide ((jG s a:Int)>d)))=decide (f<=a/\(js s a=false\/d<jG s a)):=by rw[bO];simp only[aD,aV,aE,dF,fB,ge_iff_le,fg,aR]
 rw[R,S];refine bH.mk (fun h=>⟨⟨h,h⟩,hp⟩) fun _=>bH.mk (fun h=>⟨⟨h,h⟩,hp⟩) fun _=>bH.mk (fun h=>⟨⟨h,h⟩,hp⟩) fun _=>⟨fun C=>bH.mk (fun h=>⟨⟨h,h⟩,hp⟩) fun _=>bH.mk (fun h=>⟨⟨h,h⟩,hp⟩) fun _=>?_,fun C=>?_⟩
 ·have c:=aW C;obtain⟨Z,k7⟩:=M c.1;have hg:=lv c.1;have q:=jZ s (en s a);have V:=jF s a F;have W:=lW s a;have U:bl s a-a=jG s a:=by unfold jG;rw[Z]
  have J:=y5 s a;have j:gZ s (en s a)<s.length->la s (gZ s (en s a))=gZ s (en s a):=qY;have r:gZ s (en s a)<s.length->gZ s (en s a)=en s a+1:=fun h=>by unfold gZ at *;omega
  have K:en s a<=gZ s (en s a):=by unfold gZ;omega
  have u:=CP (f:=f) (d:=d) c;have t:decide (f<=a/\(js s a=false\/d<jG s a))=true->d<=jG s a:=fun l=>by
   rcases(aW l).2 with I|I
   ·exact c.2.2.resolve_left (by rw[I];simp)
   omega
  refine⟨fun l=>bH.mk (by have:=t l;simp only[iU];omega) fun _=>bH.mk hp fun _=>bH.mk ⟨by omega, ?_,by omega⟩ fun _=>⟨dz rfl rfl,CO fun _=>bH.mk hp fun _=>bH.mk ⟨hp,by omega,by omega⟩ fun _=>?_⟩,fun l=>⟨dz rfl rfl,CO fun _=>bH.mk hp fun _=>bH.mk ⟨hp,by omega,by omega⟩ fun _=>?_⟩⟩
  ·have:=t l;omega
  ·have m:=aW l;have Q:((a:Int)+d).toNat=a+d:=by omega
   rw[Q];have b:(sub s (a+d) (en s a)).length=en s a-(a+d):=by simp only[sub,bK,aZ];omega
   refine⟨⟨(gZ s (en s a),L++[sub s (a+d) (en s a)]),q,fun h=>⟨j h, ?_⟩, ?_, ?_, ?_⟩,by simp only;omega,(cG.cT [2] (by decide) (by simp only[Yd];exact fY (y:=sub s (a+d) (en s a)) (fun _=>rfl) rfl (fun _ _=>rfl) rfl) (by simp[bC,Vg.look,SV.bP,dX]))⟩
   ·have D:=r h;simp only[gX,b]at D |-
    omega
   ·simp only[gX,b];omega
   ·intro y v;rcases dh.1 v with g|g
    ·exact w y g
    have k:y=sub s (a+d) (en s a):=by simpa using g
    rw[k,b];omega
   rw[u,aB m]at o;simp only[bS,dl];exact o
  have m:=bE l;have b:([]:Bs).length=0:=rfl;refine⟨⟨(gZ s (en s a),L++[([]:Bs)]),q,fun h=>⟨j h, ?_⟩, ?_, ?_, ?_⟩,by simp only;omega,(cG.cT [2] (by decide) (by simp only[Yd];exact fY (y:=([]:Bs)) (fun _=>rfl) rfl (fun _ _=>rfl) rfl) (by simp[bC,Vg.look,SV.bP,dX]))⟩
  ·have D:=r h;simp only[gX,b]at D |-
   omega
  ·simp only[gX,b];omega
  ·intro y v;rcases dh.1 v with g|g
   ·exact w y g
   have k:y=([]:Bs):=by simpa using g
   rw[k,b];omega
  rw[u,aA m]at o;simp only[bS,dl];exact o
 rw[sU (bE C)]at o;rw[<-o];refine bH.mk ⟨by omega,by omega⟩ fun _=>?_;rw[et rfl,<-cW O];simp only[↓XC,X1,seval,dB,hG,XR];exact bH.mk ⟨aN _,by omega,w⟩ fun _=>trivial
end Go.T
end
