/- Own text: part VBG. -/
import Derived.Test.YtgippllfnmdnpaaGreatDoorVAZ
set_option linter.all false
section
namespace Go.T
variable[Go.Vg.df][Go.Vg.cS 0 1]
open Go.Proofs Go.Vg Go.RowKit Go.TT Go.Pl
set_option maxRecDepth 10000
set_option maxHeartbeats 4000000
theorem jh(s:Bs)(r:Rd)(b:Int)(a:Int)(p:Nat)(hp:r.cd=0):gQ Tryz.prog 169 4 [.ptr 0 0 0,.i .i64 a,.i .i64 (p:Nat)] (fk s (r) ((r).pos:Nat) b) (fun z c=>z=.fJ []/\c=(fk s (er r a p) ((er r a p).pos:Nat) b)):=by refine HE pn 19 [[0,1,2,10],[0,2],[]] Tryz.func169 [] ?_;simp only[↓XC,X1,seval,X2];exact⟨fun _=>⟨[0,1,2,3],by decide,by simp only[Yd];exact⟨aM (by simp[Yf,Yh]),aF fun _=>rfl,aF fun _=>rfl,aF fun _=>rfl⟩,by simp only[↓XC,X1,seval];try first|rfl|simp[Yf],by simp[da,SO.ro,YC],by simp⟩,fun h=>absurd hp h⟩
theorem ki(s:Bs)(r:Rd)(a:Int)(hp:s.length<=1048576):gQ Tryz.prog 170 4 [.ptr 0 0 0] (fk s (r) ((r).pos:Nat) a) (fun z c=>z=.i .u8 (if bW s r.pos<0 then 0 else bW s r.pos)/\c=(fk s (r) ((r).pos:Nat) a)):=by
 refine l5 pn 22 [[0],[0,12],[2],[2]] Tryz.func170 [.tmp 2] (fun _=>false) [] [(1,[],[],qa (.q0 3 [3] (.q0 7 [7] (qd .fin)))),(3,[],[],qa (.q0 3 [3] (.q0 7 [7] (qd .fin))))] ?_;simp only[↓XC,X1,seval,X2];refine⟨by decide +kernel,fun h=>?_,fun h=>⟨by decide +kernel,CO fun _=>?_⟩⟩
 ·rw[eZ (by omega)];exact Vf
 rw[cW (by omega),aA (by omega)];exact Vf
theorem Wl(s:Bs)(r:Rd)(a:Int)(hp:s.length<=1048576/\r.cd=0/\r.pos<=s.length):gQ Tryz.prog 325 4 [.ptr 0 0 0] (fk s (r) ((r).pos:Nat) a) (fun z c=>z=.b (!decide ((ik s r).cd=0))/\c=(fk s (ik s r) ((ik s r).pos:Nat) a)):=by
 refine l5 hO.d 40 [[0],[0,12],[0],[0,28],[0],[2]] Tryz.func325 [.tmp 2] (fun _=>false) [] [(1,[],[],qa (.q0 3 [3] (.q0 7 [7] (qd .fin)))),(3,[],[],qa (.q0 3 [3] (.q0 7 [7] (.de 8 (.q1 9 .fin) .fin))))] ?_;simp only[↓XC,X1,seval,X2,cy];rw[bQ s hp.2.2];have d:=kJ s r.pos;refine⟨by decide +kernel,fun h=>?_,fun h=>⟨by decide +kernel,bH.mk hp.1 fun _=>⟨fun b=>?_,fun b=>?_⟩⟩⟩
 ·have e:ik s r=er r 3 r.pos:=by unfold ik;rw[aB (by omega)]
  rw[e];refine Vm (jh s r a 3 r.pos hp.2.1) ?_;simp only[↓XC,X1,seval,X2,XM];exact Vf
 ·have e:ik s r=er r 4 r.pos:=by unfold ik;rw[aA (by omega),aB (by omega)]
  rw[e];refine Vm (jh s r a 4 r.pos hp.2.1) ?_;simp only[↓XC,X1,seval,X2,XM];exact Vf
 have e:ik s r=r:=by unfold ik;rw[aA (by omega),aA (by omega)]
 rw[e];exact Vf
theorem G6(s:Bs)(r:Rd)(a:Int)(hp:s.length<=1048576/\r.cd=0/\r.pos<=s.length):gQ Tryz.prog 290 4 [.ptr 0 0 0] (fk s (r) ((r).pos:Nat) a) (fun z c=>z=.b (decide ((cL s r).cd=0))/\c=(fk s (cL s r) ((cL s r).pos:Nat) a)):=by refine l5 mu.d 18 [[0],[0],[2]] Tryz.func290 [.tmp 2] (fun _=>false) [] [(1,[12],[0],qf (.q0 4 [4,9,10,11,12] (.q0 8 [8,9,10,11,12] (.de 9 (.q1 10 (.q1 11 (.sw (.de 12 .fin .fin)))) .fin))))] ?_;simp only[↓XC,X1,seval,X2,im];rw[bQ s hp.2.2];have b:=ez s r.pos hp.2.2;refine⟨by decide +kernel,bH.mk hp.1 fun _=>?_⟩;rw[show cL s r=ik s (atR r (dR s r.pos))from rfl];refine Vm (Wl s (atR r (dR s r.pos)) a ⟨hp.1,hp.2.1,b⟩) ?_;simp only[↓XC,X1,seval,X2,XM];exact Vf
theorem SY(s:Bs)(r:Rd)(i:Int)(k st:Int)(fl:Bool)(x a g:Bs)(p f:Int)(d:Bool)(hp:r.ev.length<=16777216/\r.dn.length=r.ev.length/\r.bs<=r.ev.length):gQ Tryz.prog 305 1 [.ptr 0 0 0,.agg [.i .i64 k,.i .i64 st,.b fl,.s x,.s a,.s g,.i .i64 p,.i .i64 f],.b d] (fk s (r) ((r).pos:Nat) i) (fun z c=>z=.i .i64 (if a=[]then -1 else((iu r.ev r.dn r.bs).length:Nat))/\c=(fk s (bB r ⟨k,st,fl,x,a,g,p,f⟩ d) ((bB r ⟨k,st,fl,x,a,g,p,f⟩ d).pos:Nat) i)):=by
 refine l5 pn 39 [[0,2,4],[0,2,4],[0,2,4,19],[6],[0],[6]] Tryz.func305 [.tmp 6] (fun _=>false) [] [(1,[7,10],[0,1],qe (.q0 4 [4,7,8,9,10] (.q0 5 [5,6,7,8,9,10] (.de 6 (.sw (.de 7 (qd (.de 10 .fin .fin)) .fin)) .fin)))),(4,[10,13],[0,2],qe (.q1 5 (.q1 7 (.q0 4 [4,10,11,12,13] (.q0 6 [6,8,9,10,11,12,13] (.q1 8 (.de 9 (.sw (.de 10 (.q1 11 (.q1 12 (.de 13 .fin .fin))) .fin)) .fin)))))))] ?_;simp only[↓XC,X1,seval,X2];have e:iu (r.ev++[⟨k,st,fl,x,a,g,p,f⟩]) (r.dn++[d]) r.bs=if a=[]then iu r.ev r.dn r.bs else iu r.ev r.dn r.bs++[(a,d)]:=mW hp.2.2 hp.2.1;have hle:=Og (l:=r.ev) (d:=r.dn) (b:=r.bs);refine⟨by decide +kernel,dz rfl rfl,CO fun _=>⟨fun h=>?_,fun h=>⟨by decide +kernel,dz rfl rfl,CO fun _=>CR fun _=>?_⟩⟩⟩
 ·rw[aB h]at e;rw[e,aB h];exact⟨[0,6,2,3],by decide,by simp only[Yd];exact⟨aM (by simp[Yf]),eU r.ev (⟨k,st,fl,x,a,g,p,f⟩:Ev) (fun _=>rfl) rfl rfl rfl (fun _ _=>rfl) rfl rfl,aF fun _=>rfl,aF fun _=>rfl⟩,by simp only[↓XC,X1,seval];try first|rfl|simp[Yf],by simp[da,SO.ro,YC],by simp⟩
 rw[aA h]at e;rw[e,aA h];simp only[aC,aK,aL,aX];rw[show(((iu r.ev r.dn r.bs).length+1:Nat):Int)-1=((iu r.ev r.dn r.bs).length:Nat) by omega];exact⟨[0,6,8,3],by decide,by simp only[Yd];exact⟨aM (by simp[Yf]),eU r.ev (⟨k,st,fl,x,a,g,p,f⟩:Ev) (fun _=>rfl) rfl rfl rfl (fun _ _=>rfl) rfl rfl,eU (iu r.ev r.dn r.bs) (a,d) (fun _=>rfl) rfl rfl rfl (fun _ _=>rfl) rfl rfl,aF fun _=>rfl⟩,by simp only[↓XC,X1,seval];try first|rfl|simp[Yf],by simp[da,SO.ro,YC],by simp⟩
theorem qE(s:Bs)(r:Rd)(a:Int)(d b:Int)(e an tg:Bs)(st:Int)(t:Bs)(hp:r.ev.length<=16777216/\r.dn.length=r.ev.length/\r.bs<=r.ev.length):gQ Tryz.prog 263 1 [.ptr 0 0 0,.agg [.i .i64 d,.i .i64 b,.b false,.s e,.s an,.s tg,.i .i64 0,.i .i64 0],.i .i64 st,.s t] (fk s (r) ((r).pos:Nat) a) (fun z c=>z=.fJ []/\c=(fk s (cY r st t an tg) ((cY r st t an tg).pos:Nat) a)):=by refine HE pn 16 [[0,2,3,5],[0,2,3,5],[0,3,5],[0,5],[]] Tryz.func263 [] ?_;simp only[↓XC,X1,seval,X2,EZ];refine Vb (SY s r a 5 st false t an tg 0 0 true hp) ?_;simp only[↓XC,X1,seval,X2,XM];exact Vf
theorem EN(s:Bs)(r:Rd)(m:Int)(k:Nat)(hp:r.ev.length<=16777216/\r.dn.length=r.ev.length/\r.bs<=r.ev.length/\k<r.ev.length/\r.bs<=k/\0<r.dp/\r.dp<=40):gQ Tryz.prog 299 1 [.ptr 0 0 0,.i .i64 (if(r.ev.getD k ec).anchor=[]then -1 else((si (r.ev.take k) r.bs).length:Nat))] (fk s (r) ((r).pos:Nat) m) (fun z c=>z=.fJ []/\c=(fk s (mH r k) ((mH r k).pos:Nat) m)):=by
 refine HE pn 30 [[0,1],[0,1],[0,1,22],[]] Tryz.func299 [] ?_;simp only[↓XC,X1,seval,X2];obtain⟨t,l,u,g,b,p,q⟩:=hp;have a:=Ma g b l;have n:(r.dp:Int)-1=((r.dp-1:Nat):Int):=by omega
 rw[n];by_cases e:(r.ev.getD k ec).anchor=[]
 ·rw[aB e]at a |-
  simp only[mH,a,aC,aK,aL,aX];refine CR fun _=>⟨dz rfl rfl,CO fun _=>⟨fun h=>absurd h (by decide),fun _=>?_⟩⟩
  exact⟨[0,5,2,3],by decide,by simp only[Yd];exact⟨aM (by simp[Yf];try omega),eU r.ev Qs (fun _=>rfl) rfl rfl rfl (fun _ _=>rfl) rfl rfl,aF fun _=>rfl,aF fun _=>rfl⟩,by simp only[↓XC,X1,seval];try first|rfl|simp[Yf],by simp[da,SO.ro,YC],by simp⟩
 have i:=UG (d:=r.dn) g b e;have f:((iu r.ev r.dn r.bs).getD (si (List.take k r.ev) r.bs).length ([],false)).1=(r.ev.getD k ec).anchor:=by rw[UF g b e]
 rw[aA e]at a |-
 generalize (si (List.take k r.ev) r.bs).length=x at *;simp only[mH,a,gw,aC,aK,aL,aX];refine CR fun _=>⟨dz rfl rfl,CO fun _=>⟨fun _=>CO fun _=>CO fun _=>?_,fun h=>by omega⟩⟩
 exact⟨[0,5,2,3],by decide,by simp only[Yd];exact⟨aM (by simp[Yf];try omega),eU r.ev Qs (fun _=>rfl) rfl rfl rfl (fun _ _=>rfl) rfl rfl,bM fun j v=>by(simp only[bT,xI,Cs _ _ _ _ _ i,Int.toNat_natCast];split;(rename_i o;subst o;rw[f];rfl);rfl),aF fun _=>rfl⟩,by simp only[↓XC,X1,seval];try first|rfl|simp[Yf],by simp[da,SO.ro,YC],by simp⟩
theorem Lo(s:Bs)(r:Rd)(a:Int)(j i:Int)(l an tg:Bs)(k st:Int)(hp:r.ev.length<=16777216/\r.dn.length=r.ev.length/\r.bs<=r.ev.length/\r.cd=0/\r.dp<=40):gQ Tryz.prog 296 1 [.ptr 0 0 0,.agg [.i .i64 j,.i .i64 i,.b false,.s [],.s an,.s tg,.i .i64 0,.i .i64 0],.i .i64 k,.i .i64 st] (fk s (r) ((r).pos:Nat) a) (fun z c=>z=.i .i64 (if 40<=r.dp then -2 else if an=[]then -1 else((iu r.ev r.dn r.bs).length:Nat))/\c=(fk s (jt r k st (⟨false,an,tg,0⟩:Pp) r.pos) ((jt r k st (⟨false,an,tg,0⟩:Pp) r.pos).pos:Nat) a)):=by
 refine HE pn 34 [[0,2,3,5],[0,2,3,5,13],[],[8],[0,2,3,5],[0,3,5],[0,5],[8]] Tryz.func296 [.tmp 8] ?_;simp only[↓XC,X1,seval,X2];obtain⟨d,f,g,b,hd⟩:=hp;refine⟨fun h=>?_,fun h=>CR fun _=>?_⟩
 ·have e:jt r k st (⟨false,an,tg,0⟩:Pp) r.pos=er r 12 r.pos:=by unfold jt;rw[aB (by omega)]
  rw[e,aB (by omega)];refine Vm (jh s r a 12 r.pos b) ?_;simp only[↓XC,X1,seval,X2,XM];exact Vf
 have e:jt r k st (⟨false,an,tg,0⟩:Pp) r.pos={ bB r (oQ k st an tg) false with dp:=r.dp+1 }:=by unfold jt;rw[aA (by omega)]
 rw[e,aA (by omega)];refine Vb (SY s { r with dp:=r.dp+1 } a k st false [] an tg 0 0 false ⟨d,f,g⟩) ?_;simp only[↓XC,X1,seval,X2,XM];simp only[bB,oQ,aC,aK,aL,aX];exact Vf
end Go.T
end
section
namespace Go.T
variable[Go.Vg.df][Go.Vg.cS 0 1]
open Go.Proofs Go.Vg Go.RowKit Go.TT Go.Pl
set_option maxRecDepth 10000
set_option maxHeartbeats 4000000
theorem U2(s:Bs)(r:Rd)(k:Int)(m:Bool)(hp:s.length<=1048576/\r.ev.length<=16777216/\r.dn.length=r.ev.length/\r.bs<=r.ev.length/\r.cd=0/\r.pos<=s.length):gQ Tryz.prog 337 1 [.ptr 0 0 0,.b m] (fk s (r) ((r).pos:Nat) k) (fun z c=>z=.fJ []/\c=(fk s (oP s r m) ((oP s r m).pos:Nat) k)):=by
 refine l5 nk.d 77 [[0,1,4,5,6],[0,1,4,5,24],[],[0,4,5,31],[],[0,4,5,7],[0,4,5,7,41,42,43],[0,4,5,7,41,42,43,44],[0,4,5,7,9,41,42,43],[0,4,5,7,9,41,42,43,50],[0,4,5,7,41,42,43],[0,4,5,7,41,42,43],[0,4,5,55],[],[0,5],[]] Tryz.func337 [] (fun _=>false) [] [(0,[],[],qa (.q0 3 [3] (.q0 7 [7] (.de 8 (qg .fin) .fin))))] ?_;simp only[↓XC,X1,seval,X2,fG];obtain⟨D,B,v,w,j,o⟩:=hp;have hle:=Og (l:=r.ev) (d:=r.dn) (b:=r.bs);rw[bQ s o];refine⟨by decide +kernel,bH.mk D fun _=>⟨fun t=>?_,fun t=>⟨fun g=>?_,fun g=>?_⟩⟩⟩
 ·have e:oP s r m=er r 7 r.pos:=by unfold oP;rw[aB (by simpa using t)]
  rw[e];refine Vm (jh s r k 7 r.pos j) ?_;simp only[↓XC,X1,seval,X2,XM];exact Vf
 ·have e:oP s r m=er r 16 r.pos:=by unfold oP;rw[aA (by simpa using t),aB g]
  rw[e];refine Vm (jh s r k 16 r.pos j) ?_;simp only[↓XC,X1,seval,X2,XM];exact Vf
 have f:¬(jm s r.pos).2.2=false:=by simpa using t
 have C:=j1 (by simpa using f);have y:((jm s r.pos).2.1.toNat:Int)=(jm s r.pos).2.1:=by omega
 subst g;refine cF.of (ι:={x:Nat×Bool // x.1<=(iu r.ev r.dn r.bs).length/\((iu r.ev r.dn r.bs).drop x.1).foldl (fun x p=>if p.1=(jm s r.pos).1 then p.2 else x) x.2=Qq r.ev r.dn r.bs (jm s r.pos).1}) (fun x=>⟨[(0,.ptr 0 0 0),(4,.s (jm s r.pos).1),(5,.i .i64 (jm s r.pos).2.1),(7,.b x.1.2),(41,.ew 2 0 (iu r.ev r.dn r.bs).length),(42,.i .i64 ((iu r.ev r.dn r.bs).length:Nat)),(43,.i .i64 (x.1.1:Nat))],(fk s (r) ((r).pos:Nat) k)⟩) (fun x=>(iu r.ev r.dn r.bs).length-x.1.1) ⟨(0,false),bF _,rfl⟩ (cG.refl _ _) ?_;rintro⟨⟨i,q⟩,A,hd⟩;simp only[YC];simp only[↓XC,X1,seval,X2];simp only[]at A hd;refine⟨fun h=>CO fun _=>CO fun _=>⟨fun he=>?_,fun he=>?_⟩,fun h=>?_⟩
 ·have a:=Ft (name:=(jm s r.pos).1) (x:=q) (show i<(iu r.ev r.dn r.bs).length by omega);rw[aB he]at a;refine CR fun _=>⟨⟨(i+1,((iu r.ev r.dn r.bs).getD i ([],false)).2),by simp only;omega,a.symm.trans hd⟩,by simp only;omega,(cG.cT [0,1,2,3] (by decide) (by simp only[Yd];exact⟨aM (by simp[Yf,Yh]),aF fun _=>rfl,aF fun _=>rfl,aF fun _=>rfl⟩) (by simp[bC,Vg.look,SV.bP,dX,jE,XR,qF,ul,Yh]))⟩
 ·have a:=Ft (name:=(jm s r.pos).1) (x:=q) (show i<(iu r.ev r.dn r.bs).length by omega);rw[aA he]at a;refine CR fun _=>⟨⟨(i+1,q),by simp only;omega,a.symm.trans hd⟩,by simp only;omega,(cG.cT [0,1,2,3] (by decide) (by simp only[Yd];exact⟨aM (by simp[Yf,Yh]),aF fun _=>rfl,aF fun _=>rfl,aF fun _=>rfl⟩) (by simp[bC,Vg.look,SV.bP,dX,jE,XR,qF,ul,Yh]))⟩
 rw[List.drop_eq_nil_of_le (by omega)]at hd;have n:q=Qq r.ev r.dn r.bs (jm s r.pos).1:=hd;refine⟨fun g=>?_,fun g=>⟨dz rfl rfl,CO fun _=>?_⟩⟩
 ·have e:oP s r false=er r 14 r.pos:=by unfold oP;rw[aA f,aA (by decide),aA (by rw[<-n];simpa using g)]
  rw[e];refine Vm (jh s r k 14 r.pos j) ?_;simp only[↓XC,X1,seval,X2,XM];exact Vf
 have e:oP s r false=atR (bB r (FL (jm s r.pos).1) true) (jm s r.pos).2.1.toNat:=by unfold oP;rw[aA f,aA (by decide),aB (by rw[<-n];simpa using g)]
 rw[e];have u:iu (r.ev++[FL (jm s r.pos).1]) (r.dn++[true]) r.bs=iu r.ev r.dn r.bs:=(mW w v).trans (aB rfl);simp only[atR,bB,u,y,aC,aK,aL,aX];exact⟨[0,5,2,3],by decide,by simp only[Yd];exact⟨aM (by simp[Yf]),eU r.ev (FL (jm s r.pos).1) (fun _=>rfl) rfl rfl rfl (fun _ _=>rfl) rfl rfl,aF fun _=>rfl,aF fun _=>rfl⟩,by simp only[↓XC,X1,seval];try first|rfl|simp[Yf],by simp[da,SO.ro,YC],by simp⟩
theorem RL(s:Bs)(r:Rd)(f:Int)(o g:Int)(p an tg:Bs)(h:Bool)(hp:s.length<=1048576/\r.ev.length<=16777216/\r.dn.length=r.ev.length/\r.bs<=r.ev.length/\r.cd=0/\r.pos<s.length):gQ Tryz.prog 338 1 [.ptr 0 0 0,.agg [.i .i64 o,.i .i64 g,.b false,.s p,.s an,.s tg,.i .i64 0,.i .i64 0]] (fk s (r) ((r).pos:Nat) f) (fun z c=>z=.fJ []/\c=(fk s (oR s r (⟨h,an,tg,0⟩:Pp)) ((oR s r (⟨h,an,tg,0⟩:Pp)).pos:Nat) f)):=by
 refine l5 (pd.c o6.d) 52 [[0,3],[0,3,4,5,6],[0,3,4,5,6,7],[0,3,4,5,6,7,23],[0,3,4,5,6],[0,3,4,5,6,7],[0,3,4,5,6,7,38],[],[0,5],[]] Tryz.func338 [] (fun _=>false) [] [(1,[],[],qa (.q0 3 [3] (.q0 7 [7] (.de 8 (qg .fin) .fin)))),(4,[],[],qa (.q0 3 [3] (.q0 7 [7] (.de 8 (qg .fin) .fin))))] ?_;simp only[↓XC,X1,seval,X2,kf,jA];obtain⟨n,j,k,l,i,b⟩:=hp;rw[bQ s (cJ b)];refine⟨by decide +kernel,bH.mk n fun _=>?_⟩;refine Vm (ki s r f n) ?_;simp only[↓XC,X1,seval,X2,jA,XM];simp only[q7 (show(0:Int)<34 by decide)];rw[bQ s (cJ b)];refine⟨fun a=>⟨by decide +kernel,bH.mk n fun _=>?_⟩,fun a=>?_⟩
 ·have m:sv s r.pos=nC s r.pos:=by unfold sv;rw[aB a]
  refine⟨fun d=>?_,fun d=>?_⟩
  ·have e:oR s r (⟨h,an,tg,0⟩:Pp)=er r (nC s r.pos).2.2 (nC s r.pos).2.1:=by unfold oR;rw[m,aB (by simpa using d)]
   rw[e];refine Vm (jh s r f (nC s r.pos).2.2 (nC s r.pos).2.1 i) ?_;simp only[↓XC,X1,seval,X2,XM];exact Vf
  have e:oR s r (⟨h,an,tg,0⟩:Pp)=atR (cY r 3 (nC s r.pos).1 an tg) (nC s r.pos).2.1:=by unfold oR;rw[m,aA (by simpa using d),aB a]
  rw[e];refine Vb (qE s r f o g p an tg 3 (nC s r.pos).1 ⟨j,k,l⟩) ?_;simp only[↓XC,X1,seval,X2,XM];try simp only[atR,cY,bB,aC,aK,aL,aX]
  exact Vf
 have m:sv s r.pos=ny s r.pos:=by unfold sv;rw[aA a]
 refine⟨fun d=>?_,fun d=>?_⟩
 ·have e:oR s r (⟨h,an,tg,0⟩:Pp)=er r (ny s r.pos).2.2 (ny s r.pos).2.1:=by unfold oR;rw[m,aB (by simpa using d)]
  rw[e];refine Vm (jh s r f (ny s r.pos).2.2 (ny s r.pos).2.1 i) ?_;simp only[↓XC,X1,seval,X2,XM];exact Vf
 have e:oR s r (⟨h,an,tg,0⟩:Pp)=atR (cY r 2 (ny s r.pos).1 an tg) (ny s r.pos).2.1:=by unfold oR;rw[m,aA (by simpa using d),aA a]
 rw[e];refine Vb (qE s r f o g p an tg 2 (ny s r.pos).1 ⟨j,k,l⟩) ?_;simp only[↓XC,X1,seval,X2,XM];try simp only[atR,cY,bB,aC,aK,aL,aX]
 exact Vf
theorem U7(s:Bs)(r:Rd)(d:Int)(q:Bool)(hp:s.length<=1048576/\r.pos<=s.length):gQ Tryz.prog 352 4 [.ptr 0 0 0,.b q] (fk s (r) ((r).pos:Nat) d) (fun z c=>z=.b (decide (bW s r.pos=58)&&(q||gN s (r.pos+1)||re (bW s (r.pos+1))))/\c=(fk s (r) ((r).pos:Nat) d)):=by
 refine l5 (iN.c kX.d) 34 [[0,1],[0,1,7],[4],[4]] Tryz.func352 [.tmp 4] (fun _=>false) [] [(3,[],[],qe (.q1 4 (.q1 6 (.q1 7 (.q1 8 (.q0 5 [5] (.q0 9 [9] (.q1 10 (.de 11 (.q1 12 (.q1 13 (.q1 14 (.q1 15 (.q1 16 (.q1 18 (.q1 19 (.q1 20 (.q0 17 [17] (.q0 21 [21] (.q1 22 (.q1 23 (.de 24 (.q1 25 (.q1 26 .fin)) .fin))))))))))))) .fin)))))))))] ?_;simp only[↓XC,X1,seval,X2,dT,fa];obtain⟨f,e⟩:=hp;refine Vm (ki s r d f) ?_;simp only[↓XC,X1,seval,X2,dT,fa,XM];simp only[q7 (show(0:Int)<58 by decide)];have g:((r.pos:Int)+1).toNat=r.pos+1:=by omega
 rw[g];refine⟨fun h=>?_,fun h=>⟨by decide +kernel,bH.mk (fun _=>by simp only[iU];omega) fun _=>bH.mk (fun b=>⟨⟨b,b⟩,f,by omega⟩) fun _=>bH.mk (fun _=>by simp only[iU];omega) fun _=>bH.mk (fun b=>by have:=gD (s:=s) (i:=r.pos+1) (by simp at b;exact b.2);omega) fun _=>?_⟩⟩
 ·have a:¬bW s r.pos=58:=by simpa using h
  exact⟨[0,1,2,3],by decide,by simp only[Yd];exact⟨aM (by simp[Yf,Yh]),aF fun _=>rfl,aF fun _=>rfl,aF fun _=>rfl⟩,by simp only[↓XC,X1,seval];try simp[a],by simp[da,SO.ro,YC],by simp⟩
 have a:bW s r.pos=58:=by simpa using h
 have j:(q||gN s (r.pos+1)||re (s.getD (r.pos+1) 0).toNat)=(q||gN s (r.pos+1)||re (bW s (r.pos+1))):=by
  cases k:gN s (r.pos+1)with
  |true=>simp
  |false=>rw[cW (gD k)]
 exact⟨[0,1,2,3],by decide,by simp only[Yd];exact⟨aM (by simp[Yf,Yh]),aF fun _=>rfl,aF fun _=>rfl,aF fun _=>rfl⟩,by simp only[↓XC,X1,seval];try simp only[a,j,eE,di],by simp[da,SO.ro,YC],by simp⟩
theorem sD(s:Bs)(r:Rd)(m:Int)(x l:Int)(y an tg:Bs)(a:Bool)(n:Int)(fl:Bool)(hp:s.length<=1048576/\r.ev.length<=16777216/\r.dn.length=r.ev.length/\r.bs<=r.ev.length/\r.cd=0/\r.pos<=s.length):gQ Tryz.prog 304 1 [.ptr 0 0 0,.agg [.i .i64 x,.i .i64 l,.b false,.s y,.s an,.s tg,.i .i64 0,.i .i64 0],.b a,.i .i64 n,.b fl] (fk s (r) ((r).pos:Nat) m) (fun z c=>z=.b (EO s r fl)/\c=(fk s (vH s r (⟨a,an,tg,0⟩:Pp) n fl) ((vH s r (⟨a,an,tg,0⟩:Pp) n fl).pos:Nat) m)):=by
 refine l5 (kE.c yj.d) 67 [[0,2,3,4,6],[0,2,3,4,6,11],[10],[0,2,3,4,6,11,17],[],[0,3,4,6,23],[],[0,3,4,6,33],[0,6,12,13],[0,13],[],[10]] Tryz.func304 [.tmp 10] (fun _=>false) [] [(7,[],[],qa (.q1 8 (.q0 3 [3] (.q0 7 [7] (.de 9 (.q1 10 .fin) .fin))))),(8,[],[],qa (qd (.q0 3 [3] (.q0 7 [7] (.de 10 (.q1 11 (.q1 12 (.q1 13 (.q1 14 (.q1 15 (.q1 16 (.q1 17 .fin))))))) .fin)))))] ?_;simp only[↓XC,X1,seval,X2,ig,qu];obtain⟨t,g,i,j,o,b⟩:=hp;refine Vm (ki s r m t) ?_;simp only[↓XC,X1,seval,X2,ig,qu,XM];simp only[q7 (show(0:Int)<42 by decide)];refine⟨fun h=>?_,fun h=>?_⟩
 ·have e:vH s r (⟨a,an,tg,0⟩:Pp) n fl=oP s r a:=by unfold vH;rw[aB h]
  have f:EO s r fl=true:=by unfold EO;simp[h]
  rw[e,f];refine Vb (U2 s r m a ⟨t,g,i,j,o,b⟩) ?_;simp only[↓XC,X1,seval,X2,XM];exact Vf
 have w:(decide ((if bW s r.pos<0 then(0:Int)else bW s r.pos)=39)||decide ((if bW s r.pos<0 then(0:Int)else bW s r.pos)=34))=je (bW s r.pos):=by have A:=q7 (s:=s) (p:=r.pos) (show(0:Int)<39 by decide);have B:=q7 (s:=s) (p:=r.pos) (show(0:Int)<34 by decide);simp only[A,B,je];rfl
 rw[w,bQ s b];refine⟨fun d=>?_,fun d=>⟨by decide +kernel,bH.mk t fun _=>⟨fun q=>⟨by decide +kernel,bH.mk t fun _=>?_⟩,fun q=>?_⟩⟩⟩
 ·have v:r.pos<s.length:=by refine Classical.byContradiction fun C=>?_;rw[eZ (by omega)]at d;exact absurd d (by decide)
  have e:vH s r (⟨a,an,tg,0⟩:Pp) n fl=oR s r (⟨a,an,tg,0⟩:Pp):=by unfold vH;rw[aA h,aB d]
  have f:EO s r fl=true:=by unfold EO;simp[d]
  rw[e,f];refine Vb (RL s r m x l y an tg a ⟨t,g,i,j,o,v⟩) ?_;simp only[↓XC,X1,seval,X2,XM];exact Vf
 ·have k:¬je (bW s r.pos)=true:=by simp[d]
  have e:vH s r (⟨a,an,tg,0⟩:Pp) n fl=E4 s r (⟨a,an,tg,0⟩:Pp) n fl:=by unfold vH;rw[aA h,aA k,aB q]
  have f:EO s r fl=true:=by unfold EO;simp[q]
  rw[e,f];refine Vb (qE s r m x l y an tg 1 (AK s r.pos n fl).1 ⟨g,i,j⟩) ?_;simp only[↓XC,X1,seval,X2,XM];try simp only[E4,atR,cY,bB,aC,aK,aL,aX]
  exact Vf
 have k:¬je (bW s r.pos)=true:=by simp[d]
 have u:¬yE s r.pos fl=true:=by simp[q]
 have e:vH s r (⟨a,an,tg,0⟩:Pp) n fl=r:=by unfold vH;rw[aA h,aA k,aA u]
 have f:EO s r fl=false:=by unfold EO;simp[h,d,q]
 rw[e,f];exact Vf
end Go.T
end
section
namespace Go.T
variable[Go.Vg.df][Go.Vg.cS 0 1]
open Go.Proofs Go.Vg Go.RowKit Go.TT Go.Pl
set_option maxRecDepth 10000
set_option maxHeartbeats 4000000
theorem AZ(s:Bs)(r:Rd)(l:Int)(fl:Bool)(hp:s.length<=1048576/\r.cd=0/\r.pos<=s.length/\(r.hd.length<=1048576/\∀h∈r.hd,h.pre.length<=1048576)):gQ Tryz.prog 256 4 [.ptr 0 0 0,.b fl] (fk s (r) ((r).pos:Nat) l) (fun z c=>∃(H:Int) (an tg:Bs) (b:Bool),((yo s fl r).cd=0->H=(if(ia s fl r).has=true then((ia s fl r).en:Int)else l)/\an=(ia s fl r).an/\tg=(ia s fl r).tg/\b=(ia s fl r).has)/\z=.fJ [.agg [.i .i64 0,.i .i64 0,.b false,.s [],.s an,.s tg,.i .i64 0,.i .i64 0],.b b]/\c=(fk s (yo s fl r) ((yo s fl r).pos:Nat) H)):=by
 refine Jh (nk.c (BQ.c (iN.c (kX.c (yl.c fN.d))))) 161 [[0,1,4],[0,1,4,6],[0,1,4,6,7],[0,1,4,6,7,30],[0,1,4,6,7,8],[0,1,4,6,7,8,9,10,11],[0,1,4,6,7,8,9,10,11,47],[0,1,4,6,7,8,9,10,11],[0,1,4,6,7,8,9,10,11,12],[0,1,4,6,7,8,9,10,110],[4,6,7],[4,5],[0,1,4,6,7,8,9,10,122],[0,1,4,6,10],[0,1,4,6,7,8,10,13,14],[0,1,4,6,7,8,10,13,135],[4,6,7],[4,5],[0,1,4,6,10],[0,1,4,6,7,10],[0,1,4,6,7,10],[0,1,4,6,7],[0,1,4,6,7,156],[0,1,4,6,7],[4,5]] Tryz.func256 [.cell 4 28,.tmp 5] (fun i=>i==3) [] [] ?_;simp only[↓XC,X1,seval,X2,fG,ir,dT,fa,gM,cO];obtain⟨m,M,G,O,P⟩:=hp;refine cF.of (ι:={x:Rd×Pp // W1 s fl r x.1 x.2}) (fun x=>⟨[(0,.ptr 0 0 0),(1,.b fl),(4,.ptr 4 0 0),(6,.ptr 5 0 0),(7,.b x.1.2.has)],(Qu s (x.1.1) ((x.1.1).pos:Nat) (if x.1.2.has=true then(x.1.2.en:Int)else l) [some (.gA false [.i .i64 0,.i .i64 0,.b false,.s [],.s [],.s [],.i .i64 0,.i .i64 0]),some (.gA false [.i .i64 0,.i .i64 0,.b false,.s [],.s x.1.2.an,.s x.1.2.tg,.i .i64 0,.i .i64 0])])⟩) (fun x=>if x.1.1.cd=0 then s.length+1-x.1.1.pos else 0) ⟨(r,kF r.pos),.inl (Mq M G)⟩ (cG.refl _ _) ?_;rintro⟨⟨x,⟨b,an,tg,g⟩⟩,T⟩;simp only[YC];simp only[↓XC,X1,seval,X2];by_cases a:x.cd=0
 ·have o:TB s fl r x ⟨b,an,tg,g⟩:=by
   rcases T with h|h
   ·exact h
   exact absurd a h.1
  simp only[aJ a];simp only[↓X9,X0,seval,X2];refine Vm (ki s x (if b=true then(g:Int)else l) m) ?_;simp only[↓X9,X0,seval,X2,fG,ir,dT,fa,gM,cO,XM];simp only[q7 (show(0:Int)<38 by decide)];by_cases d:bW s x.pos=38
  ·simp only[aJ d];simp only[↓X9,X0,seval,X2,fG,ir,dT,fa,gM,cO];rw[bQ s o.pos];refine bH.mk m fun _=>?_;refine Vm (ki s x (if b=true then(g:Int)else l) m) ?_;simp only[↓X9,X0,seval,X2,fG,ir,dT,fa,gM,cO,XM];simp only[q7 (show(0:Int)<33 by decide)];have w:lA s x.pos=true:=by unfold lA;simp[d]
   refine⟨fun j=>by omega,fun j=>?_⟩;have D:x.pos<s.length:=uQ w;simp only[<-cW D,d,eE,di,show decide ((38:Int)=33)=false from rfl,Bool.false_and,fT];rw[MZ];refine CO fun _=>bH.mk (fun _=>by omega) fun _=>bH.mk (fun h=>⟨⟨h,h⟩,m,by have:=j1 (s:=s) (p:=x.pos) (by simp at h;exact h.1);omega⟩) fun _=>bH.mk (fun h=>by have Y:=j1 (s:=s) (p:=x.pos) (by simp at h;exact h.1.1.1);have:=gD (s:=s) (i:=(jm s x.pos).2.1.toNat) (by simp at h;exact h.1.2);omega) fun _=>⟨fun f=>?_,fun f=>CO fun _=>⟨fun _=>?_,fun h=>absurd trivial h⟩⟩
   ·have u:(lq s r.hd fl x.pos ⟨b,an,tg,g⟩).2=7:=by
     unfold lq;rw[aB d];by_cases n:(jm s x.pos).2.2=true/\an=[]
     ·rw[aB n,aA (by simpa[n.1,n.2]using f)]
     rw[aA n]
    have e:=EA o w u (by decide);refine Vm (jh s x (if b=true then(g:Int)else l) 7 x.pos a) ?_;simp only[↓XC,X1,seval,X2,XM];refine⟨.fJ [.agg [.i .i64 0,.i .i64 0,.b false,.s [],.s an,.s tg,.i .i64 0,.i .i64 0],.b b],(fk s (yo s fl r) ((yo s fl r).pos:Nat) (if b=true then(g:Int)else l)),⟨_,an,tg,b,fun h=>absurd h (by rw[e];exact(by decide:¬((7:Int)=0))),rfl,rfl⟩, ?_⟩;rw[e];exact Vf
   have n:(jm s x.pos).2.2=true:=by
    cases h:(jm s x.pos).2.2 with
    |true=>rfl
    |false=>rw[h]at f;simp at f
   have t:an=[]:=by
    by_cases h:an=[]
    ·exact h
    simp[h]at f
   have I:HX s fl (jm s x.pos).2.1.toNat=true:=by
    cases h:HX s fl (jm s x.pos).2.1.toNat with
    |true=>rfl
    |false=>rw[h]at f;simp at f
   have u:lq s r.hd fl x.pos ⟨b,an,tg,g⟩=(⟨true,(jm s x.pos).1,tg,(jm s x.pos).2.1.toNat⟩,0):=by unfold lq;rw[aB d,aB ⟨n,t⟩,aB I]
   have X:=j1 n;have K:spot s (jm s x.pos).2.1=(jm s x.pos).2.1.toNat:=by unfold spot;omega
   have V:((jm s x.pos).2.1.toNat:Int)=(jm s x.pos).2.1:=by omega
   rw[K];obtain⟨F,y,A,q⟩:=GH o w u;simp only at F y A q;obtain⟨k,Q⟩:∃k:Nat,(jm s x.pos).2.1=(k:Int):=⟨(jm s x.pos).2.1.toNat,by omega⟩
   have C:(jm s x.pos).2.1.toNat=k:=by omega
   rw[C]at F y A q |-
   rw[Q];have S:=gY s k;have E:=gO s k y;have N:=fq s k;refine bH.mk m fun _=>⟨fun v=>?_,fun v=>?_⟩
   ·refine Vm (G6 s (atR x (wh s k)) (k:Nat) ⟨m,a,E⟩) ?_;simp only[↓XC,X1,seval,X2,XM];refine⟨⟨(cL s (atR x (wh s k)),(⟨true,(jm s x.pos).1,tg,k⟩:Pp)),(q v).1⟩, ?_, ?_⟩
    ·have:=(q v).2;rw[aB a];simp only;split<;>omega
    exact(cG.cT [0,1,2,3,4,5] (by decide) (by simp only[Yd];exact⟨aM (by simp[Yf,Yh]),aF fun _=>rfl,aF fun _=>rfl,aF fun _=>rfl,aM (by simp[Yf]),aM (by simp[Yf])⟩) (by simp[bC,Vg.look,SV.bP,dX,atR]))
   refine⟨⟨(atR x (wh s k),(⟨true,(jm s x.pos).1,tg,k⟩:Pp)),.inl (A v)⟩, ?_, ?_⟩
   ·have B:(atR x (wh s k)).cd=0:=a;rw[aB a];show(if(atR x (wh s k)).cd=0 then s.length+1-wh s k else 0)<_;rw[aB B];omega
   exact(cG.cT [0,1,2,3,4,5] (by decide) (by simp only[Yd];exact⟨aM (by simp[Yf,Yh]),aF fun _=>rfl,aF fun _=>rfl,aF fun _=>rfl,aM (by simp[Yf]),aM (by simp[Yf])⟩) (by simp[bC,Vg.look,SV.bP,dX,atR]))
  simp only[aI d];simp only[↓X9,X0,seval,X2,fG,ir,dT,fa,gM,cO];refine Vm (ki s x (if b=true then(g:Int)else l) m) ?_;simp only[↓X9,X0,seval,X2,fG,ir,dT,fa,gM,cO,XM];simp only[q7 (show(0:Int)<33 by decide)];refine⟨fun j=>?_,fun j=>?_⟩
  ·have w:lA s x.pos=true:=by unfold lA;simp[j]
   rw[bQ s o.pos];refine bH.mk m fun _=>?_;refine Vm (ki s x (if b=true then(g:Int)else l) m) ?_;simp only[↓X9,X0,seval,X2,fG,ir,dT,fa,gM,cO,XM];simp only[q7 (show(0:Int)<33 by decide)];rw[bQ s o.pos];refine⟨fun _=>bH.mk m fun _=>?_,fun h=>absurd j h⟩;have D:x.pos<s.length:=uQ w;have R:=P4 s x.pos;simp only[<-cW D,j,show decide ((33:Int)=38)=false from rfl,eE,di,Bool.false_and,cX];rw[MZ];refine CO fun _=>bH.mk (fun _=>by omega) fun _=>bH.mk (fun h=>⟨⟨h,h⟩,m,R⟩) fun _=>bH.mk (fun h=>by have:=gD (s:=s) (i:=(my s x.pos).2.1.toNat) (by simp at h;exact h.1.2);omega) fun _=>⟨fun f=>?_,fun f=>CO fun _=>⟨fun h=>absurd h (by decide),fun _=>?_⟩⟩
   ·have u:(lq s r.hd fl x.pos ⟨b,an,tg,g⟩).2=7:=by unfold lq;rw[aA d,aA];rintro⟨g1,g2,g3⟩;have L:tg=[]:=g2;simp[g1,L,g3]at f
    have e:=EA o w u (by decide);refine Vm (jh s x (if b=true then(g:Int)else l) 7 x.pos a) ?_;simp only[↓XC,X1,seval,X2,XM];refine⟨.fJ [.agg [.i .i64 0,.i .i64 0,.b false,.s [],.s an,.s tg,.i .i64 0,.i .i64 0],.b b],(fk s (yo s fl r) ((yo s fl r).pos:Nat) (if b=true then(g:Int)else l)),⟨_,an,tg,b,fun h=>absurd h (by rw[e];exact(by decide:¬((7:Int)=0))),rfl,rfl⟩, ?_⟩;rw[e];exact Vf
   have n:(my s x.pos).2.2=true:=by
    cases h:(my s x.pos).2.2 with
    |true=>rfl
    |false=>rw[h]at f;simp at f
   have t:tg=[]:=by
    by_cases h:tg=[]
    ·exact h
    simp[h]at f
   have I:HX s fl (my s x.pos).2.1.toNat=true:=by
    cases h:HX s fl (my s x.pos).2.1.toNat with
    |true=>rfl
    |false=>rw[h]at f;simp at f
   have W:=EQ s x.pos;have K:spot s (my s x.pos).2.1=(my s x.pos).2.1.toNat:=by have:=sG n;unfold spot;omega
   have V:((my s x.pos).2.1.toNat:Int)=(my s x.pos).2.1:=by omega
   have J:x.hd=r.hd:=by rw[o.at'];rfl
   rw[show jd (fun i=>[SV.s (x.hd.getD i lO).name,SV.s (x.hd.getD i lO).pre]) 0 x.hd.length=x.hd.map kl from et (enc:=kl) (z:=lO) (xs:=x.hd) rfl];simp only[↓X9,X0,seval,X2,fG,ir,dT,fa,gM,cO];refine bH.mk ⟨aN _,by omega,by rw[J];exact O,by rw[J];exact P⟩ fun _=>⟨fun f=>?_,fun f=>?_⟩
   ·have u:(lq s r.hd fl x.pos ⟨b,an,tg,g⟩).2=15:=by unfold lq;rw[<-J,aA d,aB ⟨n,t,I⟩,aA (by simpa using f)]
    have e:=EA o w u (by decide);refine Vm (jh s x (if b=true then(g:Int)else l) 15 x.pos a) ?_;simp only[↓XC,X1,seval,X2,XM];refine⟨.fJ [.agg [.i .i64 0,.i .i64 0,.b false,.s [],.s an,.s tg,.i .i64 0,.i .i64 0],.b b],(fk s (yo s fl r) ((yo s fl r).pos:Nat) (if b=true then(g:Int)else l)),⟨_,an,tg,b,fun h=>absurd h (by rw[e];exact(by decide:¬((15:Int)=0))),rfl,rfl⟩, ?_⟩;rw[e];exact Vf
   have u:lq s r.hd fl x.pos ⟨b,an,tg,g⟩=(⟨true,an,(B2 (my s x.pos).1 x.hd).1,(my s x.pos).2.1.toNat⟩,0):=by unfold lq;rw[<-J,aA d,aB ⟨n,t,I⟩,aB (by simpa using f)]
   try rw[K]
   obtain⟨F,y,A,q⟩:=GH o w u;simp only at F y A q;obtain⟨k,Q⟩:∃k:Nat,(my s x.pos).2.1=(k:Int):=⟨(my s x.pos).2.1.toNat,by omega⟩
   have C:(my s x.pos).2.1.toNat=k:=by omega
   rw[C]at F y A q |-
   rw[Q];have S:=gY s k;have E:=gO s k y;have N:=fq s k;refine bH.mk m fun _=>⟨fun v=>?_,fun v=>?_⟩
   ·refine Vm (G6 s (atR x (wh s k)) (k:Nat) ⟨m,a,E⟩) ?_;simp only[↓XC,X1,seval,X2,XM];refine⟨⟨(cL s (atR x (wh s k)),(⟨true,an,(B2 (my s x.pos).1 x.hd).1,k⟩:Pp)),(q v).1⟩, ?_, ?_⟩
    ·have:=(q v).2;rw[aB a];simp only;split<;>omega
    exact(cG.cT [0,1,2,3,4,5] (by decide) (by simp only[Yd];exact⟨aM (by simp[Yf,Yh]),aF fun _=>rfl,aF fun _=>rfl,aF fun _=>rfl,aM (by simp[Yf]),aM (by simp[Yf])⟩) (by simp[bC,Vg.look,SV.bP,dX,atR]))
   refine⟨⟨(atR x (wh s k),(⟨true,an,(B2 (my s x.pos).1 x.hd).1,k⟩:Pp)),.inl (A v)⟩, ?_, ?_⟩
   ·have B:(atR x (wh s k)).cd=0:=a;rw[aB a];show(if(atR x (wh s k)).cd=0 then s.length+1-wh s k else 0)<_;rw[aB B];omega
   exact(cG.cT [0,1,2,3,4,5] (by decide) (by simp only[Yd];exact⟨aM (by simp[Yf,Yh]),aF fun _=>rfl,aF fun _=>rfl,aF fun _=>rfl,aM (by simp[Yf]),aM (by simp[Yf])⟩) (by simp[bC,Vg.look,SV.bP,dX,atR]))
  obtain⟨e,U⟩:=Rs o (show lA s x.pos=false by unfold lA;simp[d,j]);refine⟨.fJ [.agg [.i .i64 0,.i .i64 0,.b false,.s [],.s an,.s tg,.i .i64 0,.i .i64 0],.b b],(fk s (yo s fl r) ((yo s fl r).pos:Nat) (if b=true then(g:Int)else l)),⟨_,an,tg,b,fun h=>by rw[U];exact⟨rfl,rfl,rfl,rfl⟩,rfl,rfl⟩, ?_⟩;rw[e];exact Vf
 simp only[aI a];simp only[↓X9,X0,seval,X2,fG,ir,dT,fa,gM,cO];have e:yo s fl r=x:=by
  rcases T with h|h
  ·exact absurd h.cd a
  exact h.2.symm
 refine⟨.fJ [.agg [.i .i64 0,.i .i64 0,.b false,.s [],.s an,.s tg,.i .i64 0,.i .i64 0],.b b],(fk s (yo s fl r) ((yo s fl r).pos:Nat) (if b=true then(g:Int)else l)),⟨_,an,tg,b,fun h=>absurd h (by rw[e];exact a),rfl,rfl⟩, ?_⟩;rw[e];exact Vf
end Go.T
end
