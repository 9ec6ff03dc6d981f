/- Own text: part VBA. -/
import Derived.Test.YtgippllfnmdnpaaGreatDoorVAZ
set_option linter.all false
section
namespace Go.T
variable[Go.Vg.df][Go.Vg.cS 0 1]
open Go.Proofs Go.Vg Go.RowKit Go.TT Go.Pl
set_option maxRecDepth 10000
set_option maxHeartbeats 4000000
theorem AU(s:Bs)(r:Rd)(fr:Bool)(la:Int)(fl:Bool)(hp:s.length<=1048576/\r.cd=0/\r.pos<=s.length/\(r.hd.length<=1048576/\∀h∈r.hd,h.pre.length<=1048576)):gQ Tryz.prog 278 5 [.ptr 0 0 0,.b fl] (iF s (r) fr la) (fun z c=>z=.fJ [.agg [.b (ia s fl r).has,.s (ia s fl r).an,.s (ia s fl r).tg,.i .i64 (r.pos:Nat),.i .i64 ((ia s fl r).en:Nat)],.b (decide ((iP s fl r).cd=0))]/\c=(iF s (iP s fl r) fr la)):=by
 refine l5 dv.d 38 [[0,1,4],[0,1,4,6],[0,1,4,6,7],[0,1,4,6,31],[4,5],[0,1,4,6,36],[4,5]] Tryz.func278 [.cell 4 221,.tmp 5] (fun _=>false) [] [(1,[],[],qa (.q0 3 [3] (.q0 7 [7] (.q1 8 (.de 9 (.de 10 .fin .fin) .fin))))),(2,[],[],qa (.q0 3 [3] (.q0 7 [7] (.de 8 (.q1 9 .fin) .fin))))] ?_;simp only[↓XC,X1,seval,X2,bL];obtain⟨t,d,i,l,m⟩:=hp;refine⟨by decide +kernel, ?_⟩;refine cF.of (ι:={x:Nat×Pp // x.1<=s.length/\lk s r.hd fl x.1 x.2=lk s r.hd fl r.pos (kF r.pos)}) (fun x=>⟨[(0,.ptr 0 0 0),(1,.b fl),(4,.ptr 5 0 0),(6,.ptr 6 0 0)],[some (.gA false [.s s,.i .i64 (x.1.1:Nat),.ew 1 0 (r).ev.length,.ew 2 0 (r).ev.length,.mp 3,.ew 4 0 (r).hd.length,.i .i64 ((r).dp:Nat),.i .i64 (r).cd,.i .i64 ((r).pl:Nat),.b fr,.i .i64 la]),some (.row false 8 (r).ev.length (bT jO ec (r).ev)),some (.row false 1 (r).ev.length (bT mL false (r).dn)),some (.jY (xL (r).ev (r).bs)),some (.row false 2 (r).hd.length (bT kl lO (r).hd)),some (.gA false [.b false,.s [],.s [],.i .i64 0,.i .i64 0]),some (.gA false [.b x.1.2.has,.s x.1.2.an,.s x.1.2.tg,.i .i64 (r.pos:Nat),.i .i64 (x.1.2.en:Nat)])]⟩) (fun x=>s.length-x.1.1) ⟨(r.pos,kF r.pos),i,rfl⟩ (cG.refl _ _) ?_;rintro⟨⟨x,p⟩,j,k⟩;simp only[↓XC,X1,seval,X2,bL];simp only at j k;rw[bQ s j];have u:(!decide (bW s x=38)&&!decide (bW s x=33))=!lA s x:=by unfold lA;rw[Bool.decide_or,Bool.not_or]
 rw[u];refine⟨by decide +kernel,bH.mk t fun _=>⟨fun h=>?_,fun h=>?_⟩⟩
 ·have q:lk s r.hd fl r.pos (kF r.pos)=(x,p,0):=by rw[<-k,lk,cV (by rintro⟨g,_⟩;rw[g]at h;cases h),aA (by intro g;rw[g]at h;cases h)]
  simp only[iP,ia,q,atR,reduceIte,aJ d];exact Wf
 have a:lA s x=true:=by simpa using h
 obtain⟨e,an,tg,f⟩:=p;refine eS.mut (Mx s (atR r x) fr la fl e an tg (r.pos:Nat) f ⟨t,d,j,a,l,m⟩) rfl [0,1,2,3,4,6] (by simp[Yf]) (by simp only[Ye];exact⟨by omega,aM (by simp[Yf,Yh]),by omega,aF fun _=>rfl,by omega,aF fun _=>rfl,by omega,cB,by omega,aF fun _=>rfl,by omega,aM (by simp[Yf])⟩) (by decide) ?_;simp only[↓XC,X1,seval,X2,XM];by_cases b:(lq s r.hd fl x (⟨e,an,tg,f⟩:Pp)).2=0
 ·simp only[fM,b,reduceIte,atR,aJ d,dQ,bU,ei,cP,eV];have o:=mE j b;have n:=o3 (s:=s) (fl:=fl) o.2.1;refine⟨⟨(HO s fl (lq s r.hd fl x (⟨e,an,tg,f⟩:Pp)).1.en,(lq s r.hd fl x (⟨e,an,tg,f⟩:Pp)).1),n.2, ?_⟩,by simp only;have:=uQ a;omega, ?_⟩
  ·simp only;rw[<-k]
   conv=>rhs;rw[lk,bV ⟨a,b⟩]
  exact(cG.cT [0,1,2,3,4,5,6] (by decide) (by simp only[Yd];exact⟨aM (by simp[Yf,Yh]),aF fun _=>rfl,aF fun _=>rfl,cB,aF fun _=>rfl,aM (by simp[Yf]),aM (by simp[Yf])⟩) (by simp[bC,Vg.look,SV.bP,dX]))
 simp only[fM,aA b,reduceIte,atR,er,aI b,ej,fL,ei,dD,eV];have q:lk s r.hd fl r.pos (kF r.pos)=(x,(lq s r.hd fl x (⟨e,an,tg,f⟩:Pp)).1,(lq s r.hd fl x (⟨e,an,tg,f⟩:Pp)).2):=by rw[<-k,lk,cV (fun g=>b g.2),aB a]
 simp only[iP,ia,q,atR,er,aA b,aI b];exact Wf
theorem K8(s:Bs)(r:Rd)(fr:Bool)(la:Int)(k st:Int)(a:Bool)(an tg:Bs)(pf:Int)(d:Nat)(sg:Nat)(hp:r.ev.length<=16777216/\r.dn.length=r.ev.length/\r.bs<=r.ev.length/\r.cd=0/\(k=3\/k=4)/\r.dp<=40):gQ Tryz.prog 313 1 [.ptr 0 0 0,.i .i64 k,.i .i64 st,.agg [.b a,.s an,.s tg,.i .i64 pf,.i .i64 (d:Nat)],.i .i64 (sg:Nat)] (iF s (r) fr la) (fun z c=>z=.fJ [.i .i64 (if 40<=r.dp then 0 else r.ev.length:Nat),.b (decide ((jt r k st (⟨a,an,tg,d⟩:Pp) sg).cd=0))]/\c=(iF s (jt r k st (⟨a,an,tg,d⟩:Pp) sg) fr la)):=by
 refine HE pn 36 [[0,1,2,4,8],[0,1,2,4,8,16],[10,11],[0,1,2,8],[10,11]] Tryz.func313 [.tmp 10,.tmp 11] ?_;simp only[↓XC,X1,seval,X2];have b:=hp.2.2.2.1;have f:(!decide (k=3)&&!decide (k=4))=false:=by rcases hp.2.2.2.2.1 with h|h<;>rw[h]<;>rfl
 refine⟨fun h=>?_,fun h=>CR fun _=>?_⟩
 ·have e:jt r k st (⟨a,an,tg,d⟩:Pp) sg=er r 12 sg:=by unfold jt;rw[aB (by omega)]
  refine Wm (gP s r fr la 12 sg b) ?_;simp only[↓XC,X1,seval,X2,XM];simp only[e,er,aB (show 40<=r.dp by omega),Int.reduceEq,dS];exact Wf
 have e:jt r k st (⟨a,an,tg,d⟩:Pp) sg={ bB r (oQ k st an tg) false with dp:=r.dp+1 }:=by unfold jt;rw[aA (by omega)]
 refine Wb (s3 s { r with dp:=r.dp+1 } fr la k st false [] an tg 0 0 ⟨hp.1,hp.2.1,hp.2.2.1⟩) ?_;simp only[↓XC,X1,seval,X2,XM];simp only[e,bB,oQ,aA (show ¬40<=r.dp by omega),f,aJ b,aC,aK,aL,aX];exact Wf
theorem Pe(s:Bs)(r:Rd)(fr:Bool)(la:Int)(k:Nat)(hp:r.ev.length<=16777216/\r.dn.length=r.ev.length/\r.bs<=r.ev.length/\k<r.ev.length/\0<r.dp/\r.dp<=40):gQ Tryz.prog 343 1 [.ptr 0 0 0,.i .i64 (k:Nat)] (iF s (r) fr la) (fun z c=>z=.fJ []/\c=(iF s (mH r k) fr la)):=by refine HE pn 20 [[0,1],[0,1],[]] Tryz.func343 [] ?_;simp only[↓XC,X1,seval,X2];refine CR fun _=>?_;rw[show(r.dp:Int)-1=((r.dp-1:Nat):Int) by omega];refine Wb (s3 s { r with dp:=r.dp-1 } fr la 7 0 false [] [] [] 0 0 ⟨hp.1,hp.2.1,hp.2.2.1⟩) ?_;simp only[↓XC,X1,seval,X2,XM];refine CO fun _=>CO fun _=>?_;simp only[mH,show(!decide ((7:Int)=3)&&!decide ((7:Int)=4))=true from rfl,aC,aK,aL,aX];exact⟨[0,1,2,3,4],by decide,by simp only[Yd];exact⟨aM (by simp[Yf]),aF fun _=>rfl,bM fun j a=>by(simp only[bT,mL,Cs _ _ _ _ _ (show k<(r.dn++[true]).length by simp;omega)];split<;>rfl),cB,aF fun _=>rfl⟩,by simp only[↓XC,X1,seval];try first|rfl|simp[Yf],by simp[da,SO.ro,YC],by simp⟩
theorem EC(s:Bs)(r:Rd)(fr:Bool)(la:Int)(i:Bool)(an tg:Bs)(pf:Int)(C:Nat)(hp:s.length<=1048576/\r.ev.length<=16777216/\r.dn.length=r.ev.length/\r.bs<=r.ev.length/\r.cd=0/\r.pos<=s.length):gQ Tryz.prog 319 1 [.ptr 0 0 0,.agg [.b i,.s an,.s tg,.i .i64 pf,.i .i64 (C:Nat)]] (iF s (r) fr la) (fun z c=>z=.b (decide ((oP s r i).cd=0))/\c=(iF s (oP s r i) fr la)):=by
 refine l5 nj.d 76 [[0,3],[0,3,5,6,7],[0,3,5,6,23],[4],[0,5,6,32],[4],[0,5,6,8,9],[0,5,6,61],[4],[0,6],[],[4]] Tryz.func319 [.tmp 4] (fun _=>false) [] [(1,[],[],qa (.q0 3 [3] (.q0 7 [7] (.de 8 (qg .fin) .fin))))] ?_;simp only[↓XC,X1,seval,X2,ni];obtain⟨x,p,q,t,a,m⟩:=hp;rw[bQ s m];have j:=Q8 (l:=r.ev) (d:=r.dn) (b:=r.bs) (name:=(jm s r.pos).1);refine⟨by decide +kernel,bH.mk x fun _=>⟨fun n=>?_,fun n=>⟨fun o=>?_,fun o=>?_⟩⟩⟩
 ·have e:oP s r i=er r 7 r.pos:=by unfold oP;rw[aB (by simpa using n)]
  rw[e];refine Wm (gP s r fr la 7 r.pos a) ?_;simp only[↓XC,X1,seval,X2,XM];exact Wf
 ·have e:oP s r i=er r 16 r.pos:=by unfold oP;rw[aA (by simpa using n),aB o]
  rw[e];refine Wm (gP s r fr la 16 r.pos a) ?_;simp only[↓XC,X1,seval,X2,XM];exact Wf
 have f:¬(jm s r.pos).2.2=false:=by simpa using n
 have w:=j1 (by simpa using f);have v:((jm s r.pos).2.1.toNat:Int)=(jm s r.pos).2.1:=by omega
 subst o;have g:Qq r.ev r.dn r.bs (jm s r.pos).1=false->oP s r false=er r 14 r.pos:=fun h=>by unfold oP;rw[aA f,aA (by simp),aA (by rw[h];simp)]
 rcases u:lookS (xL r.ev r.bs) (jm s r.pos).1 with _|k
 ·have e:=g (j.1 u);refine bH.mk (fun h=>by simp at h) fun _=>bH.mk (fun h=>by simp at h) fun _=>⟨fun _=>?_,fun h=>by simp at h⟩
  rw[e];refine Wm (gP s r fr la 14 r.pos a) ?_;simp only[↓XC,X1,seval,X2,XM];exact Wf
 obtain⟨y,A,B⟩:=j.2 k u;simp only[fK,Option.isSome_some,dQ,cX,<-B];refine bH.mk (fun _=>⟨y,A⟩) fun _=>bH.mk (fun _=>by omega) fun _=>⟨fun h=>?_,fun h=>?_⟩
 ·rw[g (by simpa using h)];refine Wm (gP s r fr la 14 r.pos a) ?_;simp only[↓XC,X1,seval,X2,XM];exact Wf
 have e:oP s r false=atR (bB r (FL (jm s r.pos).1) true) (jm s r.pos).2.1.toNat:=by unfold oP;rw[aA f,aA (by simp),aB (by simpa using h)]
 rw[e];refine Wb (s3 s r fr la 6 0 false (jm s r.pos).1 [] [] 0 0 ⟨p,q,t⟩) ?_;simp only[↓XC,X1,seval,X2,XM];simp only[aJ a,atR,bB,FL,v,aC,aK,aL,aX];exact Wf (by simp only[↓XC,X1,seval];try simp[Yf,a])
theorem EJ(s:Bs)(r:Rd)(fr:Bool)(la:Int)(d:Bool)(an tg:Bs)(pf:Int)(g:Nat)(hp:s.length<=1048576/\r.ev.length<=16777216/\r.dn.length=r.ev.length/\r.bs<=r.ev.length/\r.cd=0/\r.pos<s.length):gQ Tryz.prog 320 1 [.ptr 0 0 0,.agg [.b d,.s an,.s tg,.i .i64 pf,.i .i64 (g:Nat)]] (iF s (r) fr la) (fun z c=>z=.b (decide ((oR s r (⟨d,an,tg,g⟩:Pp)).cd=0))/\c=(iF s (oR s r (⟨d,an,tg,g⟩:Pp)) fr la)):=by
 refine l5 (pc.c o5.d) 60 [[0,3],[0,3,5],[0,3,5,6,7,8],[0,3,5,6,7,8,31],[0,3,5],[0,3,5,6,7,8],[0,3,5,6,7,8,46],[4],[0,7],[],[4]] Tryz.func320 [.tmp 4] (fun _=>false) [] [(2,[],[],qa (.q0 3 [3] (.q0 7 [7] (.de 8 (qg .fin) .fin)))),(3,[],[],qa (.q0 3 [3] (.q0 7 [7] (qd .fin)))),(5,[],[],qa (.q0 3 [3] (.q0 7 [7] (.de 8 (qg .fin) .fin))))] ?_;simp only[↓XC,X1,seval,X2,pb,o4];obtain⟨n,j,k,l,f,h⟩:=hp;rw[bQ s (cJ h),<-cW h];refine⟨by decide +kernel,bH.mk n fun _=>⟨by decide +kernel,CO fun _=>⟨fun a=>⟨by decide +kernel,bH.mk n fun _=>?_⟩,fun a=>?_⟩⟩⟩
 ·have m:sv s r.pos=nC s r.pos:=by unfold sv;rw[aB a]
  refine⟨fun b=>?_,fun b=>?_⟩
  ·have e:oR s r (⟨d,an,tg,g⟩:Pp)=er r (nC s r.pos).2.2 (nC s r.pos).2.1:=by unfold oR;rw[m,aB (by simpa using b)]
   have i:¬(nC s r.pos).2.2=0:=by simpa using b
   rw[e];refine Wm (gP s r fr la (nC s r.pos).2.2 (nC s r.pos).2.1 f) ?_;simp only[↓XC,X1,seval,X2,XM];exact Wf (by simp only[↓XC,X1,seval];try simp[Yf,i])
  have e:oR s r (⟨d,an,tg,g⟩:Pp)=atR (cY r 3 (nC s r.pos).1 an tg) (nC s r.pos).2.1:=by unfold oR;rw[m,aA (by simpa using b),aB a]
  rw[e];refine Wb (r5 s r fr la 3 (nC s r.pos).1 d an tg pf g ⟨j,k,l⟩) ?_;simp only[↓XC,X1,seval,X2,XM];try simp only[atR,cY,bB,aC,aK,aL,aX]
  exact Wf (by simp only[↓XC,X1,seval];try simp[Yf,f])
 have m:sv s r.pos=ny s r.pos:=by unfold sv;rw[aA a]
 refine⟨fun b=>?_,fun b=>?_⟩
 ·have e:oR s r (⟨d,an,tg,g⟩:Pp)=er r (ny s r.pos).2.2 (ny s r.pos).2.1:=by unfold oR;rw[m,aB (by simpa using b)]
  have i:¬(ny s r.pos).2.2=0:=by simpa using b
  rw[e];refine Wm (gP s r fr la (ny s r.pos).2.2 (ny s r.pos).2.1 f) ?_;simp only[↓XC,X1,seval,X2,XM];exact Wf (by simp only[↓XC,X1,seval];try simp[Yf,i])
 have e:oR s r (⟨d,an,tg,g⟩:Pp)=atR (cY r 2 (ny s r.pos).1 an tg) (ny s r.pos).2.1:=by unfold oR;rw[m,aA (by simpa using b),aA a]
 rw[e];refine Wb (r5 s r fr la 2 (ny s r.pos).1 d an tg pf g ⟨j,k,l⟩) ?_;simp only[↓XC,X1,seval,X2,XM];try simp only[atR,cY,bB,aC,aK,aL,aX]
 exact Wf (by simp only[↓XC,X1,seval];try simp[Yf,f])
theorem IZ(s:Bs)(r:Rd)(fr:Bool)(la:Int)(b:Bool)(an tg:Bs)(pf:Int)(g:Nat)(n:Int)(fl:Bool)(hp:s.length<=1048576/\r.ev.length<=16777216/\r.dn.length=r.ev.length/\r.bs<=r.ev.length/\r.pos<=s.length):gQ Tryz.prog 321 1 [.ptr 0 0 0,.agg [.b b,.s an,.s tg,.i .i64 pf,.i .i64 (g:Nat)],.i .i64 n,.b fl] (iF s (r) fr la) (fun z c=>z=.b true/\c=(iF s (E4 s r (⟨b,an,tg,g⟩:Pp) n fl) fr la)):=by refine l5 yi.d 35 [[0,2,3,5],[0,5,9,10],[0,10],[],[8]] Tryz.func321 [.tmp 8] (fun _=>false) [] [(1,[],[],qa (qd (.q0 3 [3] (.q0 7 [7] (.de 10 (.q1 11 (.q1 12 (.q1 13 (.q1 14 (.q1 15 (.q1 16 (.q1 17 .fin))))))) .fin)))))] ?_;simp only[↓XC,X1,seval,X2,yh];obtain⟨h,d,e,f,a⟩:=hp;rw[bQ s a];refine⟨by decide +kernel,bH.mk h fun _=>?_⟩;refine Wb (r5 s r fr la 1 (AK s r.pos n fl).1 b an tg pf g ⟨d,e,f⟩) ?_;simp only[↓XC,X1,seval,X2,XM];simp only[E4,atR,cY,bB,aC,aK,aL,aX];exact Wf
end Go.T
end
section
namespace Go.T
variable[Go.Vg.df][Go.Vg.cS 0 1]
open Go.Proofs Go.Vg Go.RowKit Go.TT Go.Pl
set_option maxRecDepth 10000
set_option maxHeartbeats 4000000
theorem sC(s:Bs)(r:Rd)(fr:Bool)(la:Int)(it:Rd->Rd)(D:Bool)(an tg:Bs)(pf:Int)(E:Nat)(HI:r.dp<40->(kw s (r.dp+1) it/\∀S:Rd,Ok s S->S.dp=r.dp+1->mg Tryz.prog 356 s fr la [] S (it S)))(hp:s.length<=1048576/\Ok s r/\r.pos<s.length):gQ Tryz.prog 348 1 [.ptr 0 0 0,.agg [.b D,.s an,.s tg,.i .i64 pf,.i .i64 (E:Nat)]] (iF s (r) fr la) (fun z c=>z=.b (decide ((qO s it 93 3 r (⟨D,an,tg,E⟩:Pp)).cd=0))/\c=(iF s (qO s it 93 3 r (⟨D,an,tg,E⟩:Pp)) fr la)):=by
 refine l5 pn 62 [[0,3],[0,5,6],[0,5,18],[4],[0,5],[0,5,28],[4],[0,5,38],[0,5],[],[4],[0,5,61],[4]] Tryz.func348 [.tmp 4] (fun i=>i==11) [] [(1,[],[],.q1 0 (.q1 2 (.q1 3 (.q1 4 (.q0 1 [1,6,7,8,9,10,11] (.q0 5 [5,6,7,8,9,10,11] (.de 6 (.de 7 (.de 8 (.de 9 (.seq [10,11]) (.de 10 (.seq [9,11]) .fin)) (.de 9 (.seq [8,10,11]) .fin)) .fin) .fin))))))),(7,[],[],qa (.q0 3 [3] (.q0 7 [7] (qd .fin))))] ?_;simp only[↓XC,X1,reduceIte,Nat.reduceAdd,Nat.reduceLT,Nat.reduceEqDiff,Nat.reduceBEq,Nat.reduceLeDiff,reduceCtorEq,Nat.reduceSub,Nat.reduceMul,Int.reduceToNat,Int.reduceLT,Int.reduceLE,X2];obtain⟨L,v,Y⟩:=hp;have af:=v.size L;obtain⟨ro,w⟩:∃ro,ro=jt r 3 6 (⟨D,an,tg,E⟩:Pp) r.pos:=⟨_,rfl⟩
 refine⟨by decide +kernel, ?_⟩;refine Wb (K8 s r fr la 3 6 D an tg pf E r.pos ⟨by omega,v.dn,v.bs,v.cd,by decide,v.dp⟩) ?_;simp only[↓XC,X1,reduceIte,Nat.reduceAdd,Nat.reduceLT,Nat.reduceEqDiff,Nat.reduceBEq,Nat.reduceLeDiff,reduceCtorEq,Nat.reduceSub,Nat.reduceMul,Int.reduceToNat,Int.reduceLT,Int.reduceLE,X2,XM];rw[<-w];have hP:ro.cd=0->Ok s (atR ro (r.pos+1))/\ro.dp=r.dp+1/\ro.pos=r.pos/\r.ev.length<ro.ev.length/\r.dp<40:=fun h=>by rw[w]at h;obtain⟨e,hd⟩:=pQ h;have h9:=v.sz;rw[w,e];refine⟨⟨v.cd,Y,by simp[atR,bB,v.dn],by simp only[atR,bB,aC];have:=v.bs;omega,by simp only[atR];omega,by simp only[atR,bB,aC,aH];omega,v.hd,v.pf⟩,rfl,rfl,by simp[bB],hd⟩
 have hC:qO s it 93 3 r (⟨D,an,tg,E⟩:Pp)=if ro.cd≠0 then ro else qN s it 93 r.ev.length (atR ro (r.pos+1)):=by rw[w];rfl
 refine⟨⟨?_, ?_⟩, ?_⟩;all_goals
  refine⟨fun h=>?_,fun h=>?_⟩
  ·have u:¬ro.cd=0:=by simpa using h
   rw[hC,aB u,aI u];exact Wf (by simp only[↓XC,X1,reduceIte,Nat.reduceAdd,Nat.reduceLT,Nat.reduceEqDiff,Nat.reduceBEq,Nat.reduceLeDiff,reduceCtorEq,Nat.reduceSub,Nat.reduceMul,Int.reduceToNat,Int.reduceLT,Int.reduceLE];try first|rfl|simp[Yf])
  have hz:ro.cd=0:=by simpa using h
  obtain⟨Z,U,aa,V,F⟩:=hP hz;rw[aa,aA (show ¬40<=r.dp by omega)];rw[aA (by simp[hz])]at hC;rw[hC];obtain⟨R,hR⟩:∃R,R=qN s it 93 r.ev.length (atR ro (r.pos+1)):=⟨_,rfl⟩
  rw[<-hR];obtain⟨hit,HN⟩:=HI F;refine CR fun _=>?_;refine cF.of (ι:={x:Rd // Ok s x/\x.dp=r.dp+1/\r.ev.length<x.ev.length/\qN s it 93 r.ev.length x=R}) (fun x=>⟨[(0,.ptr 0 0 0),(5,.i .i64 (r.ev.length:Nat))],(iF s (x.1) fr la)⟩) (fun x=>s.length-x.1.pos) ⟨atR ro (r.pos+1),Z,U,V,hR.symm⟩ (cG.cT [0,1,2,3,4] (by decide) (by simp only[Yd];exact⟨aM (by simp[Yf,Yh]),aF fun _=>rfl,aF fun _=>rfl,cB,aF fun _=>rfl⟩) (by simp[bC,Vg.look,SV.bP,dX])) ?_;rintro⟨x,Q,B,P,ab⟩;simp only[YC];simp only[↓XC,X1,reduceIte,Nat.reduceAdd,Nat.reduceLT,Nat.reduceEqDiff,Nat.reduceBEq,Nat.reduceLeDiff,reduceCtorEq,Nat.reduceSub,Nat.reduceMul,Int.reduceToNat,Int.reduceLT,Int.reduceLE,X2];obtain⟨g,b⟩:∃g,g=cL s x:=⟨_,rfl⟩
  refine Wm (Mw s x fr la ⟨L,Q.cd,Q.pos⟩) ?_;simp only[↓XC,X1,reduceIte,Nat.reduceAdd,Nat.reduceLT,Nat.reduceEqDiff,Nat.reduceBEq,Nat.reduceLeDiff,reduceCtorEq,Nat.reduceSub,Nat.reduceMul,Int.reduceToNat,Int.reduceLT,Int.reduceLE,X2,XM];rw[<-b,<-ab];refine⟨fun T=>?_,fun T=>?_⟩
  ·have u:¬g.cd=0:=by simpa using T
   rw[pC (by rw[<-b];exact u),<-b,aI u];exact Wf (by simp only[↓XC,X1,reduceIte,Nat.reduceAdd,Nat.reduceLT,Nat.reduceEqDiff,Nat.reduceBEq,Nat.reduceLeDiff,reduceCtorEq,Nat.reduceSub,Nat.reduceMul,Int.reduceToNat,Int.reduceLT,Int.reduceLE];try first|rfl|simp[Yf])
  have f:(cL s x).cd=0:=by rw[<-b];simpa using T
  obtain⟨y,W⟩:=gm f;have j:Ok s g:=by rw[b];exact Q.gN f
  have H:g.dp=r.dp+1:=by rw[b,y];exact B
  have I:g.ev=x.ev:=by rw[b,y];rfl
  have X:g.pos<s.length:=by rw[b,y];exact W
  have J:=j.size L;rw[<-cW X];refine⟨by decide +kernel,CO fun _=>⟨fun C=>CR fun _=>?_,fun C=>?_⟩⟩
  ·rw[pB f (by rw[<-b];exact C),<-b];refine Wb (Pe s (atR g (g.pos+1)) fr la r.ev.length ⟨cv J (by decide),j.dn,j.bs,by rw[show(atR g (g.pos+1)).ev=x.ev from I];exact P,by show 0<g.dp;omega,j.dp⟩) ?_;simp only[↓XC,X1,reduceIte,Nat.reduceAdd,Nat.reduceLT,Nat.reduceEqDiff,Nat.reduceBEq,Nat.reduceLeDiff,reduceCtorEq,Nat.reduceSub,Nat.reduceMul,Int.reduceToNat,Int.reduceLT,Int.reduceLE,X2,XM];simp only[mH,aC,aK,aL,aX];exact Wf (by simp only[↓XC,X1,reduceIte,Nat.reduceAdd,Nat.reduceLT,Nat.reduceEqDiff,Nat.reduceBEq,Nat.reduceLeDiff,reduceCtorEq,Nat.reduceSub,Nat.reduceMul,Int.reduceToNat,Int.reduceLT,Int.reduceLE];try simp[Yf,j.cd])
  obtain⟨t,A⟩:∃t,t=it g:=⟨_,rfl⟩
  have hN:=HN g j H;unfold mg iF at hN;refine Wb (hN) ?_;simp only[↓XC,X1,reduceIte,Nat.reduceAdd,Nat.reduceLT,Nat.reduceEqDiff,Nat.reduceBEq,Nat.reduceLeDiff,reduceCtorEq,Nat.reduceSub,Nat.reduceMul,Int.reduceToNat,Int.reduceLT,Int.reduceLE,X2,XM];rw[<-A];by_cases k:t.cd=0
  ·simp only[aJ k];simp only[↓X9,X0,reduceIte,Nat.reduceAdd,Nat.reduceLT,Nat.reduceEqDiff,Nat.reduceBEq,Nat.reduceLeDiff,reduceCtorEq,Nat.reduceSub,Nat.reduceMul,Int.reduceToNat,Int.reduceLT,Int.reduceLE,X2];have m:(it (cL s x)).cd=0:=by rw[<-b,<-A];exact k
   have M:=hit g j H (by rw[<-A];exact k);rw[<-A]at M;have O:=M.ok;obtain⟨g2,o⟩:∃g2,g2=cL s t:=⟨_,rfl⟩
   have l:g2=cL s (it (cL s x)):=by rw[o,A,b]
   refine Wm (Mw s t fr la ⟨L,k,O.pos⟩) ?_;simp only[↓XC,X1,reduceIte,Nat.reduceAdd,Nat.reduceLT,Nat.reduceEqDiff,Nat.reduceBEq,Nat.reduceLeDiff,reduceCtorEq,Nat.reduceSub,Nat.reduceMul,Int.reduceToNat,Int.reduceLT,Int.reduceLE,X2,XM];rw[<-o];by_cases d:g2.cd=0
   ·simp only[aJ d];simp only[↓X9,X0,reduceIte,Nat.reduceAdd,Nat.reduceLT,Nat.reduceEqDiff,Nat.reduceBEq,Nat.reduceLeDiff,reduceCtorEq,Nat.reduceSub,Nat.reduceMul,Int.reduceToNat,Int.reduceLT,Int.reduceLE,X2];have q:(cL s (it (cL s x))).cd=0:=by rw[<-l];exact d
    have ad:Ok s g2:=by rw[o];exact O.gN (by rw[<-o];exact d)
    have G:g2.pos<s.length:=by obtain⟨e9,h9⟩:=gm (s:=s) (r:=t) (by rw[<-o];exact d);rw[o,e9];exact h9
    obtain⟨t2,N⟩:∃t2,t2=ly s g2 93:=⟨_,rfl⟩
    have a:t2=ly s (cL s (it (cL s x))) 93:=by rw[N,l]
    refine Wm (O2 s g2 fr la 93 ⟨L,d,G⟩) ?_;simp only[↓XC,X1,reduceIte,Nat.reduceAdd,Nat.reduceLT,Nat.reduceEqDiff,Nat.reduceBEq,Nat.reduceLeDiff,reduceCtorEq,Nat.reduceSub,Nat.reduceMul,Int.reduceToNat,Int.reduceLT,Int.reduceLE,X2,XM];rw[show(((93:UInt8).toNat:Nat):Int)=93 from rfl,<-N];by_cases n:t2.cd=0
    ·simp only[aJ n];simp only[↓X9,X0,reduceIte,Nat.reduceAdd,Nat.reduceLT,Nat.reduceEqDiff,Nat.reduceBEq,Nat.reduceLeDiff,reduceCtorEq,Nat.reduceSub,Nat.reduceMul,Int.reduceToNat,Int.reduceLT,Int.reduceLE,X2];have p:=mM hit Q B f m q (by rw[<-a];exact n);rw[<-a]at p;have K:=p.lt;have ae:=p.ok.pos;refine⟨⟨t2,p.ok,p.dp.trans B,dA P p.pre.length_le, ?_⟩,by simp only;omega, ?_⟩
     ·rw[tk f (by rw[<-b];exact C) m q ⟨by rw[<-a];exact n,by rw[<-a];exact K,by omega⟩,<-a]
     exact(cG.cT [0,1,2,3,4] (by decide) (by simp only[Yd];exact⟨aM (by simp[Yf,Yh]),aF fun _=>rfl,aF fun _=>rfl,cB,aF fun _=>rfl⟩) (by simp[bC,Vg.look,SV.bP,dX]))
    simp only[aI n];simp only[↓X9,X0,reduceIte,Nat.reduceAdd,Nat.reduceLT,Nat.reduceEqDiff,Nat.reduceBEq,Nat.reduceLeDiff,reduceCtorEq,Nat.reduceSub,Nat.reduceMul,Int.reduceToNat,Int.reduceLT,Int.reduceLE,X2];rw[th f (by rw[<-b];exact C) m q (by rw[<-a];exact n),<-a,aI n];exact Wf (by simp only[↓XC,X1,reduceIte,Nat.reduceAdd,Nat.reduceLT,Nat.reduceEqDiff,Nat.reduceBEq,Nat.reduceLeDiff,reduceCtorEq,Nat.reduceSub,Nat.reduceMul,Int.reduceToNat,Int.reduceLT,Int.reduceLE];try first|rfl|simp[Yf])
   simp only[aI d];simp only[↓X9,X0,reduceIte,Nat.reduceAdd,Nat.reduceLT,Nat.reduceEqDiff,Nat.reduceBEq,Nat.reduceLeDiff,reduceCtorEq,Nat.reduceSub,Nat.reduceMul,Int.reduceToNat,Int.reduceLT,Int.reduceLE,X2];rw[tj f (by rw[<-b];exact C) m (by rw[<-l];exact d),<-l,aI d];exact Wf (by simp only[↓XC,X1,reduceIte,Nat.reduceAdd,Nat.reduceLT,Nat.reduceEqDiff,Nat.reduceBEq,Nat.reduceLeDiff,reduceCtorEq,Nat.reduceSub,Nat.reduceMul,Int.reduceToNat,Int.reduceLT,Int.reduceLE];try first|rfl|simp[Yf])
  simp only[aI k];simp only[↓X9,X0,reduceIte,Nat.reduceAdd,Nat.reduceLT,Nat.reduceEqDiff,Nat.reduceBEq,Nat.reduceLeDiff,reduceCtorEq,Nat.reduceSub,Nat.reduceMul,Int.reduceToNat,Int.reduceLT,Int.reduceLE,X2];rw[tm f (by rw[<-b];exact C) (by rw[<-b,<-A];exact k),<-b,<-A,aI k];exact Wf (by simp only[↓XC,X1,reduceIte,Nat.reduceAdd,Nat.reduceLT,Nat.reduceEqDiff,Nat.reduceBEq,Nat.reduceLeDiff,reduceCtorEq,Nat.reduceSub,Nat.reduceMul,Int.reduceToNat,Int.reduceLT,Int.reduceLE];try first|rfl|simp[Yf])
theorem vu(s:Bs)(r:Rd)(fr:Bool)(la:Int)(it:Rd->Rd)(D:Bool)(an tg:Bs)(pf:Int)(E:Nat)(HI:r.dp<40->(kw s (r.dp+1) it/\∀S:Rd,Ok s S->S.dp=r.dp+1->mg Tryz.prog 358 s fr la [] S (it S)))(hp:s.length<=1048576/\Ok s r/\r.pos<s.length):gQ Tryz.prog 349 1 [.ptr 0 0 0,.agg [.b D,.s an,.s tg,.i .i64 pf,.i .i64 (E:Nat)]] (iF s (r) fr la) (fun z c=>z=.b (decide ((qO s it 125 4 r (⟨D,an,tg,E⟩:Pp)).cd=0))/\c=(iF s (qO s it 125 4 r (⟨D,an,tg,E⟩:Pp)) fr la)):=by
 refine l5 pn 62 [[0,3],[0,5,6],[0,5,18],[4],[0,5],[0,5,28],[4],[0,5,38],[0,5],[],[4],[0,5,61],[4]] Tryz.func349 [.tmp 4] (fun i=>i==11) [] [(1,[],[],.q1 0 (.q1 2 (.q1 3 (.q1 4 (.q0 1 [1,6,7,8,9,10,11] (.q0 5 [5,6,7,8,9,10,11] (.de 6 (.de 7 (.de 8 (.de 9 (.seq [10,11]) (.de 10 (.seq [9,11]) .fin)) (.de 9 (.seq [8,10,11]) .fin)) .fin) .fin))))))),(7,[],[],qa (.q0 3 [3] (.q0 7 [7] (qd .fin))))] ?_;simp only[↓XC,X1,reduceIte,Nat.reduceAdd,Nat.reduceLT,Nat.reduceEqDiff,Nat.reduceBEq,Nat.reduceLeDiff,reduceCtorEq,Nat.reduceSub,Nat.reduceMul,Int.reduceToNat,Int.reduceLT,Int.reduceLE,X2];obtain⟨L,v,Y⟩:=hp;have af:=v.size L;obtain⟨ro,w⟩:∃ro,ro=jt r 4 6 (⟨D,an,tg,E⟩:Pp) r.pos:=⟨_,rfl⟩
 refine⟨by decide +kernel, ?_⟩;refine Wb (K8 s r fr la 4 6 D an tg pf E r.pos ⟨by omega,v.dn,v.bs,v.cd,by decide,v.dp⟩) ?_;simp only[↓XC,X1,reduceIte,Nat.reduceAdd,Nat.reduceLT,Nat.reduceEqDiff,Nat.reduceBEq,Nat.reduceLeDiff,reduceCtorEq,Nat.reduceSub,Nat.reduceMul,Int.reduceToNat,Int.reduceLT,Int.reduceLE,X2,XM];rw[<-w];have hP:ro.cd=0->Ok s (atR ro (r.pos+1))/\ro.dp=r.dp+1/\ro.pos=r.pos/\r.ev.length<ro.ev.length/\r.dp<40:=fun h=>by rw[w]at h;obtain⟨e,hd⟩:=pQ h;have h9:=v.sz;rw[w,e];refine⟨⟨v.cd,Y,by simp[atR,bB,v.dn],by simp only[atR,bB,aC];have:=v.bs;omega,by simp only[atR];omega,by simp only[atR,bB,aC,aH];omega,v.hd,v.pf⟩,rfl,rfl,by simp[bB],hd⟩
 have hC:qO s it 125 4 r (⟨D,an,tg,E⟩:Pp)=if ro.cd≠0 then ro else qN s it 125 r.ev.length (atR ro (r.pos+1)):=by rw[w];rfl
 refine⟨⟨?_, ?_⟩, ?_⟩;all_goals
  refine⟨fun h=>?_,fun h=>?_⟩
  ·have u:¬ro.cd=0:=by simpa using h
   rw[hC,aB u,aI u];exact Wf (by simp only[↓XC,X1,reduceIte,Nat.reduceAdd,Nat.reduceLT,Nat.reduceEqDiff,Nat.reduceBEq,Nat.reduceLeDiff,reduceCtorEq,Nat.reduceSub,Nat.reduceMul,Int.reduceToNat,Int.reduceLT,Int.reduceLE];try first|rfl|simp[Yf])
  have hz:ro.cd=0:=by simpa using h
  obtain⟨Z,U,aa,V,F⟩:=hP hz;rw[aa,aA (show ¬40<=r.dp by omega)];rw[aA (by simp[hz])]at hC;rw[hC];obtain⟨R,hR⟩:∃R,R=qN s it 125 r.ev.length (atR ro (r.pos+1)):=⟨_,rfl⟩
  rw[<-hR];obtain⟨hit,HN⟩:=HI F;refine CR fun _=>?_;refine cF.of (ι:={x:Rd // Ok s x/\x.dp=r.dp+1/\r.ev.length<x.ev.length/\qN s it 125 r.ev.length x=R}) (fun x=>⟨[(0,.ptr 0 0 0),(5,.i .i64 (r.ev.length:Nat))],(iF s (x.1) fr la)⟩) (fun x=>s.length-x.1.pos) ⟨atR ro (r.pos+1),Z,U,V,hR.symm⟩ (cG.cT [0,1,2,3,4] (by decide) (by simp only[Yd];exact⟨aM (by simp[Yf,Yh]),aF fun _=>rfl,aF fun _=>rfl,cB,aF fun _=>rfl⟩) (by simp[bC,Vg.look,SV.bP,dX])) ?_;rintro⟨x,Q,B,P,ab⟩;simp only[YC];simp only[↓XC,X1,reduceIte,Nat.reduceAdd,Nat.reduceLT,Nat.reduceEqDiff,Nat.reduceBEq,Nat.reduceLeDiff,reduceCtorEq,Nat.reduceSub,Nat.reduceMul,Int.reduceToNat,Int.reduceLT,Int.reduceLE,X2];obtain⟨g,b⟩:∃g,g=cL s x:=⟨_,rfl⟩
  refine Wm (Mw s x fr la ⟨L,Q.cd,Q.pos⟩) ?_;simp only[↓XC,X1,reduceIte,Nat.reduceAdd,Nat.reduceLT,Nat.reduceEqDiff,Nat.reduceBEq,Nat.reduceLeDiff,reduceCtorEq,Nat.reduceSub,Nat.reduceMul,Int.reduceToNat,Int.reduceLT,Int.reduceLE,X2,XM];rw[<-b,<-ab];refine⟨fun T=>?_,fun T=>?_⟩
  ·have u:¬g.cd=0:=by simpa using T
   rw[pC (by rw[<-b];exact u),<-b,aI u];exact Wf (by simp only[↓XC,X1,reduceIte,Nat.reduceAdd,Nat.reduceLT,Nat.reduceEqDiff,Nat.reduceBEq,Nat.reduceLeDiff,reduceCtorEq,Nat.reduceSub,Nat.reduceMul,Int.reduceToNat,Int.reduceLT,Int.reduceLE];try first|rfl|simp[Yf])
  have f:(cL s x).cd=0:=by rw[<-b];simpa using T
  obtain⟨y,W⟩:=gm f;have j:Ok s g:=by rw[b];exact Q.gN f
  have H:g.dp=r.dp+1:=by rw[b,y];exact B
  have I:g.ev=x.ev:=by rw[b,y];rfl
  have X:g.pos<s.length:=by rw[b,y];exact W
  have J:=j.size L;rw[<-cW X];refine⟨by decide +kernel,CO fun _=>⟨fun C=>CR fun _=>?_,fun C=>?_⟩⟩
  ·rw[pB f (by rw[<-b];exact C),<-b];refine Wb (Pe s (atR g (g.pos+1)) fr la r.ev.length ⟨cv J (by decide),j.dn,j.bs,by rw[show(atR g (g.pos+1)).ev=x.ev from I];exact P,by show 0<g.dp;omega,j.dp⟩) ?_;simp only[↓XC,X1,reduceIte,Nat.reduceAdd,Nat.reduceLT,Nat.reduceEqDiff,Nat.reduceBEq,Nat.reduceLeDiff,reduceCtorEq,Nat.reduceSub,Nat.reduceMul,Int.reduceToNat,Int.reduceLT,Int.reduceLE,X2,XM];simp only[mH,aC,aK,aL,aX];exact Wf (by simp only[↓XC,X1,reduceIte,Nat.reduceAdd,Nat.reduceLT,Nat.reduceEqDiff,Nat.reduceBEq,Nat.reduceLeDiff,reduceCtorEq,Nat.reduceSub,Nat.reduceMul,Int.reduceToNat,Int.reduceLT,Int.reduceLE];try simp[Yf,j.cd])
  obtain⟨t,A⟩:∃t,t=it g:=⟨_,rfl⟩
  have hN:=HN g j H;unfold mg iF at hN;refine Wb (hN) ?_;simp only[↓XC,X1,reduceIte,Nat.reduceAdd,Nat.reduceLT,Nat.reduceEqDiff,Nat.reduceBEq,Nat.reduceLeDiff,reduceCtorEq,Nat.reduceSub,Nat.reduceMul,Int.reduceToNat,Int.reduceLT,Int.reduceLE,X2,XM];rw[<-A];by_cases k:t.cd=0
  ·simp only[aJ k];simp only[↓X9,X0,reduceIte,Nat.reduceAdd,Nat.reduceLT,Nat.reduceEqDiff,Nat.reduceBEq,Nat.reduceLeDiff,reduceCtorEq,Nat.reduceSub,Nat.reduceMul,Int.reduceToNat,Int.reduceLT,Int.reduceLE,X2];have m:(it (cL s x)).cd=0:=by rw[<-b,<-A];exact k
   have M:=hit g j H (by rw[<-A];exact k);rw[<-A]at M;have O:=M.ok;obtain⟨g2,o⟩:∃g2,g2=cL s t:=⟨_,rfl⟩
   have l:g2=cL s (it (cL s x)):=by rw[o,A,b]
   refine Wm (Mw s t fr la ⟨L,k,O.pos⟩) ?_;simp only[↓XC,X1,reduceIte,Nat.reduceAdd,Nat.reduceLT,Nat.reduceEqDiff,Nat.reduceBEq,Nat.reduceLeDiff,reduceCtorEq,Nat.reduceSub,Nat.reduceMul,Int.reduceToNat,Int.reduceLT,Int.reduceLE,X2,XM];rw[<-o];by_cases d:g2.cd=0
   ·simp only[aJ d];simp only[↓X9,X0,reduceIte,Nat.reduceAdd,Nat.reduceLT,Nat.reduceEqDiff,Nat.reduceBEq,Nat.reduceLeDiff,reduceCtorEq,Nat.reduceSub,Nat.reduceMul,Int.reduceToNat,Int.reduceLT,Int.reduceLE,X2];have q:(cL s (it (cL s x))).cd=0:=by rw[<-l];exact d
    have ad:Ok s g2:=by rw[o];exact O.gN (by rw[<-o];exact d)
    have G:g2.pos<s.length:=by obtain⟨e9,h9⟩:=gm (s:=s) (r:=t) (by rw[<-o];exact d);rw[o,e9];exact h9
    obtain⟨t2,N⟩:∃t2,t2=ly s g2 125:=⟨_,rfl⟩
    have a:t2=ly s (cL s (it (cL s x))) 125:=by rw[N,l]
    refine Wm (O2 s g2 fr la 125 ⟨L,d,G⟩) ?_;simp only[↓XC,X1,reduceIte,Nat.reduceAdd,Nat.reduceLT,Nat.reduceEqDiff,Nat.reduceBEq,Nat.reduceLeDiff,reduceCtorEq,Nat.reduceSub,Nat.reduceMul,Int.reduceToNat,Int.reduceLT,Int.reduceLE,X2,XM];rw[show(((125:UInt8).toNat:Nat):Int)=125 from rfl,<-N];by_cases n:t2.cd=0
    ·simp only[aJ n];simp only[↓X9,X0,reduceIte,Nat.reduceAdd,Nat.reduceLT,Nat.reduceEqDiff,Nat.reduceBEq,Nat.reduceLeDiff,reduceCtorEq,Nat.reduceSub,Nat.reduceMul,Int.reduceToNat,Int.reduceLT,Int.reduceLE,X2];have p:=mM hit Q B f m q (by rw[<-a];exact n);rw[<-a]at p;have K:=p.lt;have ae:=p.ok.pos;refine⟨⟨t2,p.ok,p.dp.trans B,dA P p.pre.length_le, ?_⟩,by simp only;omega, ?_⟩
     ·rw[tk f (by rw[<-b];exact C) m q ⟨by rw[<-a];exact n,by rw[<-a];exact K,by omega⟩,<-a]
     exact(cG.cT [0,1,2,3,4] (by decide) (by simp only[Yd];exact⟨aM (by simp[Yf,Yh]),aF fun _=>rfl,aF fun _=>rfl,cB,aF fun _=>rfl⟩) (by simp[bC,Vg.look,SV.bP,dX]))
    simp only[aI n];simp only[↓X9,X0,reduceIte,Nat.reduceAdd,Nat.reduceLT,Nat.reduceEqDiff,Nat.reduceBEq,Nat.reduceLeDiff,reduceCtorEq,Nat.reduceSub,Nat.reduceMul,Int.reduceToNat,Int.reduceLT,Int.reduceLE,X2];rw[th f (by rw[<-b];exact C) m q (by rw[<-a];exact n),<-a,aI n];exact Wf (by simp only[↓XC,X1,reduceIte,Nat.reduceAdd,Nat.reduceLT,Nat.reduceEqDiff,Nat.reduceBEq,Nat.reduceLeDiff,reduceCtorEq,Nat.reduceSub,Nat.reduceMul,Int.reduceToNat,Int.reduceLT,Int.reduceLE];try first|rfl|simp[Yf])
   simp only[aI d];simp only[↓X9,X0,reduceIte,Nat.reduceAdd,Nat.reduceLT,Nat.reduceEqDiff,Nat.reduceBEq,Nat.reduceLeDiff,reduceCtorEq,Nat.reduceSub,Nat.reduceMul,Int.reduceToNat,Int.reduceLT,Int.reduceLE,X2];rw[tj f (by rw[<-b];exact C) m (by rw[<-l];exact d),<-l,aI d];exact Wf (by simp only[↓XC,X1,reduceIte,Nat.reduceAdd,Nat.reduceLT,Nat.reduceEqDiff,Nat.reduceBEq,Nat.reduceLeDiff,reduceCtorEq,Nat.reduceSub,Nat.reduceMul,Int.reduceToNat,Int.reduceLT,Int.reduceLE];try first|rfl|simp[Yf])
  simp only[aI k];simp only[↓X9,X0,reduceIte,Nat.reduceAdd,Nat.reduceLT,Nat.reduceEqDiff,Nat.reduceBEq,Nat.reduceLeDiff,reduceCtorEq,Nat.reduceSub,Nat.reduceMul,Int.reduceToNat,Int.reduceLT,Int.reduceLE,X2];rw[tm f (by rw[<-b];exact C) (by rw[<-b,<-A];exact k),<-b,<-A,aI k];exact Wf (by simp only[↓XC,X1,reduceIte,Nat.reduceAdd,Nat.reduceLT,Nat.reduceEqDiff,Nat.reduceBEq,Nat.reduceLeDiff,reduceCtorEq,Nat.reduceSub,Nat.reduceMul,Int.reduceToNat,Int.reduceLT,Int.reduceLE];try first|rfl|simp[Yf])
end Go.T
end
