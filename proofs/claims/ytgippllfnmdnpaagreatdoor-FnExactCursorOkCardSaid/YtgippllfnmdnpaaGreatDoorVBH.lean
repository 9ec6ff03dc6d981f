/- Own text: part VBH. -/
import Derived.Test.YtgippllfnmdnpaaGreatDoorVBG
import Derived.Test.YtgippllfnmdnpaaGreatDoorVAY
set_option linter.all false
section
namespace Go.T
variable[Go.Vg.df][Go.Vg.cS 0 1]
open Go.Proofs Go.Vg Go.RowKit Go.TT Go.Pl
set_option maxRecDepth 10000
set_option maxHeartbeats 4000000
theorem RM(s:Bs)(r:Rd)(pr:Int)(it:Rd->Rd)(Q:Bool)(an tg:Bs)(pe:Nat)(HI:r.dp<40->kw s (r.dp+1) it/\∀(r1:Rd) (fM:Int),Ok s r1->r1.dp=r.dp+1->mI Tryz.prog 335 s [] fM r1 (it r1))(hp:s.length<=1048576/\Ok s r/\r.pos<s.length):gQ Tryz.prog 302 1 [.ptr 0 0 0,.agg [.i .i64 0,.i .i64 0,.b false,.s [],.s an,.s tg,.i .i64 0,.i .i64 0]] (fk s (r) ((r).pos:Nat) pr) (fun z c=>∃(a au:Int),(((qO s it 93 3 r (⟨Q,an,tg,pe⟩:Pp))).cd=0->a=((((qO s it 93 3 r (⟨Q,an,tg,pe⟩:Pp))).pos:Nat):Int))/\z=.fJ []/\c=(fk s ((qO s it 93 3 r (⟨Q,an,tg,pe⟩:Pp))) a au)):=by
 refine Jh pn 68 [[0,3],[0,4],[0,4],[0,4,23],[0,4,26],[0,4],[],[0,4],[0,4,48],[0,4,51],[0,4],[0,4,61],[0,4]] Tryz.func302 [] (fun i=>i==3||i==8) [] [] ?_;simp only[↓X9,X0,seval,X2];obtain⟨H,A,ak⟩:=hp;have ap:=A.size H;refine Vb (Lo s r pr 0 0 [] an tg 3 6 ⟨by omega,A.dn,A.bs,A.cd,A.dp⟩) ?_;simp only[↓X9,X0,seval,X2,XM];obtain⟨ro,q⟩:∃ro,ro=jt r 3 6 (⟨false,an,tg,0⟩:Pp) r.pos:=⟨_,rfl⟩
 have aa:ro=jt r 3 6 (⟨Q,an,tg,pe⟩:Pp) r.pos:=q;have ao:ro.pos=r.pos:=by rw[q];unfold jt;split<;>rfl
 rw[<-q,ao];obtain⟨R,hR⟩:∃R,R=qO s it 93 3 r (⟨Q,an,tg,pe⟩:Pp):=⟨_,rfl⟩
 rw[<-hR];have hC:R=if ro.cd≠0 then ro else qN s it 93 r.ev.length (atR ro (r.pos+1)):=by rw[hR,aa];rfl
 refine CR fun _=>?_;have aq:∃l:Rd,(l.ev=ro.ev/\l.cd=ro.cd/\l.pl=ro.pl/\l.dp=ro.dp/\l.dn=ro.dn/\l.bs=ro.bs/\l.hd=ro.hd)/\((l.cd=0/\((r.pos:Int)+1)=(l.pos:Nat)/\Ok s l/\l.dp=r.dp+1/\r.dp<40/\(r.ev++[oQ 3 6 an tg]) <+: l.ev/\l.bs=r.bs/\qN s it 93 r.ev.length l=R)\/(l.cd≠0/\R=l)):=by
  by_cases D:ro.cd=0
  ·rw[q]at D;obtain⟨e,hd⟩:=pQ D;rw[aA (by rw[q];simpa using D),q]at hC;have h9:=A.sz;have h8:=A.bs;refine⟨atR ro (r.pos+1),⟨rfl,rfl,rfl,rfl,rfl,rfl,rfl⟩,.inl ?_⟩;rw[q];refine⟨D,by simp[atR], ?_,by rw[e];rfl,hd,by rw[e];exact List.prefix_refl _,by rw[e];rfl,hC.symm⟩;rw[e];exact⟨A.cd,ak,by simp[atR,bB,A.dn],by simp only[atR,bB,aC];omega,by simp only[atR];omega,by simp only[atR,bB,aC,aH];omega,A.hd,A.pf⟩
  exact⟨ro,⟨rfl,rfl,rfl,rfl,rfl,rfl,rfl⟩,.inr ⟨D,by rw[hC,aB D]⟩⟩
 obtain⟨l,⟨e1,e2,e3,e4,e5,e6,e7⟩,ag⟩:=aq;rw[<-e1,<-e2,<-e3,<-e4,<-e5,<-e6,<-e7];refine cF.of (ι:={x:Rd×Int×Int // (x.1.cd=0/\x.2.1=(x.1.pos:Nat)/\Ok s x.1/\x.1.dp=r.dp+1/\r.dp<40/\(r.ev++[oQ 3 6 an tg]) <+: x.1.ev/\x.1.bs=r.bs/\qN s it 93 r.ev.length x.1=R)\/(x.1.cd≠0/\R=x.1)}) (fun x=>⟨[(0,.ptr 0 0 0),(4,.i .i64 (if 40<=r.dp then(-2:Int)else if an=[]then -1 else((iu r.ev r.dn r.bs).length:Nat)))],(fk s (x.1.1) x.1.2.1 x.1.2.2)⟩) (fun x=>if x.1.1.cd=0 then s.length+1-x.1.1.pos else 0) ⟨(l,(r.pos:Int)+1,pr),ag⟩ (cG.cT [0,1,2,3] (by decide) (by simp only[Yd];exact⟨aM (by simp[Yf,Yh]),aF fun _=>rfl,aF fun _=>rfl,aF fun _=>rfl⟩) (by simp[bC,Vg.look,SV.bP,dX,jE,XR,qF,ul,Yh])) ?_;rintro⟨⟨x,a1,fM⟩,hI⟩;simp only[YC];simp only[↓XC,X1,seval,X2];by_cases j:x.cd=0
 ·have ah:x.cd=0/\a1=(x.pos:Nat)/\Ok s x/\x.dp=r.dp+1/\r.dp<40/\(r.ev++[oQ 3 6 an tg]) <+: x.ev/\x.bs=r.bs/\qN s it 93 r.ev.length x=R:=by
   rcases hI with h|h
   ·exact h
   exact absurd j h.1
  obtain⟨_,ar,hx,M,C,Z,af,y⟩:=ah;subst ar;obtain⟨hit,HN⟩:=HI C;have ap:=hx.size H;simp only[aJ j];simp only[↓X9,X0,seval,X2];refine Vm (G6 s x fM ⟨H,j,hx.pos⟩) ?_;simp only[↓X9,X0,seval,X2,XM];obtain⟨g,k⟩:∃g,g=cL s x:=⟨_,rfl⟩
  rw[<-k];refine⟨fun J=>?_,fun J=>?_⟩
  ·have b:(cL s x).cd=0:=by rw[<-k];exact J
   have w:Ok s g:=by rw[k];exact hx.gN b
   have ay:=w.size H;obtain⟨N,al⟩:=gm b;have az:g.pos<s.length:=by rw[k,N];exact al
   have W:g.dp=r.dp+1:=by rw[k,N];exact M
   have X:g.ev=x.ev:=by rw[k,N];rfl
   have V:g.bs=r.bs:=by rw[k,N];exact af
   obtain⟨tl,L⟩:=Z;refine Vm (ki s g fM H) ?_;simp only[↓X9,X0,seval,X2,XM];simp only[q7 (show(0:Int)<93 by decide)];refine⟨fun O=>CR fun _=>?_,fun O=>?_⟩
   ·have P:(if 40<=r.dp then(-2:Int)else if an=[]then -1 else((iu r.ev r.dn r.bs).length:Nat))=(if((atR g (g.pos+1)).ev.getD r.ev.length ec).anchor=[]then(-1:Int)else((si (List.take r.ev.length (atR g (g.pos+1)).ev) (atR g (g.pos+1)).bs).length:Nat)):=by rw[aA (by omega),show(atR g (g.pos+1)).ev=x.ev from X,show(atR g (g.pos+1)).bs=r.bs from V,<-L];simp[oQ,iu,cR]
    rw[P];refine Vb (EN s (atR g (g.pos+1)) fM r.ev.length ⟨by show g.ev.length<=_;omega,w.dn,w.bs,by show r.ev.length<g.ev.length;rw[X,<-L];simp,by show g.bs<=_;rw[V];exact A.bs,by show 0<g.dp;omega,w.dp⟩) ?_;simp only[↓X9,X0,seval,X2,XM];have E:R=mH (atR g (g.pos+1)) r.ev.length:=by rw[<-y,pB b (by rw[<-k];exact O),<-k]
    rw[E];refine⟨.fJ [],(fk s (mH (atR g (g.pos+1)) r.ev.length) (((mH (atR g (g.pos+1)) r.ev.length).pos:Nat):Int) fM),⟨(((mH (atR g (g.pos+1)) r.ev.length).pos:Nat):Int),fM,fun _=>rfl,rfl,rfl⟩, ?_⟩;exact Vf
   obtain⟨t,K⟩:∃t,t=it g:=⟨_,rfl⟩
   have P:=HN g fM w W;rw[<-K]at P;unfold mI fk at P;refine Vq (P) ?_;rintro z c ⟨a2,d,aj,rfl,rfl⟩;simp only[↓X9,X0,seval,X2,XM];by_cases o:t.cd=0
   ·have S:=aj o;subst S;have u:(it (cL s x)).cd=0:=by rw[<-k,<-K];exact o
    have ab:=hit g w W (by rw[<-K];exact o);rw[<-K]at ab;have ae:=ab.ok;simp only[aJ o];simp only[↓X9,X0,seval,X2];refine Vm (G6 s t d ⟨H,o,ae.pos⟩) ?_;simp only[↓X9,X0,seval,X2,XM];obtain⟨g2,v⟩:∃g2,g2=cL s t:=⟨_,rfl⟩
    have f:g2=cL s (it (cL s x)):=by rw[v,K,k]
    rw[<-v];refine⟨fun h=>?_,fun h=>?_⟩
    ·have m:¬g2.cd=0:=by simpa using h
     have E:R=g2:=by rw[<-y,tj b (by rw[<-k];exact O) u (by rw[<-f];exact m),<-f]
     rw[E];refine⟨.fJ [],(fk s (g2) ((g2.pos:Nat):Int) d),⟨((g2.pos:Nat):Int),d,fun _=>rfl,rfl,rfl⟩, ?_⟩;exact Vf
    have m:g2.cd=0:=by simpa using h
    have B:(cL s (it (cL s x))).cd=0:=by rw[<-f];exact m
    have aw:Ok s g2:=by rw[v];exact ae.gN (by rw[<-v];exact m)
    have ax:g2.pos<s.length:=by obtain⟨N,h9⟩:=gm (s:=s) (r:=t) (by rw[<-v];exact m);rw[v,N];exact h9
    have T:(ly s g2 93).cd=0->∀t2,t2=ly s g2 93->(t2.cd=0/\Ok s t2/\t2.dp=r.dp+1/\(r.ev++[oQ 3 6 an tg]) <+: t2.ev/\t2.bs=r.bs/\qN s it 93 r.ev.length t2=R)/\x.pos<t2.pos/\t2.pos<=s.length:=fun D t2 ad=>by
     have n:t2=ly s (cL s (it (cL s x))) 93:=by rw[ad,f]
     have I:t2.cd=0:=by rw[ad];exact D
     have p:=mM hit hx M b u B (by rw[<-n];exact I);rw[<-n]at p;have G:=p.lt;have Y:=p.ok.pos;refine⟨⟨I,p.ok,p.dp.trans M, ?_,p.bs.trans af, ?_⟩,G,Y⟩
     ·exact List.IsPrefix.trans ⟨tl,L⟩ p.pre
     rw[<-y,tk b (by rw[<-k];exact O) u B ⟨by rw[<-n];exact I,by rw[<-n];exact G,by omega⟩,<-n]
    refine Vm (ki s g2 d H) ?_;simp only[↓X9,X0,seval,X2,XM];simp only[q7 (show(0:Int)<44 by decide)];refine⟨fun F=>CR fun _=>?_,fun F=>?_⟩
    ·have e:ly s g2 93=atR g2 (g2.pos+1):=by unfold ly;rw[aB F]
     obtain⟨⟨k1,k2,k3,k4,k5,k6⟩,k7,k8⟩:=T (by rw[e];exact m) _ e.symm;refine⟨⟨(atR g2 (g2.pos+1),((g2.pos+1:Nat):Int),d),.inl ⟨k1,rfl,k2,k3,C,k4,k5,k6⟩⟩, ?_, ?_⟩
     ·rw[aB j];show(if(atR g2 (g2.pos+1)).cd=0 then s.length+1-(g2.pos+1)else 0)<_;rw[aB k1];have a6:x.pos<g2.pos+1:=k7;omega
     exact(cG.cT [0,1,2,3] (by decide) (by simp only[Yd];exact⟨aM (by simp[Yf,Yh]),aF fun _=>rfl,aF fun _=>rfl,aF fun _=>rfl⟩) (by simp[bC,Vg.look,SV.bP,dX,jE,XR,qF,ul,Yh]))
    refine Vm (ki s g2 d H) ?_;simp only[↓X9,X0,seval,X2,XM];simp only[q7 (show(0:Int)<93 by decide)];refine⟨fun h=>?_,fun h=>?_⟩
    ·have hc:¬bW s g2.pos=93:=by simpa using h
     have e:ly s g2 93=er g2 11 g2.pos:=by unfold ly;rw[aA F,aA hc]
     have D:¬(ly s g2 93).cd=0:=by rw[e];exact(by decide:¬((11:Int)=0))
     refine Vm (jh s g2 d 11 g2.pos m) ?_;simp only[↓X9,X0,seval,X2,XM];have U:¬(er g2 11 g2.pos).cd=0:=(by decide:¬((11:Int)=0))
     refine⟨⟨(er g2 11 g2.pos,((g2.pos:Nat):Int),d),.inr ⟨U, ?_⟩⟩, ?_, ?_⟩
     ·rw[<-y,th b (by rw[<-k];exact O) u B (by rw[<-f];exact D),<-f,e]
     ·rw[aB j];show(if(er g2 11 g2.pos).cd=0 then _ else 0)<_;rw[aA U];have:=hx.pos;omega
     exact(cG.cT [0,1,2,3] (by decide) (by simp only[Yd];exact⟨aM (by simp[Yf,Yh]),aF fun _=>rfl,aF fun _=>rfl,aF fun _=>rfl⟩) (by simp[bC,Vg.look,SV.bP,dX,jE,XR,qF,ul,Yh]))
    have hc:bW s g2.pos=93:=by simpa using h
    have e:ly s g2 93=g2:=by unfold ly;rw[aA F,aB hc]
    obtain⟨⟨k1,k2,k3,k4,k5,k6⟩,k7,k8⟩:=T (by rw[e];exact m) _ e.symm;refine⟨⟨(g2,((g2.pos:Nat):Int),d),.inl ⟨k1,rfl,k2,k3,C,k4,k5,k6⟩⟩, ?_, ?_⟩
    ·rw[aB j];show(if g2.cd=0 then s.length+1-g2.pos else 0)<_;rw[aB k1];omega
    exact(cG.cT [0,1,2,3] (by decide) (by simp only[Yd];exact⟨aM (by simp[Yf,Yh]),aF fun _=>rfl,aF fun _=>rfl,aF fun _=>rfl⟩) (by simp[bC,Vg.look,SV.bP,dX,jE,XR,qF,ul,Yh]))
   simp only[aI o];simp only[↓X9,X0,seval,X2];have E:R=t:=by rw[<-y,tm b (by rw[<-k];exact O) (by rw[<-k,<-K];exact o),<-k,<-K]
   rw[E];refine⟨.fJ [],(fk s (t) a2 d),⟨a2,d,fun h=>absurd h o,rfl,rfl⟩, ?_⟩;exact Vf
  have E:R=g:=by rw[<-y,pC (by rw[<-k];exact J),<-k]
  rw[E];refine⟨.fJ [],(fk s (g) ((g.pos:Nat):Int) fM),⟨((g.pos:Nat):Int),fM,fun _=>rfl,rfl,rfl⟩, ?_⟩;exact Vf
 simp only[aI j];simp only[↓X9,X0,seval,X2];have hR:R=x:=by
  rcases hI with h|h
  ·exact absurd h.1 j
  exact h.2
 have E:R=x:=hR;rw[E];refine⟨.fJ [],(fk s (x) a1 fM),⟨a1,fM,fun h=>absurd h j,rfl,rfl⟩, ?_⟩;exact Vf
theorem RJ(s:Bs)(r:Rd)(pr:Int)(it:Rd->Rd)(Q:Bool)(an tg:Bs)(pe:Nat)(HI:r.dp<40->kw s (r.dp+1) it/\∀(r1:Rd) (fM:Int),Ok s r1->r1.dp=r.dp+1->mI Tryz.prog 336 s [] fM r1 (it r1))(hp:s.length<=1048576/\Ok s r/\r.pos<s.length):gQ Tryz.prog 303 1 [.ptr 0 0 0,.agg [.i .i64 0,.i .i64 0,.b false,.s [],.s an,.s tg,.i .i64 0,.i .i64 0]] (fk s (r) ((r).pos:Nat) pr) (fun z c=>∃(a au:Int),(((qO s it 125 4 r (⟨Q,an,tg,pe⟩:Pp))).cd=0->a=((((qO s it 125 4 r (⟨Q,an,tg,pe⟩:Pp))).pos:Nat):Int))/\z=.fJ []/\c=(fk s ((qO s it 125 4 r (⟨Q,an,tg,pe⟩:Pp))) a au)):=by
 refine Jh pn 68 [[0,3],[0,4],[0,4],[0,4,23],[0,4,26],[0,4],[],[0,4],[0,4,48],[0,4,51],[0,4],[0,4,61],[0,4]] Tryz.func303 [] (fun i=>i==3||i==8) [] [] ?_;simp only[↓X9,X0,seval,X2];obtain⟨H,A,ak⟩:=hp;have ap:=A.size H;refine Vb (Lo s r pr 0 0 [] an tg 4 6 ⟨by omega,A.dn,A.bs,A.cd,A.dp⟩) ?_;simp only[↓X9,X0,seval,X2,XM];obtain⟨ro,q⟩:∃ro,ro=jt r 4 6 (⟨false,an,tg,0⟩:Pp) r.pos:=⟨_,rfl⟩
 have aa:ro=jt r 4 6 (⟨Q,an,tg,pe⟩:Pp) r.pos:=q;have ao:ro.pos=r.pos:=by rw[q];unfold jt;split<;>rfl
 rw[<-q,ao];obtain⟨R,hR⟩:∃R,R=qO s it 125 4 r (⟨Q,an,tg,pe⟩:Pp):=⟨_,rfl⟩
 rw[<-hR];have hC:R=if ro.cd≠0 then ro else qN s it 125 r.ev.length (atR ro (r.pos+1)):=by rw[hR,aa];rfl
 refine CR fun _=>?_;have aq:∃l:Rd,(l.ev=ro.ev/\l.cd=ro.cd/\l.pl=ro.pl/\l.dp=ro.dp/\l.dn=ro.dn/\l.bs=ro.bs/\l.hd=ro.hd)/\((l.cd=0/\((r.pos:Int)+1)=(l.pos:Nat)/\Ok s l/\l.dp=r.dp+1/\r.dp<40/\(r.ev++[oQ 4 6 an tg]) <+: l.ev/\l.bs=r.bs/\qN s it 125 r.ev.length l=R)\/(l.cd≠0/\R=l)):=by
  by_cases D:ro.cd=0
  ·rw[q]at D;obtain⟨e,hd⟩:=pQ D;rw[aA (by rw[q];simpa using D),q]at hC;have h9:=A.sz;have h8:=A.bs;refine⟨atR ro (r.pos+1),⟨rfl,rfl,rfl,rfl,rfl,rfl,rfl⟩,.inl ?_⟩;rw[q];refine⟨D,by simp[atR], ?_,by rw[e];rfl,hd,by rw[e];exact List.prefix_refl _,by rw[e];rfl,hC.symm⟩;rw[e];exact⟨A.cd,ak,by simp[atR,bB,A.dn],by simp only[atR,bB,aC];omega,by simp only[atR];omega,by simp only[atR,bB,aC,aH];omega,A.hd,A.pf⟩
  exact⟨ro,⟨rfl,rfl,rfl,rfl,rfl,rfl,rfl⟩,.inr ⟨D,by rw[hC,aB D]⟩⟩
 obtain⟨l,⟨e1,e2,e3,e4,e5,e6,e7⟩,ag⟩:=aq;rw[<-e1,<-e2,<-e3,<-e4,<-e5,<-e6,<-e7];refine cF.of (ι:={x:Rd×Int×Int // (x.1.cd=0/\x.2.1=(x.1.pos:Nat)/\Ok s x.1/\x.1.dp=r.dp+1/\r.dp<40/\(r.ev++[oQ 4 6 an tg]) <+: x.1.ev/\x.1.bs=r.bs/\qN s it 125 r.ev.length x.1=R)\/(x.1.cd≠0/\R=x.1)}) (fun x=>⟨[(0,.ptr 0 0 0),(4,.i .i64 (if 40<=r.dp then(-2:Int)else if an=[]then -1 else((iu r.ev r.dn r.bs).length:Nat)))],(fk s (x.1.1) x.1.2.1 x.1.2.2)⟩) (fun x=>if x.1.1.cd=0 then s.length+1-x.1.1.pos else 0) ⟨(l,(r.pos:Int)+1,pr),ag⟩ (cG.cT [0,1,2,3] (by decide) (by simp only[Yd];exact⟨aM (by simp[Yf,Yh]),aF fun _=>rfl,aF fun _=>rfl,aF fun _=>rfl⟩) (by simp[bC,Vg.look,SV.bP,dX,jE,XR,qF,ul,Yh])) ?_;rintro⟨⟨x,a1,fM⟩,hI⟩;simp only[YC];simp only[↓XC,X1,seval,X2];by_cases j:x.cd=0
 ·have ah:x.cd=0/\a1=(x.pos:Nat)/\Ok s x/\x.dp=r.dp+1/\r.dp<40/\(r.ev++[oQ 4 6 an tg]) <+: x.ev/\x.bs=r.bs/\qN s it 125 r.ev.length x=R:=by
   rcases hI with h|h
   ·exact h
   exact absurd j h.1
  obtain⟨_,ar,hx,M,C,Z,af,y⟩:=ah;subst ar;obtain⟨hit,HN⟩:=HI C;have ap:=hx.size H;simp only[aJ j];simp only[↓X9,X0,seval,X2];refine Vm (G6 s x fM ⟨H,j,hx.pos⟩) ?_;simp only[↓X9,X0,seval,X2,XM];obtain⟨g,k⟩:∃g,g=cL s x:=⟨_,rfl⟩
  rw[<-k];refine⟨fun J=>?_,fun J=>?_⟩
  ·have b:(cL s x).cd=0:=by rw[<-k];exact J
   have w:Ok s g:=by rw[k];exact hx.gN b
   have ay:=w.size H;obtain⟨N,al⟩:=gm b;have az:g.pos<s.length:=by rw[k,N];exact al
   have W:g.dp=r.dp+1:=by rw[k,N];exact M
   have X:g.ev=x.ev:=by rw[k,N];rfl
   have V:g.bs=r.bs:=by rw[k,N];exact af
   obtain⟨tl,L⟩:=Z;refine Vm (ki s g fM H) ?_;simp only[↓X9,X0,seval,X2,XM];simp only[q7 (show(0:Int)<125 by decide)];refine⟨fun O=>CR fun _=>?_,fun O=>?_⟩
   ·have P:(if 40<=r.dp then(-2:Int)else if an=[]then -1 else((iu r.ev r.dn r.bs).length:Nat))=(if((atR g (g.pos+1)).ev.getD r.ev.length ec).anchor=[]then(-1:Int)else((si (List.take r.ev.length (atR g (g.pos+1)).ev) (atR g (g.pos+1)).bs).length:Nat)):=by rw[aA (by omega),show(atR g (g.pos+1)).ev=x.ev from X,show(atR g (g.pos+1)).bs=r.bs from V,<-L];simp[oQ,iu,cR]
    rw[P];refine Vb (EN s (atR g (g.pos+1)) fM r.ev.length ⟨by show g.ev.length<=_;omega,w.dn,w.bs,by show r.ev.length<g.ev.length;rw[X,<-L];simp,by show g.bs<=_;rw[V];exact A.bs,by show 0<g.dp;omega,w.dp⟩) ?_;simp only[↓X9,X0,seval,X2,XM];have E:R=mH (atR g (g.pos+1)) r.ev.length:=by rw[<-y,pB b (by rw[<-k];exact O),<-k]
    rw[E];refine⟨.fJ [],(fk s (mH (atR g (g.pos+1)) r.ev.length) (((mH (atR g (g.pos+1)) r.ev.length).pos:Nat):Int) fM),⟨(((mH (atR g (g.pos+1)) r.ev.length).pos:Nat):Int),fM,fun _=>rfl,rfl,rfl⟩, ?_⟩;exact Vf
   obtain⟨t,K⟩:∃t,t=it g:=⟨_,rfl⟩
   have P:=HN g fM w W;rw[<-K]at P;unfold mI fk at P;refine Vq (P) ?_;rintro z c ⟨a2,d,aj,rfl,rfl⟩;simp only[↓X9,X0,seval,X2,XM];by_cases o:t.cd=0
   ·have S:=aj o;subst S;have u:(it (cL s x)).cd=0:=by rw[<-k,<-K];exact o
    have ab:=hit g w W (by rw[<-K];exact o);rw[<-K]at ab;have ae:=ab.ok;simp only[aJ o];simp only[↓X9,X0,seval,X2];refine Vm (G6 s t d ⟨H,o,ae.pos⟩) ?_;simp only[↓X9,X0,seval,X2,XM];obtain⟨g2,v⟩:∃g2,g2=cL s t:=⟨_,rfl⟩
    have f:g2=cL s (it (cL s x)):=by rw[v,K,k]
    rw[<-v];refine⟨fun h=>?_,fun h=>?_⟩
    ·have m:¬g2.cd=0:=by simpa using h
     have E:R=g2:=by rw[<-y,tj b (by rw[<-k];exact O) u (by rw[<-f];exact m),<-f]
     rw[E];refine⟨.fJ [],(fk s (g2) ((g2.pos:Nat):Int) d),⟨((g2.pos:Nat):Int),d,fun _=>rfl,rfl,rfl⟩, ?_⟩;exact Vf
    have m:g2.cd=0:=by simpa using h
    have B:(cL s (it (cL s x))).cd=0:=by rw[<-f];exact m
    have aw:Ok s g2:=by rw[v];exact ae.gN (by rw[<-v];exact m)
    have ax:g2.pos<s.length:=by obtain⟨N,h9⟩:=gm (s:=s) (r:=t) (by rw[<-v];exact m);rw[v,N];exact h9
    have T:(ly s g2 125).cd=0->∀t2,t2=ly s g2 125->(t2.cd=0/\Ok s t2/\t2.dp=r.dp+1/\(r.ev++[oQ 4 6 an tg]) <+: t2.ev/\t2.bs=r.bs/\qN s it 125 r.ev.length t2=R)/\x.pos<t2.pos/\t2.pos<=s.length:=fun D t2 ad=>by
     have n:t2=ly s (cL s (it (cL s x))) 125:=by rw[ad,f]
     have I:t2.cd=0:=by rw[ad];exact D
     have p:=mM hit hx M b u B (by rw[<-n];exact I);rw[<-n]at p;have G:=p.lt;have Y:=p.ok.pos;refine⟨⟨I,p.ok,p.dp.trans M, ?_,p.bs.trans af, ?_⟩,G,Y⟩
     ·exact List.IsPrefix.trans ⟨tl,L⟩ p.pre
     rw[<-y,tk b (by rw[<-k];exact O) u B ⟨by rw[<-n];exact I,by rw[<-n];exact G,by omega⟩,<-n]
    refine Vm (ki s g2 d H) ?_;simp only[↓X9,X0,seval,X2,XM];simp only[q7 (show(0:Int)<44 by decide)];refine⟨fun F=>CR fun _=>?_,fun F=>?_⟩
    ·have e:ly s g2 125=atR g2 (g2.pos+1):=by unfold ly;rw[aB F]
     obtain⟨⟨k1,k2,k3,k4,k5,k6⟩,k7,k8⟩:=T (by rw[e];exact m) _ e.symm;refine⟨⟨(atR g2 (g2.pos+1),((g2.pos+1:Nat):Int),d),.inl ⟨k1,rfl,k2,k3,C,k4,k5,k6⟩⟩, ?_, ?_⟩
     ·rw[aB j];show(if(atR g2 (g2.pos+1)).cd=0 then s.length+1-(g2.pos+1)else 0)<_;rw[aB k1];have a6:x.pos<g2.pos+1:=k7;omega
     exact(cG.cT [0,1,2,3] (by decide) (by simp only[Yd];exact⟨aM (by simp[Yf,Yh]),aF fun _=>rfl,aF fun _=>rfl,aF fun _=>rfl⟩) (by simp[bC,Vg.look,SV.bP,dX,jE,XR,qF,ul,Yh]))
    refine Vm (ki s g2 d H) ?_;simp only[↓X9,X0,seval,X2,XM];simp only[q7 (show(0:Int)<125 by decide)];refine⟨fun h=>?_,fun h=>?_⟩
    ·have hc:¬bW s g2.pos=125:=by simpa using h
     have e:ly s g2 125=er g2 11 g2.pos:=by unfold ly;rw[aA F,aA hc]
     have D:¬(ly s g2 125).cd=0:=by rw[e];exact(by decide:¬((11:Int)=0))
     refine Vm (jh s g2 d 11 g2.pos m) ?_;simp only[↓X9,X0,seval,X2,XM];have U:¬(er g2 11 g2.pos).cd=0:=(by decide:¬((11:Int)=0))
     refine⟨⟨(er g2 11 g2.pos,((g2.pos:Nat):Int),d),.inr ⟨U, ?_⟩⟩, ?_, ?_⟩
     ·rw[<-y,th b (by rw[<-k];exact O) u B (by rw[<-f];exact D),<-f,e]
     ·rw[aB j];show(if(er g2 11 g2.pos).cd=0 then _ else 0)<_;rw[aA U];have:=hx.pos;omega
     exact(cG.cT [0,1,2,3] (by decide) (by simp only[Yd];exact⟨aM (by simp[Yf,Yh]),aF fun _=>rfl,aF fun _=>rfl,aF fun _=>rfl⟩) (by simp[bC,Vg.look,SV.bP,dX,jE,XR,qF,ul,Yh]))
    have hc:bW s g2.pos=125:=by simpa using h
    have e:ly s g2 125=g2:=by unfold ly;rw[aA F,aB hc]
    obtain⟨⟨k1,k2,k3,k4,k5,k6⟩,k7,k8⟩:=T (by rw[e];exact m) _ e.symm;refine⟨⟨(g2,((g2.pos:Nat):Int),d),.inl ⟨k1,rfl,k2,k3,C,k4,k5,k6⟩⟩, ?_, ?_⟩
    ·rw[aB j];show(if g2.cd=0 then s.length+1-g2.pos else 0)<_;rw[aB k1];omega
    exact(cG.cT [0,1,2,3] (by decide) (by simp only[Yd];exact⟨aM (by simp[Yf,Yh]),aF fun _=>rfl,aF fun _=>rfl,aF fun _=>rfl⟩) (by simp[bC,Vg.look,SV.bP,dX,jE,XR,qF,ul,Yh]))
   simp only[aI o];simp only[↓X9,X0,seval,X2];have E:R=t:=by rw[<-y,tm b (by rw[<-k];exact O) (by rw[<-k,<-K];exact o),<-k,<-K]
   rw[E];refine⟨.fJ [],(fk s (t) a2 d),⟨a2,d,fun h=>absurd h o,rfl,rfl⟩, ?_⟩;exact Vf
  have E:R=g:=by rw[<-y,pC (by rw[<-k];exact J),<-k]
  rw[E];refine⟨.fJ [],(fk s (g) ((g.pos:Nat):Int) fM),⟨((g.pos:Nat):Int),fM,fun _=>rfl,rfl,rfl⟩, ?_⟩;exact Vf
 simp only[aI j];simp only[↓X9,X0,seval,X2];have hR:R=x:=by
  rcases hI with h|h
  ·exact absurd h.1 j
  exact h.2
 have E:R=x:=hR;rw[E];refine⟨.fJ [],(fk s (x) a1 fM),⟨a1,fM,fun h=>absurd h j,rfl,rfl⟩, ?_⟩;exact Vf
end Go.T
end
section
namespace Go.T
variable[Go.Vg.df][Go.Vg.cS 0 1]
open Go.Proofs Go.Vg Go.RowKit Go.TT Go.Pl
set_option maxRecDepth 10000
set_option maxHeartbeats 4000000
theorem SS(s:Bs)(r:Rd)(M:Int)(l:Rd->Rd)(N:∀(k:Rd) (fM:Int) (y:Bool) (an tg:Bs) (H:Nat),Ok s k->k.dp=r.dp->bW s k.pos=91->mI Tryz.prog 302 s [.agg [.i .i64 0,.i .i64 0,.b false,.s [],.s an,.s tg,.i .i64 0,.i .i64 0]] fM k (qO s l 93 3 k (⟨y,an,tg,H⟩:Pp)))(O:∀(k:Rd) (fM:Int) (y:Bool) (an tg:Bs) (H:Nat),Ok s k->k.dp=r.dp->bW s k.pos=123->mI Tryz.prog 303 s [.agg [.i .i64 0,.i .i64 0,.b false,.s [],.s an,.s tg,.i .i64 0,.i .i64 0]] fM k (qO s (n1 s l) 125 4 k (⟨y,an,tg,H⟩:Pp)))(hp:s.length<=1048576/\Ok s r):gQ Tryz.prog 335 1 [.ptr 0 0 0] (fk s (r) ((r).pos:Nat) M) (fun z c=>∃(a I:Int),(((yf s l r)).cd=0->a=((((yf s l r)).pos:Nat):Int))/\z=.fJ []/\c=(fk s ((yf s l r)) a I)):=by
 refine Jh pn 57 [[0,2,3],[0,2,3,14],[0,2,3,4],[],[0,2,3,4,23],[],[0,2,3,4,29],[],[0,2,3,4,35],[0,2,40],[]] Tryz.func335 [] (fun _=>false) [] [] ?_;simp only[↓X9,X0,seval,X2];obtain⟨x,o⟩:=hp;have Q:=o.size x;have v:=o.cd;obtain⟨R,D⟩:∃R,R=yf s l r:=⟨_,rfl⟩
 rw[<-D];refine Vq (AZ s r M true ⟨x,v,o.pos,o.hd,o.pf⟩) ?_;rintro z c ⟨fM,an,tg,y,L,rfl,rfl⟩;simp only[↓X9,X0,seval,X2,XM];obtain⟨F,J⟩:∃F,F=yo s true r:=⟨_,rfl⟩
 have f:F=km s r:=J;rw[<-J]at L |-
 refine⟨fun h=>?_,fun h=>?_⟩
 ·have d:¬F.cd=0:=by simpa using h
  have g:R=F:=by rw[D];unfold yf;rw[<-f,aB d]
  rw[g];refine⟨.fJ [],(fk s (F) (((F).pos:Nat):Int) fM),⟨(((F).pos:Nat):Int),fM,fun _=>rfl,rfl,rfl⟩, ?_⟩;exact Vf
 have d:F.cd=0:=by simpa using h
 obtain⟨_,A,C,B⟩:=L d;subst A C B;obtain⟨p,w⟩:∃p,p=ia s true r:=⟨_,rfl⟩
 rw[<-w];have b:Ok s F:=by rw[f];exact o.km (by rw[<-f];exact d)
 have q:F.dp=r.dp:=by obtain⟨S,P,_⟩:=oH o.pos v (show(km s r).cd=0 by rw[<-f];exact d);rw[f,P];rfl
 have K:=b.size x;have m:R=pA s l F p:=by rw[D];unfold yf;rw[<-f,aA (by simpa using d),<-w]
 refine Vm (ki s F fM x) ?_;simp only[↓X9,X0,seval,X2,XM];simp only[q7 (show(0:Int)<91 by decide)];simp only[q7 (show(0:Int)<123 by decide)];refine⟨fun i=>?_,fun i=>⟨fun e=>?_,fun e=>?_⟩⟩
 ·have t:=N F fM p.has p.an p.tg p.en b q i;unfold mI fk at t;refine Vq (t) ?_;rintro z c ⟨a2,j,n,rfl,rfl⟩;simp only[↓X9,X0,seval,X2,XM];have g:R=qO s l 93 3 F (⟨p.has,p.an,p.tg,p.en⟩:Pp):=by rw[m];unfold pA;rw[aB i]
  rw[g];refine⟨.fJ [],(fk s (qO s l 93 3 F (⟨p.has,p.an,p.tg,p.en⟩:Pp)) a2 j),⟨a2,j,n,rfl,rfl⟩, ?_⟩;exact Vf
 ·have t:=O F fM p.has p.an p.tg p.en b q e;unfold mI fk at t;refine Vq (t) ?_;rintro z c ⟨a2,j,n,rfl,rfl⟩;simp only[↓X9,X0,seval,X2,XM];have g:R=qO s (n1 s l) 125 4 F (⟨p.has,p.an,p.tg,p.en⟩:Pp):=by rw[m];unfold pA;rw[aA i,aB e]
  rw[g];refine⟨.fJ [],(fk s (qO s (n1 s l) 125 4 F (⟨p.has,p.an,p.tg,p.en⟩:Pp)) a2 j),⟨a2,j,n,rfl,rfl⟩, ?_⟩;exact Vf
 have u:R=oM s F p 93 125:=by rw[m];unfold pA;rw[aA i,aA e]
 refine Vb (sD s F fM 0 0 [] p.an p.tg p.has (-1) true ⟨x,by omega,b.dn,b.bs,d,b.pos⟩) ?_;simp only[↓X9,X0,seval,X2,XM];refine⟨fun E=>?_,fun E=>?_⟩
 ·have g:R=vH s F (⟨p.has,p.an,p.tg,0⟩:Pp) (-1) true:=by rw[u,SM E];rfl
  rw[g];refine⟨.fJ [],(fk s (vH s F (⟨p.has,p.an,p.tg,0⟩:Pp) (-1) true) (((vH s F (⟨p.has,p.an,p.tg,0⟩:Pp) (-1) true).pos:Nat):Int) fM),⟨(((vH s F (⟨p.has,p.an,p.tg,0⟩:Pp) (-1) true).pos:Nat):Int),fM,fun _=>rfl,rfl,rfl⟩, ?_⟩;exact Vf
 obtain⟨ex,es⟩:=SL (p:=p) (c1:=93) (c2:=125) E;rw[<-u]at es;rw[show vH s F (⟨p.has,p.an,p.tg,0⟩:Pp) (-1) true=F from ex];simp only[q7 (show(0:Int)<44 by decide)];simp only[q7 (show(0:Int)<93 by decide)];simp only[q7 (show(0:Int)<125 by decide)];refine⟨fun G=>?_,fun G=>?_⟩
 ·rw[aB (by simpa[or_assoc]using G)]at es;refine Vb (qE s F fM 0 0 [] p.an p.tg 1 [] ⟨by omega,b.dn,b.bs⟩) ?_;simp only[↓X9,X0,seval,X2,XM];have g:R=cY F 1 [] p.an p.tg:=es;rw[g];refine⟨.fJ [],(fk s (cY F 1 [] p.an p.tg) (((cY F 1 [] p.an p.tg).pos:Nat):Int) fM),⟨(((cY F 1 [] p.an p.tg).pos:Nat):Int),fM,fun _=>rfl,rfl,rfl⟩, ?_⟩;try simp only[YC,cY,bB,aC,aK,aL,aX]
  exact Vf
 rw[aA (by simpa[or_assoc,fe]using G)]at es;refine Vm (jh s F fM 10 F.pos d) ?_;simp only[↓X9,X0,seval,X2,XM];have g:R=er F 10 F.pos:=es;rw[g];refine⟨.fJ [],(fk s (er F 10 F.pos) (((er F 10 F.pos).pos:Nat):Int) fM),⟨(((er F 10 F.pos).pos:Nat):Int),fM,fun _=>rfl,rfl,rfl⟩, ?_⟩;exact Vf
theorem SU(s:Bs)(r:Rd)(pr:Int)(K:Rd->Rd)(HS:∀(V:Rd) (fM:Int),Ok s V->V.dp=r.dp->mI Tryz.prog 335 s [] fM V (K V))(hp:s.length<=1048576/\Ok s r):gQ Tryz.prog 336 1 [.ptr 0 0 0] (fk s (r) ((r).pos:Nat) pr) (fun z c=>∃(a ae:Int),(((n1 s K r)).cd=0->a=((((n1 s K r)).pos:Nat):Int))/\z=.fJ []/\c=(fk s ((n1 s K r)) a ae)):=by
 refine Jh pn 88 [[0,2,3],[0,2,3,15],[0,2,3,4],[0,2,3,4,5],[0,2,3,4,5,28],[0,2,5,42],[],[0,5],[0,5,61],[0,64],[0],[0,74],[0,82],[],[]] Tryz.func336 [] (fun i=>i==8||i==12) [8] [] ?_;simp only[↓X9,X0,seval,X2,bX];obtain⟨v,J⟩:=hp;have al:=J.size v;have M:=J.cd;obtain⟨R,U⟩:∃R,R=n1 s K r:=⟨_,rfl⟩
 rw[<-U];refine Vq (AZ s r pr true ⟨v,M,J.pos,J.hd,J.pf⟩) ?_;rintro z c ⟨fM,an,tg,ha,hq,rfl,rfl⟩;simp only[↓X9,X0,seval,X2,bX,XM];obtain⟨F,hF⟩:∃F,F=yo s true r:=⟨_,rfl⟩
 have j:F=km s r:=hF;rw[<-hF]at hq |-
 refine⟨fun h=>?_,fun h=>?_⟩
 ·have d:¬F.cd=0:=by simpa using h
  have f:R=F:=by rw[U];unfold n1;rw[<-j,aB d]
  rw[f];refine⟨.fJ [],(fk s (F) (((F).pos:Nat):Int) fM),⟨(((F).pos:Nat):Int),fM,fun _=>rfl,rfl,rfl⟩, ?_⟩;exact Vf
 have d:F.cd=0:=by simpa using h
 obtain⟨_,W,Y,X⟩:=hq d;subst W Y X;obtain⟨p,G⟩:∃p,p=ia s true r:=⟨_,rfl⟩
 rw[<-G];have o:Ok s F:=by rw[j];exact J.km (by rw[<-j];exact d)
 have aj:F.dp=r.dp:=by obtain⟨q9,C,_⟩:=oH J.pos M (show(km s r).cd=0 by rw[<-j];exact d);rw[j,C];rfl
 have af:=o.size v;refine Vm (ki s F fM v) ?_;simp only[↓X9,X0,seval,X2,bX,XM];have ad:(decide ((if bW s F.pos<0 then(0:Int)else bW s F.pos)=39)||decide ((if bW s F.pos<0 then(0:Int)else bW s F.pos)=34))=je (bW s F.pos):=by have e1:=q7 (s:=s) (p:=F.pos) (show(0:Int)<39 by decide);have e2:=q7 (s:=s) (p:=F.pos) (show(0:Int)<34 by decide);simp only[e1,e2,je];rfl
 refine kT.of (ι:={x:Rd // x=oM s F p 125 58}) (fun x=>⟨[(0,.ptr 0 0 0),(5,.b (je (bW s F.pos)))],(fk s (x.1) ((x.1).pos:Nat) fM)⟩) ?_ ?_
 ·simp only[↓X9,X0,seval,X2,bX];rw[ad];refine Vb (sD s F fM 0 0 [] p.an p.tg p.has (-1) true ⟨v,by omega,o.dn,o.bs,d,o.pos⟩) ?_;simp only[↓X9,X0,seval,X2,bX,XM];refine⟨fun hb=>?_,fun hb=>?_⟩
  ·have L:EO s F true=false:=by simpa using hb
   obtain⟨ex,es⟩:=SL (p:=p) (c1:=125) (c2:=58) L;rw[show vH s F (⟨p.has,p.an,p.tg,0⟩:Pp) (-1) true=F from ex];simp only[q7 (show(0:Int)<44 by decide)];simp only[q7 (show(0:Int)<125 by decide)];simp only[q7 (show(0:Int)<58 by decide)];refine⟨fun E=>?_,fun E=>?_⟩
   ·have m:¬(p.has=true/\(bW s F.pos=44\/bW s F.pos=125\/bW s F.pos=58)):=by rintro⟨k1,Q⟩;rcases Q with Q|Q|Q<;>simp[k1,Q]at E
    rw[aA m]at es;have e:R=er F 10 F.pos:=by rw[U];unfold n1;rw[<-j,<-G,aA (by simpa using d),es,aB (by simp[er])]
    refine Vm (jh s F fM 10 F.pos d) ?_;simp only[↓X9,X0,seval,X2,bX,XM];have f:R=er F 10 F.pos:=e;rw[f];refine⟨.fJ [],(fk s (er F 10 F.pos) (((er F 10 F.pos).pos:Nat):Int) fM),⟨(((er F 10 F.pos).pos:Nat):Int),fM,fun _=>rfl,rfl,rfl⟩, ?_⟩;exact Vf
   have m:p.has=true/\(bW s F.pos=44\/bW s F.pos=125\/bW s F.pos=58):=by
    refine Classical.byContradiction fun I=>?_;cases B:p.has
    ·rw[B]at E;simp at E
    simp only[B,cP,not_or]at I;simp[B,I.1,I.2.1,I.2.2]at E
   rw[aB m]at es;refine Vb (qE s F fM 0 0 [] p.an p.tg 1 [] ⟨by omega,o.dn,o.bs⟩) ?_;simp only[↓X9,X0,seval,X2,bX,XM];refine⟨⟨cY F 1 [] p.an p.tg,es.symm⟩, ?_⟩;simp only[cY,bB,aC,aK,aL,aX];exact(cG.cT [0,1,2,3] (by decide) (by simp only[Yd];exact⟨aM (by simp[Yf,Yh]),aF fun _=>rfl,aF fun _=>rfl,aF fun _=>rfl⟩) (by simp[bC,Vg.look,SV.bP,dX]))
  have L:EO s F true=true:=by simpa using hb
  exact⟨⟨vH s F (⟨p.has,p.an,p.tg,0⟩:Pp) (-1) true,(SM L).symm⟩,(cG.cT [0,1,2,3] (by decide) (by simp only[Yd];exact⟨aM (by simp[Yf,Yh]),aF fun _=>rfl,aF fun _=>rfl,aF fun _=>rfl⟩) (by simp[bC,Vg.look,SV.bP,dX]))⟩
 rintro⟨x,hx⟩;have l:R=if x.cd≠0 then x else if(cL s x).cd≠0 then cL s x else Qt s K (je (bW s F.pos)) (cL s x):=by rw[U];unfold n1;rw[<-j,<-G,<-hx,aA (by simpa using d)]
 simp only[↓X9,X0,seval,X2,bX];by_cases u:x.cd=0
 ·have O:=Ee J j d (by rw[hx,G]) u;have P:=O.ok;simp only[aJ u];simp only[↓X9,X0,seval,X2,bX];obtain⟨g,H⟩:∃g,g=cL s x:=⟨_,rfl⟩
  refine Vm (G6 s x fM ⟨v,u,P.pos⟩) ?_;simp only[↓X9,X0,seval,X2,bX,XM];rw[<-H];rw[aA (by simpa using u),<-H]at l;refine⟨fun h=>?_,fun h=>?_⟩
  ·have n:¬g.cd=0:=by simpa using h
   have f:R=g:=by rw[l,aB n]
   rw[f];refine⟨.fJ [],(fk s (g) (((g).pos:Nat):Int) fM),⟨(((g).pos:Nat):Int),fM,fun _=>rfl,rfl,rfl⟩, ?_⟩;exact Vf
  have n:g.cd=0:=by simpa using h
  have y:Ok s g:=by rw[H];exact P.gN (by rw[<-H];exact n)
  have aa:g.dp=r.dp:=by obtain⟨C,T⟩:=gm (s:=s) (r:=x) (by rw[<-H];exact n);rw[H,C];exact O.dp
  have N:g.pos<s.length:=by obtain⟨C,T⟩:=gm (s:=s) (r:=x) (by rw[<-H];exact n);rw[H,C];exact T
  have ag:=y.size v;rw[aA (by simpa using n)]at l;refine Vm (U7 s g fM (je (bW s F.pos)) ⟨v,y.pos⟩) ?_;simp only[↓X9,X0,seval,X2,bX,XM];have hQ:(decide (bW s g.pos=58)&&(je (bW s F.pos)||gN s (g.pos+1)||re (bW s (g.pos+1))))=decide (bW s g.pos=58/\(gN s (g.pos+1)||re (bW s (g.pos+1))||je (bW s F.pos))=true):=by rw[eH,Bool.decide_eq_true];cases je (bW s F.pos)<;>cases gN s (g.pos+1)<;>simp
  rw[hQ];refine⟨fun E=>CR fun _=>?_,fun E=>?_⟩
  ·obtain⟨b,B⟩:∃b,b=cL s (atR g (g.pos+1)):=⟨_,rfl⟩
   have m:=aW E;rw[Qt,aB m,VB,<-B]at l;refine Vm (G6 s (atR g (g.pos+1)) fM ⟨v,n,N⟩) ?_;simp only[↓X9,X0,seval,dB,jE,XR,qF,ul,er,bB,cY,bX,XM];rw[<-B];refine⟨fun hz=>?_,fun hz=>?_⟩
   ·have A:¬b.cd=0:=by simpa using hz
    have f:R=b:=by rw[l,aB A]
    rw[f];refine⟨.fJ [],(fk s (b) (((b).pos:Nat):Int) fM),⟨(((b).pos:Nat):Int),fM,fun _=>rfl,rfl,rfl⟩, ?_⟩;exact Vf
   have A:b.cd=0:=by simpa using hz
   obtain⟨C,T⟩:=gm (s:=s) (r:=atR g (g.pos+1)) (by rw[<-B];exact A);rw[<-B]at C;have t:Ok s b:=by rw[B];exact(y.at (q:=g.pos+1) (by omega) N).gN (by rw[<-B];exact A)
   have ab:b.dp=r.dp:=by rw[C];exact aa
   have ak:b.pos<s.length:=by rw[C];exact T
   have ah:=t.size v;rw[aA (by simpa using A)]at l;refine Vm (ki s b fM v) ?_;simp only[↓X9,X0,seval,X2,bX,XM];simp only[q7 (show(0:Int)<44 by decide)];by_cases D:bW s b.pos=44
   ·simp only[aJ D];simp only[↓X9,X0,seval,X2,bX];rw[aB (.inl D)]at l;refine Vb (qE s b fM 0 0 [] [] [] 1 [] ⟨by omega,t.dn,t.bs⟩) ?_;simp only[↓X9,X0,seval,X2,bX,XM];have f:R=cY b 1 [] [] []:=l;rw[f];refine⟨.fJ [],(fk s (cY b 1 [] [] []) (((cY b 1 [] [] []).pos:Nat):Int) fM),⟨(((cY b 1 [] [] []).pos:Nat):Int),fM,fun _=>rfl,rfl,rfl⟩, ?_⟩;try simp only[YC,cY,bB,aC,aK,aL,aX]
    exact Vf
   simp only[aI D];simp only[↓X9,X0,seval,X2,bX];refine Vm (ki s b fM v) ?_;simp only[↓X9,X0,seval,X2,bX,XM];simp only[q7 (show(0:Int)<125 by decide)];refine⟨fun I=>?_,fun I=>?_⟩
   ·have w:¬bW s b.pos=125:=by simpa using I
    rw[aA (by rintro(k|k);exact D k;exact w k)]at l;have hN:=HS b fM t ab;unfold mI fk at hN;refine Vq (hN) ?_;rintro z c ⟨a2,S,Z,rfl,rfl⟩;simp only[↓X9,X0,seval,X2,bX,XM];have f:R=K b:=l;rw[f];refine⟨.fJ [],(fk s (K b) a2 S),⟨a2,S,Z,rfl,rfl⟩, ?_⟩;exact Vf
   have w:bW s b.pos=125:=by simpa using I
   rw[aB (.inr w)]at l;refine Vb (qE s b fM 0 0 [] [] [] 1 [] ⟨by omega,t.dn,t.bs⟩) ?_;simp only[↓X9,X0,seval,X2,bX,XM];have f:R=cY b 1 [] [] []:=l;rw[f];refine⟨.fJ [],(fk s (cY b 1 [] [] []) (((cY b 1 [] [] []).pos:Nat):Int) fM),⟨(((cY b 1 [] [] []).pos:Nat):Int),fM,fun _=>rfl,rfl,rfl⟩, ?_⟩;try simp only[YC,cY,bB,aC,aK,aL,aX]
   exact Vf
  have m:=bE E;rw[Qt,aA m]at l;refine Vb (qE s g fM 0 0 [] [] [] 1 [] ⟨by omega,y.dn,y.bs⟩) ?_;simp only[↓X9,X0,seval,X2,bX,XM];have f:R=cY g 1 [] [] []:=l;rw[f];refine⟨.fJ [],(fk s (cY g 1 [] [] []) (((cY g 1 [] [] []).pos:Nat):Int) fM),⟨(((cY g 1 [] [] []).pos:Nat):Int),fM,fun _=>rfl,rfl,rfl⟩, ?_⟩;try simp only[YC,cY,bB,aC,aK,aL,aX]
  exact Vf
 simp only[aI u];simp only[↓X9,X0,seval,X2,bX];have f:R=x:=by rw[l,aB u]
 rw[f];refine⟨.fJ [],(fk s (x) (((x).pos:Nat):Int) fM),⟨(((x).pos:Nat):Int),fM,fun _=>rfl,rfl,rfl⟩, ?_⟩;exact Vf
end Go.T
end
section
namespace Go.T
variable[Go.Vg.df][Go.Vg.cS 0 1]
open Go.Proofs Go.Vg Go.RowKit Go.TT Go.Pl
set_option maxRecDepth 10000
set_option maxHeartbeats 4000000
noncomputable def wA:=gC fun((s,p):Bs×Int)=>([.s s,.i .i64 p],s.length<=1048576,.fJ [.i .i64 ((iA s (spot s p)).1:Nat),.b (iA s (spot s p)).2])
theorem iq{s:Bs}{p:Int}:wA [.s s,.i .i64 p]=some (ptr wA rfl (s,p)):=iZ
theorem jj:fO Tryz.prog 168 wA:=gJ fun(s,p) hp=>by
 dsimp only at *;refine HP (eD.c (fN.c (lQ.c (iX.c iM.d)))) 38 [[0,1],[0,1],[0,1,6],[0,6,33],[4,5],[4,5]] Tryz.func168 [.tmp 4,.tmp 5] ?_;simp only[↓XC,X1,seval,dB,eB,cO,kn,iy,fi];have a:=dW s p;generalize spot s p=q at *;have hw:=gO s q a;have e:=gY s q;simp only[bQ s a,bQ s hw];have hC:(kH s (wh s q)||decide ((((s.getD (wh s q) 0).toNat:Nat):Int)=35)&&(decide ((wh s q:Int)>q)||decide ((la s q:Int)=q)))=decide (kH s (wh s q)=true\/(bW s (wh s q)=35/\(wh s q≠q\/la s q=q))):=by
  cases c:kH s (wh s q)
  ·have d:=kb c;rw[cW d,bO];simp only[cX,aD,aV,aE,bU,false_or];omega
  simp
 rw[hC];have b:(!kH s (wh s q))=true->wh s q<s.length:=fun h=>kb (by simpa using h);refine bH.mk hp fun _=>bH.mk ⟨hp,by omega⟩ fun _=>bH.mk (fun h=>by have:=b h;omega) fun _=>bH.mk (fun h=>⟨⟨h,h⟩,hp⟩) fun _=>⟨fun h=>bH.mk hp fun _=>?_,fun h=>?_⟩
 ·unfold iA;rw[aB (aW h)]
 unfold iA;rw[aA (bE h)]
noncomputable def Aa:=gC fun((s,p):Bs×Int)=>([.s s,.i .i64 p],s.length<=1048576,.i .i64 (gL s (spot s p):Nat))
theorem eu{s:Bs}{p:Int}:Aa [.s s,.i .i64 p]=some (ptr Aa rfl (s,p)):=iZ
theorem nS:fO Tryz.prog 171 Aa:=gJ fun(s,p) hp=>by dsimp only at *;refine HP (eD.c iX.d) 12 [[0,1],[4]] Tryz.func171 [.tmp 4] ?_;simp only[↓XC,X1,seval,dB,eB,iy];have b:=dW s p;have a:=nP s (spot s p);exact bH.mk hp fun _=>CR fun _=>by unfold gL;rw[Int.ofNat_sub a]
noncomputable def tY:=gC fun((s,p):Bs×Int)=>([.s s,.i .i64 p],s.length<=1048576/\0<=p/\p<=s.length,.b (mT s p.toNat))
theorem jq{s:Bs}{p:Int}:tY [.s s,.i .i64 p]=some (ptr tY rfl (s,p)):=iZ
theorem oC:fO Tryz.prog 260 tY:=gJ fun(s,p) hp=>by
 dsimp only at *;refine HP iN.d 21 [[0,1],[4]] Tryz.func260 [.tmp 4] ?_;simp only[↓XC,X1,seval,dB,dT];obtain⟨p,rfl⟩:∃k:Nat,p=k:=⟨p.toNat,by omega⟩
 rw[Int.toNat_natCast];have b:((p:Int)+1).toNat=p+1:=by omega
 have c:(decide ((p:Int)<(s.length:Nat))&&decide ((((s.getD p 0).toNat:Nat):Int)=45))=decide (bW s p=45):=by
  rcases aU p s.length with a|a
  ·rw[cW a,aJ (show(p:Int)<(s.length:Nat) by omega),di]
  rw[eZ a,aI (show ¬(p:Int)<(s.length:Nat) by omega)];rfl
 rw[c,b];refine bH.mk (fun h=>by omega) fun _=>bH.mk (fun h=>by simp only[iU];omega) fun _=>bH.mk (fun h=>⟨⟨h,h⟩,hp.1,by omega⟩) fun _=>rfl
noncomputable def tX:=gC fun((s,p):Bs×Int)=>([.s s,.i .i64 p],s.length<=1048576,.i .i64 (gZ s (en s (spot s p)):Nat))
theorem jS{s:Bs}{p:Int}:tX [.s s,.i .i64 p]=some (ptr tX rfl (s,p)):=iZ
theorem sY:fO Tryz.prog 330 tX:=gJ fun(s,p) hp=>by
 dsimp only at *;refine HP iM.d 16 [[0,1],[0,5],[5,12],[5],[4]] Tryz.func330 [.tmp 4] ?_;simp only[↓XC,X1,seval,dB,fi];have a:=jF s _ (dW s p);have e:gZ s (en s (spot s p))=min (en s (spot s p)+1) s.length:=rfl;refine bH.mk hp fun _=>⟨fun h=>CR fun _=>?_,fun h=>?_⟩
 ·rw[e,show min (en s (spot s p)+1) s.length=en s (spot s p)+1 by omega];rfl
 rw[e,show min (en s (spot s p)+1) s.length=en s (spot s p) by omega]
noncomputable def wO:=gC fun(s:Bs)=>([.s s],s.length<=1048576,.b (FN s))
theorem vf{s:Bs}:wO [.s s]=some (ptr wO rfl s):=iZ
theorem Em:fO Tryz.prog 359 wO:=gJ fun s hp=>by dsimp only at *;refine HP j4.d 5 [[0],[2]] Tryz.func359 [.tmp 2] ?_;simp only[↓XC,X1,seval,dB,gi];exact bH.mk hp fun _=>rfl
noncomputable def rr:=gC fun((s,p):Bs×Int)=>([.s s,.i .i64 p],s.length<=1048576,.fJ [.i .i64 (jJ s (spot s p)).1,.i .i64 (jJ s (spot s p)).2.1,.i .i64 ((jJ s (spot s p)).2.2.1:Nat),.i .i64 (jJ s (spot s p)).2.2.2])
theorem Ag{s:Bs}{p:Int}:rr [.s s,.i .i64 p]=some (ptr rr rfl (s,p)):=iZ
theorem Ah:fO Tryz.prog 329 rr:=gJ fun(s,p) hp=>by
 dsimp only at *;refine HP (eD.c jj.d) 88 [[0,1],[0,1],[0,1,31],[4,5,6,7],[0,1,8],[0,1,8,9],[0,8,9,10],[0,8,9,10,38],[0,8,9,10,52],[0,8,9,10],[0,8,9,10,65],[0,8,9,10],[0,8,9,10,73],[0,8,9,10],[0,8,9,10],[8,9,11,12],[8,9,11,83],[4,5,6,7],[4,5,6,7]] Tryz.func329 [.tmp 4,.tmp 5,.tmp 6,.tmp 7] ?_;simp only[↓XC,X1,seval,dB,eB,iq];have C:=dW s p;generalize spot s p=q0 at *;have B:(decide ((q0:Int)>=(s.length:Nat))||!decide ((((s.getD q0 0).toNat:Nat):Int)=124)&&!decide ((((s.getD q0 0).toNat:Nat):Int)=62))=!decide (bW s q0=124\/bW s q0=62):=by
  rcases aU q0 s.length with n|n
  ·rw[cW n,aI (show ¬(q0:Int)>=(s.length:Nat) by omega),cX,Bool.decide_or,Bool.not_or]
  rw[eZ n,aJ (show(q0:Int)>=(s.length:Nat) by omega)];rfl
 rw[B];refine bH.mk (fun h=>by simp at h;omega) fun _=>bH.mk (fun h=>by simp at h;omega) fun _=>⟨fun h=>?_,fun h=>CR fun _=>?_⟩
 ·unfold jJ;rw[aA (by simpa using h)]
 have t:bW s q0=124\/bW s q0=62:=by
  cases hd:decide (bW s q0=124\/bW s q0=62)
  ·rw[hd]at h;cases h
  exact aW hd
 have n:q0<s.length:=by
  rcases t with h|h
  ·exact cE h (by decide)
  exact cE h (by decide)
 unfold jJ;rw[aB t];refine cF.of (ι:={x:(Nat×Int)×Int×Bool // x.1.1<=s.length/\0<=x.1.2/\x.1.2<=9/\(x.2.2=false↔x.2.1=0)/\sm s x.1.1 x.1.2 x.2.1 x.2.2=sm s (q0+1) 0 0 false}) (fun x=>⟨[(0,.s s),(8,.i .i64 x.1.1.2),(9,.i .i64 x.1.2.1),(10,.i .i64 (x.1.1.1:Nat))],[]⟩) (fun x=>s.length-x.1.1.1) ⟨((q0+1,0),0,false),by simp only;omega,Int.le_refl 0,(show(0:Int)<=9 by decide),by simp,rfl⟩ (cG.refl _ _) ?_;rintro⟨⟨⟨q,m⟩,ch,sg⟩,w,k,l,f,hw⟩;simp only[↓XC,X1,seval,dB,iq];simp only at w k l f hw;have v:¬((49<=bW s q/\bW s q<=57)/\m=0)->¬((bW s q=43\/bW s q=45)/\sg=false)->bH (s.length<=1048576) (((!(iA s (spot s q)).2)=true->SV.fJ [.i .i64 0,.i .i64 0,.i .i64 ((iA s (spot s q)).1:Nat),.i .i64 6]=.fJ [.i .i64 (sm s (q0+1) 0 0 false).1,.i .i64 (sm s (q0+1) 0 0 false).2.1,.i .i64 ((sm s (q0+1) 0 0 false).2.2.1:Nat),.i .i64 (sm s (q0+1) 0 0 false).2.2.2])/\((!(iA s (spot s q)).2)=false->SV.fJ [.i .i64 m,.i .i64 ch,.i .i64 ((iA s (spot s q)).1:Nat),.i .i64 0]=.fJ [.i .i64 (sm s (q0+1) 0 0 false).1,.i .i64 (sm s (q0+1) 0 0 false).2.1,.i .i64 ((sm s (q0+1) 0 0 false).2.2.1:Nat),.i .i64 (sm s (q0+1) 0 0 false).2.2.2])):=by
  intro g o;rw[bQ s w,<-hw,Sf g o];refine bH.mk hp fun _=>⟨fun j=>?_,fun j=>?_⟩
  ·rw[aA (by simpa using j)]
  rw[aB (by simpa using j)]
 refine⟨fun n=>?_,fun n=>?_⟩
 ·have d:q<s.length:=by omega
  have z:(decide ((((s.getD q 0).toNat:Nat):Int)>=49)&&decide ((((s.getD q 0).toNat:Nat):Int)<=57)&&decide (m=0))=decide ((49<=bW s q/\bW s q<=57)/\m=0):=by rw[cW d,eH,eH]
  have r:decide (ch=0)=!sg:=by
   cases sg
   ·rw[aJ (f.1 rfl)];rfl
   rw[aI (fun h=>by have:=f.2 h;cases this)];rfl
  have A:(decide ((((s.getD q 0).toNat:Nat):Int)=43)&&decide (ch=0))=decide (bW s q=43/\sg=false):=by rw[cW d,r,eH];cases sg<;>rfl
  have hC:(decide ((((s.getD q 0).toNat:Nat):Int)=45)&&decide (ch=0))=decide (bW s q=45/\sg=false):=by rw[cW d,r,eH];cases sg<;>rfl
  rw[z,A,hC];have y:=cW d;refine CO fun _=>bH.mk (fun _=>by omega) fun _=>⟨fun g=>?_,fun g=>CO fun _=>⟨fun o=>CR fun _=>?_,fun o=>CO fun _=>⟨fun j=>CR fun _=>?_,fun j=>?_⟩⟩⟩
  ·have a:=aW g;refine CO fun _=>CR fun _=>CR fun _=>CR fun _=>?_;rw[<-y];exact⟨⟨((q+1,bW s q-48),ch,sg),by simp only;omega,by simp only;omega,by simp only;omega,f,by simp only;rw[<-Se a];exact hw⟩,by simp only;omega,(by first|exact cG.refl _ _|(simp only[aP,aQ];exact cG.refl _ _))⟩
  ·have a:=bE g;have c:=aW o;have e:=J0 a ⟨.inl c.1,c.2⟩ (ch:=ch);rw[Vz,aA (by omega)]at e;exact⟨⟨((q+1,m),2,true),by simp only;omega,k,l,by simp,by simp only;rw[<-e];exact hw⟩,by simp only;omega,(by first|exact cG.refl _ _|(simp only[aP,aQ];exact cG.refl _ _))⟩
  ·have a:=bE g;have b:=aW j;have e:=J0 a ⟨.inr b.1,b.2⟩ (ch:=ch);rw[Vz,aB b.1]at e;exact⟨⟨((q+1,m),1,true),by simp only;omega,k,l,by simp,by simp only;rw[<-e];exact hw⟩,by simp only;omega,(by first|exact cG.refl _ _|(simp only[aP,aQ];exact cG.refl _ _))⟩
  have c:=bE o;have b:=bE j;exact v (bE g) (fun h=>by rcases h with⟨h|h,u⟩;exact c ⟨h,u⟩;exact b ⟨h,u⟩)
 have y:=eZ (s:=s) (i:=q) (by omega);exact v (by omega) (by omega)
end Go.T
end
