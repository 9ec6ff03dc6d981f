/- Own text: part VBJ. -/
import Derived.Test.YtgippllfnmdnpaaGreatDoorVBI
import Derived.Test.YtgippllfnmdnpaaGreatDoorVAR
import Derived.Test.YtgippllfnmdnpaaGreatDoorVAS
set_option linter.all false
section
namespace Go.T
variable[Go.Vg.df][Go.Vg.cS 0 1]
open Go.Proofs Go.Vg Go.RowKit Go.TT Go.Pl
set_option maxRecDepth 10000
set_option maxHeartbeats 4000000
theorem WX(s:Bs)(r:Rd)(d:Int)(o b:Int)(p an tg:Bs)(l:Bool)(hp:s.length<=1048576/\r.ev.length<=16777216/\r.dn.length=r.ev.length/\r.bs<=r.ev.length/\r.cd=0/\r.pos<=s.length/\(jg s r.pos).2.2=true):gQ Tryz.prog 297 1 [.ptr 0 0 0,.agg [.i .i64 o,.i .i64 b,.b false,.s p,.s an,.s tg,.i .i64 0,.i .i64 0],.b l] (fk s (r) ((r).pos:Nat) d) (fun z c=>z=.fJ []/\c=(fk s (qP s r (⟨l,an,tg,0⟩:Pp)) ((jg s r.pos).2.1.toNat+1:Nat) d)):=by
 refine l5 ov.d 57 [[0,2,4],[0,2,4,6,7],[0,2,4,6,7,34],[0,7],[0,7],[]] Tryz.func297 [] (fun _=>true) [2] [(1,[],[],qa (.q0 3 [3] (.q0 7 [7] (.de 8 (qg .fin) .fin)))),(3,[],[],.q1 0 (.q1 2 (.q1 3 (.q1 4 (.q1 6 (.q1 7 (.q1 8 (.q1 10 (.q0 5 [5,11,12] (.q0 9 [9,11,12] (.q1 11 (.q0 1 [1,12] (.seq [12])))))))))))))] ?_;simp only[↓X9,X0,seval,X2,jR,bX];obtain⟨n,i,j,k,m,a,q⟩:=hp;obtain⟨t,u,v,w,x⟩:=jz a q;refine kT.of (ι:=Unit) (fun _=>⟨[(0,.ptr 0 0 0),(2,.b l),(4,.ptr 4 0 0),(6,.i .i64 (jg s r.pos).1),(7,.i .i64 (jg s r.pos).2.1)],(Qu s (r) ((r).pos:Nat) d [some (.gA false [.i .i64 o,.i .i64 b,.b false,.s p,.s an,.s tg,.i .i64 0,.i .i64 0])])⟩) ?_ ?_
 ·simp only[↓X9,X0,seval,X2,jR,bX];rw[bQ s a];exact⟨by decide +kernel,bH.mk n fun _=>⟨(),cG.refl _ _⟩⟩
 rintro⟨⟩;simp only[↓X9,X0,seval,X2,bX];refine Vm (ki s r d n) ?_;simp only[↓X9,X0,seval,X2,bX,XM];simp only[q7 (show(0:Int)<42 by decide)];by_cases h:bW s r.pos=42
 ·simp only[aJ h];simp only[↓X9,X0,seval,X2,bX];refine Vb (sD s r d o b p an tg l (-1) false ⟨n,i,j,k,m,a⟩) ?_;simp only[↓X9,X0,seval,X2,bX,XM];rw[show(jg s r.pos).2.1+1=(((jg s r.pos).2.1.toNat+1:Nat):Int) by omega];refine CR fun _=>?_;rw[D2 (.inl h)];exact Vf
 simp only[aI h];simp only[↓X9,X0,seval,X2,bX];refine Vm (ki s r d n) ?_;simp only[↓X9,X0,seval,X2,bX,XM];simp only[q7 (show(0:Int)<39 by decide)];by_cases g:bW s r.pos=39
 ·simp only[aJ g];simp only[↓X9,X0,seval,X2,bX];refine Vb (sD s r d o b p an tg l (-1) false ⟨n,i,j,k,m,a⟩) ?_;simp only[↓X9,X0,seval,X2,bX,XM];rw[show(jg s r.pos).2.1+1=(((jg s r.pos).2.1.toNat+1:Nat):Int) by omega];refine CR fun _=>?_;rw[D2 (.inr (by rw[g];decide))];exact Vf
 simp only[aI g];simp only[↓X9,X0,seval,X2,bX];refine Vm (ki s r d n) ?_;simp only[↓X9,X0,seval,X2,bX,XM];simp only[q7 (show(0:Int)<34 by decide)];by_cases f:bW s r.pos=34
 ·simp only[aJ f];simp only[↓X9,X0,seval,X2,bX];refine Vb (sD s r d o b p an tg l (-1) false ⟨n,i,j,k,m,a⟩) ?_;simp only[↓X9,X0,seval,X2,bX,XM];rw[show(jg s r.pos).2.1+1=(((jg s r.pos).2.1.toNat+1:Nat):Int) by omega];refine CR fun _=>?_;rw[D2 (.inr (by rw[f];decide))];exact Vf
 simp only[aI f];simp only[↓X9,X0,seval,X2,bX];refine⟨by decide +kernel,bH.mk ⟨by omega,by omega,by omega⟩ fun _=>?_⟩;rw[show List.drop r.pos (List.take (jg s r.pos).1.toNat s)=sub s r.pos (jg s r.pos).1.toNat from rfl];have e:qP s r (⟨l,an,tg,0⟩:Pp)=cY r 1 (sub s r.pos (jg s r.pos).1.toNat) an tg:=by unfold qP je;rw[aA h,aA (by simp[g,f])]
 refine Vb (qE s r d o b p an tg 1 (sub s r.pos (jg s r.pos).1.toNat) ⟨i,j,k⟩) ?_;simp only[↓X9,X0,seval,X2,bX,XM];rw[show(jg s r.pos).2.1+1=(((jg s r.pos).2.1.toNat+1:Nat):Int) by omega];refine CR fun _=>?_;rw[e];try simp only[cY,bB,aC,aK,aL,aX]
 exact Vf
end Go.T
end
section
namespace Go.T
variable[Go.Vg.df][Go.Vg.cS 0 1]
open Go.Proofs Go.Vg Go.RowKit Go.TT Go.Pl
set_option maxRecDepth 10000
set_option maxHeartbeats 4000000
theorem WZ(s:Bs)(x:Rb)(j:Int)(q:Int->Bool->Bool->Rb->Rb)(sg:Nat)(b:Int)(W:∀(n:Int) (i l:Bool) (G:Rb) (fM:Int),Ok s G.r->G.r.dp=x.r.dp -> -1<=n->n<=60000->ql Tryz.prog 226 s [.i .i64 n,.b i,.b l] fM G.r (q n i l G))(hp:s.length<=60000/\Ok s (atR x.r (sg+1))/\x.r.ev.length+1<=8*(sg+1)+64/\sg<s.length/\x.r.pos=sg+1 /\ -1<=b/\b<=60000):gQ Tryz.prog 298 1 [.ptr 0 0 0,.i .i64 b] (fk s (x.r) ((x.r).pos:Nat) j) (fun z c=>∃(a V:Int) (X:Bool),(((ls s q sg b false x)).r.cd=0->a=((((ls s q sg b false x)).r.pos:Nat):Int)/\X=((ls s q sg b false x)).fr)/\z=.b X/\c=(fk s (((ls s q sg b false x)).r) a V)):=by
 refine Jh (jj.c fN.d) 57 [[0,1],[0,1,5,6],[0,1,5,20],[0,1],[4],[0,1,5],[0,1,5,43],[4],[0,1,5,46],[4],[0,5],[],[4]] Tryz.func298 [.tmp 4] (fun _=>false) [] [(1,[],[],qa (.q0 3 [3] (.q0 7 [7] (.de 8 (qh .fin) .fin)))),(3,[],[],qf (.q0 4 [4,9,10,11,12] (.q0 8 [8,9,10,11,12] (.seq [9,10,11,12]))))] ?_;simp only[↓X9,X0,seval,X2,iq,cO,bI];obtain⟨h6,E,ad,o,U,B,C⟩:=hp;have F:s.length<=1048576:=by omega
 have M:x.r.cd=0:=E.cd;have ab:x.r.dn.length=x.r.ev.length:=E.dn;have aa:x.r.bs<=x.r.ev.length:=E.bs;have S:=gY s (sg+1);have T:=gO s (sg+1) o;have N:=fq s (sg+1);have D:=ez s (sg+1) o;have hr:=gV (s:=s) (p:=sg+1) o;obtain⟨R,A⟩:∃R,R=ls s q sg b false x:=⟨_,rfl⟩
 rw[<-A];rw[U,bQ s (show sg+1<=s.length from o)];refine⟨by decide +kernel,bH.mk F fun _=>⟨fun h=>?_,fun h=>?_⟩⟩
 ·have y:(iA s (sg+1)).2=false:=by simpa using h
  refine⟨by decide +kernel,bH.mk F fun _=>?_⟩;have t:=W b true false (bI x (atR x.r (wh s (sg+1)))) j (uZ (r:=atR x.r (sg+1)) E (by simp only[atR];omega) S T) rfl B C;have H:q b true false (bI x (atR x.r (wh s (sg+1))))=R:=by rw[A];unfold ls;rw[aB y];rfl
  rw[H]at t;unfold ql fk at t;refine Vq (t) ?_;rintro z c ⟨a2,f,e,u,rfl,rfl⟩;simp only[↓X9,X0,seval,X2,bI,XM];refine⟨.b e,(fk s ((R).r) a2 f),⟨a2,f,e,u,rfl,rfl⟩, ?_⟩;exact Vf
 have y:¬(iA s (sg+1)).2=false:=by simpa using h
 have Y:(iA s (sg+1)).2=true:=by simpa using h
 have L:=AY s (atR x.r (sg+1)) j (iA s (sg+1)).1 ⟨F,M,hr.2⟩;rw[Ec Y,Eb]at L;obtain⟨g,w⟩:∃g,g=jn s x.r (sg+1):=⟨_,rfl⟩
 rw[<-w]at L;refine Vm (L) ?_;simp only[↓X9,X0,seval,X2,bI,XM];refine⟨fun J=>?_,fun J=>?_⟩
 ·have d:¬g.cd=0:=by simpa using J
  have I:R=bI x g:=by rw[A];unfold ls;rw[aA y,<-w,aB d]
  rw[I];refine⟨.b true,(fk s ((bI x g).r) ((g.pos:Nat):Int) j),⟨((g.pos:Nat):Int),j,true,fun h=>absurd h d,rfl,rfl⟩, ?_⟩;exact Vf
 have d:g.cd=0:=by simpa using J
 have v:g=atR x.r (dR s (sg+1)):=by rw[w];exact jU (by rw[<-w];exact d)
 have Q:g.pos<=s.length:=by rw[v];exact D
 have m:Ok s g:=by rw[v];exact uZ (r:=atR x.r (sg+1)) E (by simp only[atR];omega) N D
 have P:g.ev.length<=16777216:=cv (m.size F) (by decide);have O:g.dp=x.r.dp:=by rw[v];rfl
 refine Vm (Pj s g j b true ⟨F,Q⟩) ?_;simp only[↓X9,X0,seval,X2,bI,XM];refine⟨fun K=>?_,fun K=>?_⟩
 ·have hd:FF s g.pos b true=true:=K;have k:fV s g.pos=false/\Ib s g.pos b true=true:=by unfold FF at hd;simpa using hd
  have t:=W b false true (bI x g) j m O B C;have H:q b false true (bI x g)=R:=by rw[A];unfold ls;rw[aA y,<-w,aA (by simpa using d),aA (by rw[k.1];simp[k.2])];rfl
  rw[H]at t;unfold ql fk at t;refine Vq (t) ?_;rintro z c ⟨a2,f,e,u,rfl,rfl⟩;simp only[↓X9,X0,seval,X2,bI,XM];refine⟨.b e,(fk s ((R).r) a2 f),⟨a2,f,e,u,rfl,rfl⟩, ?_⟩;exact Vf
 have hd:FF s g.pos b true=false:=by simpa using K
 have k:fV s g.pos=true\/Ib s g.pos b true=false:=by
  unfold FF at hd;cases Z:fV s g.pos
  ·right;rw[Z]at hd;simpa using hd
  exact .inl rfl
 refine Vb (Ln s g j 0 0 [] [] [] ⟨P,m.dn,m.bs⟩) ?_;simp only[↓X9,X0,seval,X2,bI,XM];have I:R=qJ x g (kF 0) (iA s (sg+1)).1:=by rw[A];unfold ls;rw[aA y,<-w,aA (by simpa using d)];exact aB k
 rw[I];refine⟨.b true,(fk s ((qJ x g (kF 0) (iA s (sg+1)).1).r) (((iA s (sg+1)).1:Nat):Int) j),⟨(((iA s (sg+1)).1:Nat):Int),j,true,fun _=>⟨rfl,rfl⟩,rfl,rfl⟩, ?_⟩;try simp only[YC,qJ,kF,BD,cY,bB,atR,bI,aC,aK,aL,aX]
 exact Vf
theorem Wi(s:Bs)(x:Rb)(j:Int)(q:Int->Bool->Bool->Rb->Rb)(sg:Nat)(b:Int)(W:∀(n:Int) (i l:Bool) (G:Rb) (fM:Int),Ok s G.r->G.r.dp=x.r.dp -> -1<=n->n<=60000->ql Tryz.prog 226 s [.i .i64 n,.b i,.b l] fM G.r (q n i l G))(hp:s.length<=60000/\Ok s (atR x.r (sg+1))/\x.r.ev.length+1<=8*(sg+1)+64/\sg<s.length/\x.r.pos=sg /\ -1<=b/\b<=60000):gQ Tryz.prog 300 1 [.ptr 0 0 0,.i .i64 b] (fk s (x.r) ((x.r).pos:Nat) j) (fun z c=>∃(a V:Int) (X:Bool),(((ls s q sg b true x)).r.cd=0->a=((((ls s q sg b true x)).r.pos:Nat):Int)/\X=((ls s q sg b true x)).fr)/\z=.b X/\c=(fk s (((ls s q sg b true x)).r) a V)):=by
 refine Jh (jj.c fN.d) 64 [[0,1],[0,1],[0,1,5,6],[0,1,5,27],[0,1],[4],[0,1,5],[0,1,5,50],[4],[0,1,5,53],[4],[0,5],[],[4]] Tryz.func300 [.tmp 4] (fun _=>false) [] [(2,[],[],qa (.q0 3 [3] (.q0 7 [7] (.de 8 (qh .fin) .fin)))),(4,[],[],qf (.q0 4 [4,9,10,11,12] (.q0 8 [8,9,10,11,12] (.seq [9,10,11,12]))))] ?_;simp only[↓X9,X0,seval,X2,iq,cO,bI];obtain⟨h6,E,ad,o,U,B,C⟩:=hp;have F:s.length<=1048576:=by omega
 have M:x.r.cd=0:=E.cd;have ab:x.r.dn.length=x.r.ev.length:=E.dn;have aa:x.r.bs<=x.r.ev.length:=E.bs;have S:=gY s (sg+1);have T:=gO s (sg+1) o;have N:=fq s (sg+1);have D:=ez s (sg+1) o;have hr:=gV (s:=s) (p:=sg+1) o;obtain⟨R,A⟩:∃R,R=ls s q sg b true x:=⟨_,rfl⟩
 rw[<-A];rw[U];refine CR fun _=>?_;rw[show(((sg:Nat):Int))+1=((sg+1:Nat):Int) by omega,bQ s (show sg+1<=s.length from o)];refine⟨by decide +kernel,bH.mk F fun _=>⟨fun h=>?_,fun h=>?_⟩⟩
 ·have y:(iA s (sg+1)).2=false:=by simpa using h
  refine⟨by decide +kernel,bH.mk F fun _=>?_⟩;have t:=W b false false (bI x (atR x.r (wh s (sg+1)))) j (uZ (r:=atR x.r (sg+1)) E (by simp only[atR];omega) S T) rfl B C;have H:q b false false (bI x (atR x.r (wh s (sg+1))))=R:=by rw[A];unfold ls;rw[aB y];rfl
  rw[H]at t;unfold ql fk at t;refine Vq (t) ?_;rintro z c ⟨a2,f,e,u,rfl,rfl⟩;simp only[↓X9,X0,seval,X2,bI,XM];refine⟨.b e,(fk s ((R).r) a2 f),⟨a2,f,e,u,rfl,rfl⟩, ?_⟩;exact Vf
 have y:¬(iA s (sg+1)).2=false:=by simpa using h
 have Y:(iA s (sg+1)).2=true:=by simpa using h
 have L:=AY s (atR x.r (sg+1)) j (iA s (sg+1)).1 ⟨F,M,hr.2⟩;rw[Ec Y,Eb]at L;obtain⟨g,w⟩:∃g,g=jn s x.r (sg+1):=⟨_,rfl⟩
 rw[<-w]at L;refine Vm (L) ?_;simp only[↓X9,X0,seval,X2,bI,XM];refine⟨fun J=>?_,fun J=>?_⟩
 ·have d:¬g.cd=0:=by simpa using J
  have I:R=bI x g:=by rw[A];unfold ls;rw[aA y,<-w,aB d]
  rw[I];refine⟨.b true,(fk s ((bI x g).r) ((g.pos:Nat):Int) j),⟨((g.pos:Nat):Int),j,true,fun h=>absurd h d,rfl,rfl⟩, ?_⟩;exact Vf
 have d:g.cd=0:=by simpa using J
 have v:g=atR x.r (dR s (sg+1)):=by rw[w];exact jU (by rw[<-w];exact d)
 have Q:g.pos<=s.length:=by rw[v];exact D
 have m:Ok s g:=by rw[v];exact uZ (r:=atR x.r (sg+1)) E (by simp only[atR];omega) N D
 have P:g.ev.length<=16777216:=cv (m.size F) (by decide);have O:g.dp=x.r.dp:=by rw[v];rfl
 refine Vm (Pj s g j b false ⟨F,Q⟩) ?_;simp only[↓X9,X0,seval,X2,bI,XM];refine⟨fun K=>?_,fun K=>?_⟩
 ·have hd:FF s g.pos b false=true:=K;have k:fV s g.pos=false/\Ib s g.pos b false=true:=by unfold FF at hd;simpa using hd
  have t:=W b false false (bI x g) j m O B C;have H:q b false false (bI x g)=R:=by rw[A];unfold ls;rw[aA y,<-w,aA (by simpa using d),aA (by rw[k.1];simp[k.2])];rfl
  rw[H]at t;unfold ql fk at t;refine Vq (t) ?_;rintro z c ⟨a2,f,e,u,rfl,rfl⟩;simp only[↓X9,X0,seval,X2,bI,XM];refine⟨.b e,(fk s ((R).r) a2 f),⟨a2,f,e,u,rfl,rfl⟩, ?_⟩;exact Vf
 have hd:FF s g.pos b false=false:=by simpa using K
 have k:fV s g.pos=true\/Ib s g.pos b false=false:=by
  unfold FF at hd;cases Z:fV s g.pos
  ·right;rw[Z]at hd;simpa using hd
  exact .inl rfl
 refine Vb (Ln s g j 0 0 [] [] [] ⟨P,m.dn,m.bs⟩) ?_;simp only[↓X9,X0,seval,X2,bI,XM];have I:R=qJ x g (kF 0) (iA s (sg+1)).1:=by rw[A];unfold ls;rw[aA y,<-w,aA (by simpa using d)];exact aB k
 rw[I];refine⟨.b true,(fk s ((qJ x g (kF 0) (iA s (sg+1)).1).r) (((iA s (sg+1)).1:Nat):Int) j),⟨(((iA s (sg+1)).1:Nat):Int),j,true,fun _=>⟨rfl,rfl⟩,rfl,rfl⟩, ?_⟩;try simp only[YC,qJ,kF,BD,cY,bB,atR,bI,aC,aK,aL,aX]
 exact Vf
end Go.T
end
section
namespace Go.T
variable[Go.Vg.df][Go.Vg.cS 0 1]
open Go.Proofs Go.Vg Go.RowKit Go.TT Go.Pl
set_option maxRecDepth 10000
set_option maxHeartbeats 4000000
theorem SW(s:Bs)(x:Rb)(pr:Int)(u:Int->Bool->Bool->Rb->Rb)(O:Bool)(j o:Bs)(N:Nat)(HS:x.r.dp<40->kM s (x.r.dp+1) u/\∀(n:Int) (i l:Bool) (P:Rb) (fM:Int),Ok s P.r->P.r.dp=x.r.dp+1 -> -1<=n->n<=60000->ql Tryz.prog 226 s [.i .i64 n,.b i,.b l] fM P.r (u n i l P))(hp:s.length<=60000/\Ok s x.r/\x.r.pos<s.length):gQ Tryz.prog 261 1 [.ptr 0 0 0,.agg [.i .i64 0,.i .i64 0,.b false,.s [],.s j,.s o,.i .i64 0,.i .i64 0]] (fk s (x.r) ((x.r).pos:Nat) pr) (fun z c=>∃(a ax:Int),(((xG s u (⟨O,j,o,N⟩:Pp) x)).r.cd=0->a=((((xG s u (⟨O,j,o,N⟩:Pp) x)).r.pos:Nat):Int)/\((xG s u (⟨O,j,o,N⟩:Pp) x)).fr=true)/\z=.fJ []/\c=(fk s (((xG s u (⟨O,j,o,N⟩:Pp) x)).r) a ax)):=by
 refine Jh (nS.c oC.d) 101 [[0,3],[0,3,4],[0,4,5],[0,4,5,24],[0,4,5,6],[0,4,5,6,7],[0,4,5,6,7,36],[0,4,5,7],[0,4,5,7,44],[0,4,5,7,60],[],[0,4,5,7,93],[0,5],[]] Tryz.func261 [] (fun _=>true) [] [(1,[],[],qa (.q0 3 [3] (.q0 7 [7] (.de 8 (.q1 9 .fin) .fin)))),(9,[],[],.q1 0 (.de 1 (.q1 2 (.q1 3 (.q1 4 (.q1 5 (.q1 6 (qd (.q1 10 (.q1 13 (.q0 7 [7,12,14,15] (.q0 11 [11,12,14,15] (.seq [12,14,15]))))))))))) .fin)),(11,[],[],.q1 0 (.de 1 (.q1 2 (.q1 3 (.q1 4 (.q1 5 (.q1 7 (qd (.q1 12 (.q0 6 [6,11,13,14,15,16,17,18,19,20,21,22,23,24,25,26] (.q0 10 [10,11,13,14,15,16,17,18,19,20,21,22,23,24,25,26] (.de 11 (.q1 13 (.q1 14 (.q1 15 (.q1 16 (.q1 17 (.q1 18 (.q1 20 (.q1 21 (.q1 22 (.q0 19 [19,24,25,26] (.q0 23 [23,24,25,26] (.seq [24,25,26])))))))))))) .fin)))))))))) .fin))] ?_;simp only[↓X9,X0,seval,X2,eu,jq,bI];obtain⟨h6,F,hl⟩:=hp;have G:s.length<=1048576:=by omega
 have V:=F.pos;have a6:=F.cd;have a8:=F.size G;have a7:gL s x.r.pos<=60000:=by unfold gL;omega
 obtain⟨R,hR⟩:∃R,R=(xG s u (⟨O,j,o,N⟩:Pp) x):=⟨_,rfl⟩
 rw[<-hR];rw[bQ s V];refine⟨by decide +kernel,bH.mk G fun _=>?_⟩;refine Vb (Lo s x.r pr 0 0 [] j o 3 7 ⟨by omega,F.dn,F.bs,F.cd,F.dp⟩) ?_;simp only[↓X9,X0,seval,X2,bI,XM];obtain⟨ro,B⟩:∃ro,ro=jt x.r 3 7 (⟨O,j,o,N⟩:Pp) x.r.pos:=⟨_,rfl⟩
 rw[show jt x.r 3 7 (⟨false,j,o,0⟩:Pp) x.r.pos=ro from B.symm];have ag:(ro.cd=0/\((ro.pos:Nat):Int)=(ro.pos:Nat)/\vG s ro/\ro.dp=x.r.dp+1/\x.r.dp<40/\(x.r.ev++[oQ 3 7 j o]) <+: ro.ev/\ro.bs=x.r.bs/\yz s u (gL s x.r.pos) x.r.ev.length (bI x ro)=R)\/(ro.cd≠0/\R=(bI x ro)):=by
  by_cases hz:ro.cd=0
  ·obtain⟨hM,e1,e2,e3,e4,e5,e6⟩:=rp F hl (show(jt x.r 3 7 (⟨O,j,o,N⟩:Pp) x.r.pos).cd=0 by rw[<-B];exact hz);rw[<-B]at hM e1 e2 e3 e4 e5;exact .inl ⟨hz,rfl,hM,e5,e6,by rw[e2];exact List.prefix_refl _,e4,by rw[hR];unfold xG;rw[<-B,aA (by simpa using hz)]⟩
  exact .inr ⟨hz,by rw[hR];unfold xG;rw[<-B,aB hz]⟩
 refine cF.of (ι:={y:Rb×Int×Int // (y.1.r.cd=0/\y.2.1=(y.1.r.pos:Nat)/\vG s y.1.r/\y.1.r.dp=x.r.dp+1/\x.r.dp<40/\(x.r.ev++[oQ 3 7 j o]) <+: y.1.r.ev/\y.1.r.bs=x.r.bs/\yz s u (gL s x.r.pos) x.r.ev.length y.1=R)\/(y.1.r.cd≠0/\R=y.1)}) (fun y=>⟨[(0,.ptr 0 0 0),(4,.i .i64 ((gL s x.r.pos:Nat):Int)),(5,.i .i64 (if 40<=x.r.dp then(-2:Int)else if j=[]then -1 else((iu x.r.ev x.r.dn x.r.bs).length:Nat)))],(fk s (y.1.1.r) y.1.2.1 y.1.2.2)⟩) (fun y=>if y.1.1.r.cd=0 then s.length+1-y.1.1.r.pos else 0) ⟨(bI x ro,((ro.pos:Nat):Int),pr),ag⟩ (cG.cT [0,1,2,3] (by decide) (by simp only[Yd];exact⟨aM (by simp[Yf,Yh,bI]),aF fun _=>rfl,aF fun _=>rfl,aF fun _=>rfl⟩) (by simp[bC,Vg.look,SV.bP,dX,jE,XR,qF,ul,Yh])) ?_;rintro⟨⟨y,a1,fM⟩,hI⟩;simp only[YC];simp only[↓X9,X0,seval,X2,bI];by_cases t:y.r.cd=0
 ·have ah:a1=(y.r.pos:Nat)/\vG s y.r/\y.r.dp=x.r.dp+1/\x.r.dp<40/\(x.r.ev++[oQ 3 7 j o]) <+: y.r.ev/\y.r.bs=x.r.bs/\yz s u (gL s x.r.pos) x.r.ev.length y=R:=by
   rcases hI with h|h
   ·exact h.2
   exact absurd t h.1
  obtain⟨au,C,J,K,W,aw,m⟩:=ah;subst au;obtain⟨X,HN⟩:=HS K;have az:=C.sz;have g:=C.pos;refine⟨fun _=>?_,fun p=>absurd t p⟩;have U:Ok s (atR y.r (y.r.pos+1)):=⟨C.cd,g,C.dn,C.bs,C.dp,by simp only[atR];omega,C.hd,C.pf⟩
  have S:y.r.ev.length+1<=8*(y.r.pos+1)+64:=by omega
  obtain⟨v,hv⟩:∃v,v=ls s u y.r.pos ((gL s x.r.pos:Nat):Int) true y:=⟨_,rfl⟩
  have hV:=Wi s y fM u y.r.pos ((gL s x.r.pos:Nat):Int) (fun n i l P b h1 A Q h4=>HN n i l P b h1 (by rw[A];exact J) Q h4) ⟨h6,U,S,g,rfl,by omega,by omega⟩;rw[<-hv]at hV;refine Vq (hV) ?_;rintro z c ⟨a2,b,ba,aj,rfl,rfl⟩;simp only[↓X9,X0,seval,X2,bI,XM];by_cases f:v.r.cd=0
  ·have ao:Vw s y.r (y.r.pos+1) v.r:=by
    have h:=f;rw[hv]at h |-
    exact xX (by rw[J];exact X) U S g h
   obtain⟨e2,e3⟩:=aj f;subst e2 e3;refine⟨fun _=>?_,fun p=>absurd f p⟩;have ap:=ao.ok;refine Vm (Po s v.r b v.fr ⟨G,f,ap.pos⟩) ?_;simp only[↓X9,X0,seval,X2,bI,XM];obtain⟨w,hw⟩:∃w,w=nG s v:=⟨_,rfl⟩
   rw[show Mb s v.r v.fr=w.r by rw[hw];exact D8 s v];have ab:w.lt=v.r.pos:=by rw[hw,(rm s v).2]
   have r:kP s u (gL s x.r.pos) y=w:=by unfold kP;rw[<-hv,aA (by simpa using f),hw]
   by_cases e:w.r.cd=0
   ·refine⟨fun p=>absurd e (by simpa using p),fun _=>?_⟩;obtain⟨v2,d⟩:=Ga (c:=(gL s x.r.pos)) (by rw[J];exact X) C (by rw[r];exact e);rw[r]at d;have L:=d.ok;have I:w.r.pos<=s.length:=by rw[d.eq.1];exact ez s _ L.pos
    have aa:w.r.ev=v2.ev:=by rw[d.eq.1];rfl
    have H:Ok s w.r:=by rw[d.eq.1];exact L.at (fq s v2.pos) (ez s v2.pos L.pos)
    have ay:w.r.ev.length<=16777216:=cv (H.size G) (by decide);have k:(x.r.ev++[oQ 3 7 j o]) <+: w.r.ev:=by rw[aa];exact W.trans d.pre
    have ar:x.r.ev.length<w.r.ev.length:=by have:=k.length_le;simp only[aC,aH]at this;omega
    have aq:w.r.dp=x.r.dp+1:=by rw[d.eq.1];exact d.dp.trans J
    have M:w.r.bs=x.r.bs:=by rw[d.eq.1];exact d.bs.trans aw
    refine⟨by decide +kernel, ?_⟩;refine Vm (qi s w.r b ⟨G,I⟩) ?_;simp only[↓X9,X0,seval,X2,eu,jq,bI,XM];rw[bQ s I];refine bH.mk (fun h=>⟨⟨h,h⟩,G⟩) fun _=>⟨fun A=>?_,fun A=>⟨by decide +kernel, ?_⟩⟩
    ·simp only[aD,aR,aE]at A;have E:¬(fV s w.r.pos=true\/gL s w.r.pos<gL s x.r.pos\/(gL s w.r.pos=gL s x.r.pos/\mT s w.r.pos=false)):=by rw[A.1];simp only[bU,false_or];omega
     refine Vm (jh s w.r b 9 w.r.pos e) ?_;simp only[↓X9,X0,seval,X2,bI,XM];have D:R=bI w (er w.r 9 w.r.pos):=by rw[<-m,Su r e E (by omega)]
     rw[D];refine⟨.fJ [],(fk s ((bI w (er w.r 9 w.r.pos)).r) ((w.r.pos:Nat):Int) b),⟨((w.r.pos:Nat):Int),b,fun h=>absurd h (by decide:¬((9:Int)=0)),rfl,rfl⟩, ?_⟩;exact Vf
    refine Vm (qi s w.r b ⟨G,I⟩) ?_;simp only[↓X9,X0,seval,X2,eu,jq,bI,XM];rw[bQ s I];have af:(fV s w.r.pos||decide (((gL s w.r.pos:Nat):Int)<(gL s x.r.pos:Nat))||!mT s w.r.pos)=decide (fV s w.r.pos=true\/gL s w.r.pos<gL s x.r.pos\/(gL s w.r.pos=gL s x.r.pos/\mT s w.r.pos=false)):=by
     simp only[bA,bD,aO]at A;rw[bO];simp only[aV,aE,aR];rcases A with A|A
     ·simp[A]
     constructor
     ·rintro((h|h)|h)
      ·exact .inl h
      ·exact .inr (.inl (by omega))
      by_cases h9:gL s w.r.pos<gL s x.r.pos
      ·exact .inr (.inl h9)
      exact .inr (.inr ⟨by omega,h⟩)
     rintro(h|h|h)
     ·exact .inl (.inl h)
     ·exact .inl (.inr (by omega))
     exact .inr h.2
    rw[af];refine bH.mk (fun h=>⟨⟨h,h⟩,G⟩) fun _=>bH.mk (fun h=>⟨⟨h,h⟩,G,by omega,by omega⟩) fun _=>⟨fun Q=>?_,fun Q=>?_⟩
    ·have ad:=aW Q;have eC:(if 40<=x.r.dp then(-2:Int)else if j=[]then -1 else((iu x.r.ev x.r.dn x.r.bs).length:Nat))=(if((atR w.r v.r.pos).ev.getD x.r.ev.length ec).anchor=[]then(-1:Int)else((si (List.take x.r.ev.length (atR w.r v.r.pos).ev) (atR w.r v.r.pos).bs).length:Nat)):=by obtain⟨tl,al⟩:=k;rw[aA (by omega),show(atR w.r v.r.pos).ev=w.r.ev from rfl,show(atR w.r v.r.pos).bs=x.r.bs from M,<-al];simp[oQ,iu,cR]
     rw[eC];refine Vb (EN s (atR w.r v.r.pos) b x.r.ev.length ⟨by show w.r.ev.length<=_;omega,H.dn,H.bs,ar,by show w.r.bs<=_;rw[M];exact F.bs,by show 0<w.r.dp;omega,H.dp⟩) ?_;simp only[↓X9,X0,seval,X2,bI,XM];have D:R=yb w x.r.ev.length:=by rw[<-m,N1 r e (ad)]
     rw[D];refine⟨.fJ [],(fk s ((yb w x.r.ev.length).r) ((v.r.pos:Nat):Int) b),⟨((v.r.pos:Nat):Int),b,fun _=>⟨by rw[<-ab];rfl,rfl⟩,rfl,rfl⟩, ?_⟩;try simp only[YC,yb,atR,mH,aC,aK,aL,aX,ab]
     exact Vf
    have E:=bE Q;have Y:fV s w.r.pos=false:=by cases h9:fV s w.r.pos;rfl;exact absurd (.inl h9) E
    have ae:¬gL s x.r.pos<gL s w.r.pos:=by intro h9;rw[Y,aJ (show((gL s w.r.pos:Nat):Int)>(gL s x.r.pos:Nat) by omega)]at A;cases A
    have ak:=(uR Y).1;obtain⟨T,h7,h8⟩:=d.next (q:=w.r.pos) C (by decide) (by rw[d.eq.1];exact aN _) ak
    have Z:atR v2 w.r.pos=w.r:=by rw[d.eq.1];rfl
    rw[Z]at T;refine⟨⟨(w,((w.r.pos:Nat):Int),b),.inl ⟨e,rfl,T,aq,K,k,M,by rw[<-m];exact(Sv r e E ae ⟨h7,g⟩).symm⟩⟩, ?_,(cG.cT [0,1,2,3] (by decide) (by simp only[Yd];exact⟨aM (by simp[Yf,Yh,bI]),aF fun _=>rfl,aF fun _=>rfl,aF fun _=>rfl⟩) (by simp[bC,Vg.look,SV.bP,dX,jE,XR,qF,ul,Yh]))⟩;rw[aB t];show(if w.r.cd=0 then s.length+1-w.r.pos else 0)<_;rw[aB e];omega
   refine⟨fun _=>?_,fun p=>absurd (by simpa using p) e⟩;have D:R=w:=by rw[<-m,Kj r e]
   rw[D];refine⟨.fJ [],(fk s ((w).r) ((w.r.pos:Nat):Int) b),⟨((w.r.pos:Nat):Int),b,fun h=>absurd h e,rfl,rfl⟩, ?_⟩;exact Vf
  refine⟨fun p=>absurd p f,fun _=>⟨fun _=>?_,fun p=>absurd (by simpa using p) f⟩⟩;have D:R=v:=by rw[<-m,Kj (w:=v) (by unfold kP;rw[<-hv,aB f]) f]
  rw[D];refine⟨.fJ [],(fk s ((v).r) a2 b),⟨a2,b,fun h=>absurd h f,rfl,rfl⟩, ?_⟩;exact Vf
 refine⟨fun p=>absurd p t,fun _=>?_⟩;have m:R=y:=by
  rcases hI with h|h
  ·exact absurd h.1 t
  exact h.2
 have D:R=y:=m;rw[D];refine⟨.fJ [],(fk s ((y).r) a1 fM),⟨a1,fM,fun h=>absurd h t,rfl,rfl⟩, ?_⟩;exact Vf
end Go.T
end
section
namespace Go.T
variable[Go.Vg.df][Go.Vg.cS 0 1]
open Go.Proofs Go.Vg Go.RowKit Go.TT Go.Pl
set_option maxRecDepth 10000
set_option maxHeartbeats 4000000
theorem SQ(s:Bs)(x:Rb)(pr:Int)(G:Int->Bool->Bool->Rb->Rb)(oh:Bool)(p A:Bs)(Z:Nat)(O:Bool)(an tg:Bs)(d pe:Nat)(HS:x.r.dp<40->kM s (x.r.dp+1) G/\∀(n:Int) (i l:Bool) (x1:Rb) (fM:Int),Ok s x1.r->x1.r.dp=x.r.dp+1 -> -1<=n->n<=60000->ql Tryz.prog 226 s [.i .i64 n,.b i,.b l] fM x1.r (G n i l x1))(hp:s.length<=60000/\Ok s x.r/\(jg s x.r.pos).2.2=true/\d<=s.length/\(O=false->x.r.pos=d)):gQ Tryz.prog 259 1 [.ptr 0 0 0,.agg [.i .i64 0,.i .i64 0,.b false,.s [],.s p,.s A,.i .i64 0,.i .i64 0],.agg [.i .i64 0,.i .i64 0,.b false,.s [],.s an,.s tg,.i .i64 0,.i .i64 0],.b O,.i .i64 (d:Nat)] (fk s (x.r) ((x.r).pos:Nat) pr) (fun z c=>∃(a bx:Int),(((v7 s G (⟨oh,p,A,Z⟩:Pp) (⟨O,an,tg,pe⟩:Pp) d x)).r.cd=0->a=((((v7 s G (⟨oh,p,A,Z⟩:Pp) (⟨O,an,tg,pe⟩:Pp) d x)).r.pos:Nat):Int)/\((v7 s G (⟨oh,p,A,Z⟩:Pp) (⟨O,an,tg,pe⟩:Pp) d x)).fr=true)/\z=.fJ []/\c=(fk s (((v7 s G (⟨oh,p,A,Z⟩:Pp) (⟨O,an,tg,pe⟩:Pp) d x)).r) a bx)):=by
 refine Jh (nS.c ov.d) 140 [[0,3,4,6,7],[0,3,4,6,7,10],[0,3,4,6,7,10,27],[],[0,3,7,10,11],[0,3,7,10,11,38],[0,7,10,11],[0,7,10,11,47],[0,7,10,11,12],[0,7,10,11,12,13],[0,7,10,11,12,13,59],[0,7,10,11,13],[0,7,10,11,13,67],[0,7,10,11,13,82],[0,11],[],[0,7,10,11,100],[],[0,3,7,10,11],[0,3,7,10,11,16],[0,3,7,10,11,133],[0,3,7,10,11]] Tryz.func259 [] (fun _=>true) [] [(13,[],[],.q1 0 (.de 1 (.q1 2 (.q1 3 (.q1 4 (.q1 5 (.q1 7 (qd (.q1 12 (.q0 6 [6,11,13,14] (.q0 10 [10,11,13,14] (.seq [11,13,14])))))))))) .fin)),(16,[],[],qa (.q1 9 (.q0 3 [3,8,10] (.q0 7 [7,8,10] (.seq [8,10]))))),(19,[],[],qa (.q0 3 [3] (.q0 7 [7] (.de 8 (qg .fin) .fin))))] ?_;simp only[↓X9,X0,seval,X2,eu,jR,bI];obtain⟨h6,S,hk,bj,bk⟩:=hp;have T:s.length<=1048576:=by omega
 have aq:=S.pos;have bi:=S.cd;have b3:=S.size T;have hl:x.r.pos<s.length:=by have:=jz aq hk;omega
 have b2:gL s d<=60000:=by unfold gL;omega
 have hf:(if O=true then d else x.r.pos)=d:=by
  cases O
  ·rw[aA (by decide)];exact bk rfl
  rw[aB rfl]
 obtain⟨R,hR⟩:∃R,R=(v7 s G (⟨oh,p,A,Z⟩:Pp) (⟨O,an,tg,pe⟩:Pp) d x):=⟨_,rfl⟩
 rw[<-hR];rw[bQ s bj];refine bH.mk T fun _=>⟨fun h=>?_,fun h=>?_⟩
 ·have ab:x.r.dp=40:=by omega
  refine Vm (jh s x.r pr 12 d bi) ?_;simp only[↓X9,X0,seval,X2,bI,XM];have I:R=bI x (er x.r 12 d):=by rw[hR];unfold v7;rw[hf,show jt x.r 4 7 (⟨oh,p,A,Z⟩:Pp) d=er x.r 12 d by(unfold jt;rw[aB (by omega)]),aB (by simp[er])]
  rw[I];refine⟨.fJ [],(fk s ((bI x (er x.r 12 d)).r) ((x.r.pos:Nat):Int) pr),⟨((x.r.pos:Nat):Int),pr,fun h=>absurd h (by decide:¬((12:Int)=0)),rfl,rfl⟩, ?_⟩;exact Vf
 have ab:¬40<=x.r.dp:=by have:=S.dp;omega
 refine Vb (Lo s x.r pr 0 0 [] p A 4 7 ⟨by omega,S.dn,S.bs,S.cd,S.dp⟩) ?_;simp only[↓X9,X0,seval,X2,bI,XM];obtain⟨ro,P⟩:∃ro,ro=jt x.r 4 7 (⟨oh,p,A,Z⟩:Pp) d:=⟨_,rfl⟩
 rw[show jt x.r 4 7 (⟨false,p,A,0⟩:Pp) x.r.pos=ro by rw[P];unfold jt;rw[aA ab,aA ab]];have bc:(ro.cd=0/\((ro.pos:Nat):Int)=(ro.pos:Nat)/\vG s ro/\ro.dp=x.r.dp+1/\x.r.dp<40/\(x.r.ev++[oQ 4 7 p A]) <+: ro.ev/\ro.bs=x.r.bs/\(jg s ro.pos).2.2=true/\uo s G (gL s d) x.r.ev.length (⟨O,an,tg,pe⟩:Pp) (bI x ro)=R)\/(ro.cd≠0/\R=(bI x ro)):=by
  by_cases hz:ro.cd=0
  ·obtain⟨hM,e1,e2,e3,e4,e5,e6⟩:=rp S hl (show(jt x.r 4 7 (⟨oh,p,A,Z⟩:Pp) d).cd=0 by rw[<-P];exact hz);rw[<-P]at hM e1 e2 e3 e4 e5;exact .inl ⟨hz,rfl,hM,e5,e6,by rw[e2];exact List.prefix_refl _,e4,by rw[e1];exact hk,by rw[hR];unfold v7;rw[hf,<-P,aA (by simpa using hz)]⟩
  exact .inr ⟨hz,by rw[hR];unfold v7;rw[hf,<-P,aB hz]⟩
 refine cF.of (ι:={y:(Pp×Rb)×Int×Int // (y.1.2.r.cd=0/\y.2.1=(y.1.2.r.pos:Nat)/\vG s y.1.2.r/\y.1.2.r.dp=x.r.dp+1/\x.r.dp<40/\(x.r.ev++[oQ 4 7 p A]) <+: y.1.2.r.ev/\y.1.2.r.bs=x.r.bs/\(jg s y.1.2.r.pos).2.2=true/\uo s G (gL s d) x.r.ev.length y.1.1 y.1.2=R)\/(y.1.2.r.cd≠0/\R=y.1.2)}) (fun y=>⟨[(0,.ptr 0 0 0),(3,.b y.1.1.1.has),(7,.ptr 5 0 0),(10,.i .i64 ((gL s d:Nat):Int)),(11,.i .i64 (if 40<=x.r.dp then(-2:Int)else if p=[]then -1 else((iu x.r.ev x.r.dn x.r.bs).length:Nat)))],(Qu s (y.1.1.2.r) y.1.2.1 y.1.2.2 [some (.gA false [.i .i64 0,.i .i64 0,.b false,.s [],.s p,.s A,.i .i64 0,.i .i64 0]),some (.gA false [.i .i64 0,.i .i64 0,.b false,.s [],.s y.1.1.1.an,.s y.1.1.1.tg,.i .i64 0,.i .i64 0])])⟩) (fun y=>if y.1.1.2.r.cd=0 then s.length+1-y.1.1.2.r.pos else 0) ⟨(((⟨O,an,tg,pe⟩:Pp),bI x ro),((ro.pos:Nat):Int),pr),bc⟩ (cG.cT [0,1,2,3,4,5] (by decide) (by simp only[Yd];exact⟨aM (by simp[Yf,Yh,bI]),aF fun _=>rfl,aF fun _=>rfl,aF fun _=>rfl,aM (by simp[Yf]),aM (by simp[Yf])⟩) (by simp[bC,Vg.look,SV.bP,dX,jE,XR,qF,ul,Yh])) ?_;rintro⟨⟨⟨own,y⟩,a1,fM⟩,hI⟩;simp only[YC];simp only[↓X9,X0,seval,X2,bI];obtain⟨E,D,F,Q⟩:=own;simp only at hI;by_cases t:y.r.cd=0
 ·have bd:a1=(y.r.pos:Nat)/\vG s y.r/\y.r.dp=x.r.dp+1/\x.r.dp<40/\(x.r.ev++[oQ 4 7 p A]) <+: y.r.ev/\y.r.bs=x.r.bs/\(jg s y.r.pos).2.2=true/\uo s G (gL s d) x.r.ev.length (⟨E,D,F,Q⟩:Pp) y=R:=by
   rcases hI with h|h
   ·exact h.2
   exact absurd t h.1
  obtain⟨bu,H,ah,Y,au,bw,aj,m⟩:=bd;subst bu;obtain⟨ax,HN⟩:=HS Y;have b1:=H.sz;have o:=H.pos;obtain⟨k1,k2,k3,k4,k5⟩:=jz (cJ o) aj;refine⟨fun _=>?_,fun J=>absurd t J⟩;refine Vb (WX s y.r fM 0 0 [] D F E ⟨T,by omega,H.dn,H.bs,H.cd,cJ o,aj⟩) ?_;simp only[↓X9,X0,seval,X2,bI,XM];obtain⟨u,K⟩:∃u,u=qP s y.r (⟨E,D,F,Q⟩:Pp):=⟨_,rfl⟩
  rw[show qP s y.r (⟨E,D,F,0⟩:Pp)=u from by rw[K];exact Un.symm];refine⟨fun h=>?_,fun h=>?_⟩
  ·have B:¬u.cd=0:=by simpa using h
   have I:R=bI y u:=by rw[<-m,CW (w:=bI y u) (by unfold j8;rw[<-K,aB B]) B]
   rw[I];refine⟨.fJ [],(fk s ((bI y u).r) (((jg s y.r.pos).2.1.toNat+1:Nat):Int) fM),⟨(((jg s y.r.pos).2.1.toNat+1:Nat):Int),fM,fun h=>absurd h B,rfl,rfl⟩, ?_⟩;exact Vf
  have B:u.cd=0:=by simpa using h
  obtain⟨ke,kq,W,b4⟩:=F3 H.cd (cJ o) (show(qP s y.r (⟨E,D,F,Q⟩:Pp)).cd=0 by rw[<-K];exact B);rw[<-K]at W;have ap:Ok s (atR u ((jg s y.r.pos).2.1.toNat+1)):=by rw[W];exact⟨H.cd,k3,by simp[hB,atR,bB,H.dn],by simp only[hB,atR,bB,aC];have:=H.bs;omega,H.dp,by simp only[hB,atR,bB,aC,aH];omega,H.hd,H.pf⟩
  have ak:u.ev.length+1<=8*((jg s y.r.pos).2.1.toNat+1)+64:=by rw[W];simp only[hB,atR,bB,aC,aH];omega
  have ao:u.dp=x.r.dp+1:=by rw[W];exact ah
  obtain⟨v,hv⟩:∃v,v=ls s G (jg s y.r.pos).2.1.toNat ((gL s d:Nat):Int) false (bI y u):=⟨_,rfl⟩
  have hV:=WZ s (bI y (atR u ((jg s y.r.pos).2.1.toNat+1))) fM G (jg s y.r.pos).2.1.toNat ((gL s d:Nat):Int) (fun n i l x1 b h1 M h3 h4=>HN n i l x1 b h1 (by rw[M];exact ao) h3 h4) ⟨h6,ap,ak,k3,rfl,by omega,by omega⟩;rw[Vp,<-hv]at hV;refine Vq (hV) ?_;rintro z c ⟨a2,b,b5,bg,rfl,rfl⟩;simp only[↓X9,X0,seval,X2,bI,XM];by_cases k:v.r.cd=0
  ·have bp:Vw s u ((jg s y.r.pos).2.1.toNat+1) v.r:=by
    have h:=k;rw[hv]at h |-
    exact xX (x:=bI y u) (by show kM s u.dp G;rw[ao];exact ax) ap ak k3 h
   obtain⟨e2,e3⟩:=bg k;subst e2 e3;refine⟨fun _=>?_,fun J=>absurd k J⟩;have bq:=bp.ok;refine Vm (Po s v.r b v.fr ⟨T,k,bq.pos⟩) ?_;simp only[↓X9,X0,seval,X2,bI,XM];obtain⟨w,hw⟩:∃w,w=nG s v:=⟨_,rfl⟩
   rw[show Mb s v.r v.fr=w.r by rw[hw];exact D8 s v];have az:w.lt=v.r.pos:=by rw[hw,(rm s v).2]
   have r:j8 s G (gL s d) (⟨E,D,F,Q⟩:Pp) y=w:=by unfold j8;rw[<-K,aA (by simpa using B),<-hv,aA (by simpa using k),hw]
   by_cases f:w.r.cd=0
   ·refine⟨fun J=>absurd f (by simpa using J),fun _=>?_⟩;obtain⟨v2,e⟩:=Gh (c:=(gL s d)) (own:=(⟨E,D,F,Q⟩:Pp)) (by rw[ah];exact ax) H aj (by rw[r];exact f);rw[r]at e;have af:=e.ok;have V:w.r.pos<=s.length:=by rw[e.eq.1];exact ez s _ af.pos
    have ay:w.r.ev=v2.ev:=by rw[e.eq.1];rfl
    have L:Ok s w.r:=by rw[e.eq.1];exact af.at (fq s v2.pos) (ez s v2.pos af.pos)
    have b0:w.r.ev.length<=16777216:=cv (L.size T) (by decide);have C:(x.r.ev++[oQ 4 7 p A]) <+: w.r.ev:=by rw[ay];exact au.trans e.pre
    have bt:x.r.ev.length<w.r.ev.length:=by have:=C.length_le;simp only[aC,aH]at this;omega
    have br:w.r.dp=x.r.dp+1:=by rw[e.eq.1];exact e.dp.trans ah
    have ag:w.r.bs=x.r.bs:=by rw[e.eq.1];exact e.bs.trans bw
    refine⟨by decide +kernel, ?_⟩;refine Vm (qi s w.r b ⟨T,V⟩) ?_;simp only[↓X9,X0,seval,X2,eu,bI,XM];rw[bQ s V];refine bH.mk (fun h=>⟨⟨h,h⟩,T⟩) fun _=>⟨fun M=>?_,fun M=>⟨by decide +kernel,bH.mk T fun _=>⟨fun h3=>?_,fun h3=>?_⟩⟩⟩
    ·simp only[aV,aE,dF]at M;have eC:(if 40<=x.r.dp then(-2:Int)else if p=[]then -1 else((iu x.r.ev x.r.dn x.r.bs).length:Nat))=(if((atR w.r v.r.pos).ev.getD x.r.ev.length ec).anchor=[]then(-1:Int)else((si (List.take x.r.ev.length (atR w.r v.r.pos).ev) (atR w.r v.r.pos).bs).length:Nat)):=by obtain⟨tl,bo⟩:=C;rw[aA (by omega),show(atR w.r v.r.pos).ev=w.r.ev from rfl,show(atR w.r v.r.pos).bs=x.r.bs from ag,<-bo];simp[oQ,iu,cR]
     rw[eC];refine Vb (EN s (atR w.r v.r.pos) b x.r.ev.length ⟨by show w.r.ev.length<=_;omega,L.dn,L.bs,bt,by show w.r.bs<=_;rw[ag];exact S.bs,by show 0<w.r.dp;omega,L.dp⟩) ?_;simp only[↓X9,X0,seval,X2,bI,XM];have I:R=yb w x.r.ev.length:=by rw[<-m,Oa r f (M)]
     rw[I];refine⟨.fJ [],(fk s ((yb w x.r.ev.length).r) ((v.r.pos:Nat):Int) b),⟨((v.r.pos:Nat):Int),b,fun _=>⟨by rw[<-az];rfl,rfl⟩,rfl,rfl⟩, ?_⟩;try simp only[YC,yb,atR,mH,aC,aK,aL,aX,az]
     exact Vf
    ·have N:¬(fV s w.r.pos=true\/gL s w.r.pos<(gL s d)):=by simp only[aY,aO]at M;rw[M.1];simp only[bU,false_or];omega
     refine Vm (jh s w.r b 9 w.r.pos f) ?_;simp only[↓X9,X0,seval,X2,bI,XM];have I:R=bI w (er w.r 9 w.r.pos):=by rw[<-m,Sy r f N (by omega)]
     rw[I];refine⟨.fJ [],(fk s ((bI w (er w.r 9 w.r.pos)).r) ((w.r.pos:Nat):Int) b),⟨((w.r.pos:Nat):Int),b,fun h=>absurd h (by decide:¬((9:Int)=0)),rfl,rfl⟩, ?_⟩;exact Vf
    have N:¬(fV s w.r.pos=true\/gL s w.r.pos<(gL s d)):=by simp only[aY,aO]at M;rw[M.1];simp only[bU,false_or];omega
    have aa:¬(gL s d)<gL s w.r.pos:=by omega
    refine Vq (AZ s w.r b false ⟨T,f,V,L.hd,L.pf⟩) ?_;rintro z c ⟨X,a7,bz,bh,hq,rfl,rfl⟩;simp only[↓X9,X0,seval,X2,jR,bI,XM];obtain⟨q,g⟩:∃q,q=iP s false w.r:=⟨_,rfl⟩
    have bm:yo s false w.r=q:=by rw[g];rfl
    rw[bm]at hq |-
    refine⟨by decide +kernel,bH.mk T fun _=>?_⟩;by_cases j:q.cd=0
    ·simp only[aJ j];simp only[↓X9,X0,seval,X2,bI];obtain⟨_,a8,bb,ba⟩:=hq j;subst a8 bb ba;obtain⟨pp,ar⟩:∃pp,pp=ia s false w.r:=⟨_,rfl⟩
     rw[<-ar];obtain⟨qp,e9,l9,a6,_⟩:=jr (fl:=false) V f (show(iP s false w.r).cd=0 by rw[<-g];exact j);rw[<-g]at e9;have ae:q.pos<=s.length:=by rw[e9];exact a6
     have aw:q.ev=w.r.ev:=by rw[e9];rfl
     rw[bQ s ae];refine⟨fun h5=>?_,fun h5=>?_⟩
     ·have al:¬(er q 10 q.pos).cd=0:=(by decide:¬((10:Int)=0))
      refine Vm (jh s q X 10 q.pos j) ?_;simp only[↓X9,X0,seval,X2,bI,XM];refine⟨⟨((pp,bI w (er q 10 q.pos)),((q.pos:Nat):Int),X),.inr ⟨al, ?_⟩⟩, ?_,(cG.cT [0,1,2,3,4,5] (by decide) (by simp only[Yd];exact⟨aM (by simp[Yf,Yh,bI]),aF fun _=>rfl,aF fun _=>rfl,aF fun _=>rfl,aM (by simp[Yf]),aM (by simp[Yf])⟩) (by simp[bC,Vg.look,SV.bP,dX,jE,XR,qF,ul,Yh]))⟩
      ·rw[<-m,N9 r f N aa (by rw[<-g];exact j) (by rw[<-g];simpa using h5),g]
      rw[aB t];show(if(er q 10 q.pos).cd=0 then s.length+1-q.pos else 0)<_;rw[aA al];omega
     have U:(jg s q.pos).2.2=true:=by simpa using h5
     have bn:qp<s.length:=by rw[e9]at U;have h:=jz (show(atR w.r qp).pos<=s.length from a6) U;have h1:=h.2.2.1;have M:=h.2.2.2.1;simp only[atR]at h1 M;omega
     have ad:q=atR v2 qp:=by rw[e9,e.eq.1];rfl
     obtain⟨bf,h7,h8⟩:=e.next (q:=qp) H (by decide) (by rw[e.eq.1]at l9;exact l9) bn
     refine⟨⟨((pp,bI w q),((q.pos:Nat):Int),X),.inl ⟨j,rfl, ?_, ?_,Y, ?_, ?_,U, ?_⟩⟩, ?_,(cG.cT [0,1,2,3,4,5] (by decide) (by simp only[Yd];exact⟨aM (by simp[Yf,Yh,bI]),aF fun _=>rfl,aF fun _=>rfl,aF fun _=>rfl,aM (by simp[Yf]),aM (by simp[Yf])⟩) (by simp[bC,Vg.look,SV.bP,dX,jE,XR,qF,ul,Yh]))⟩
     ·show vG s q;rw[ad];exact bf
     ·show q.dp=_;rw[e9];exact br
     ·show _ <+: q.ev;rw[aw];exact C
     ·show q.bs=_;rw[e9];exact ag
     ·show uo s G (gL s d) x.r.ev.length pp (bI w q)=R;rw[<-m,SA r f N aa (by rw[<-g];exact j) (by rw[<-g];exact U) ⟨by rw[<-g,ad];exact h7,o⟩,g,ar]
     rw[aB t];show(if q.cd=0 then s.length+1-q.pos else 0)<_;rw[aB j,ad];simp only[atR];omega
    simp only[aI j];simp only[↓X9,X0,seval,X2,bI];refine⟨⟨((⟨bh,a7,bz,0⟩,bI w q),((q.pos:Nat):Int),X),.inr ⟨j, ?_⟩⟩, ?_,(cG.cT [0,1,2,3,4,5] (by decide) (by simp only[Yd];exact⟨aM (by simp[Yf,Yh,bI]),aF fun _=>rfl,aF fun _=>rfl,aF fun _=>rfl,aM (by simp[Yf]),aM (by simp[Yf])⟩) (by simp[bC,Vg.look,SV.bP,dX,jE,XR,qF,ul,Yh]))⟩
    ·rw[<-m,SB r f N aa (by rw[<-g];exact j),g]
    rw[aB t];show(if q.cd=0 then s.length+1-q.pos else 0)<_;rw[aA j];omega
   refine⟨fun _=>?_,fun J=>absurd (by simpa using J) f⟩;have I:R=w:=by rw[<-m,CW r f]
   rw[I];refine⟨.fJ [],(fk s ((w).r) ((w.r.pos:Nat):Int) b),⟨((w.r.pos:Nat):Int),b,fun h=>absurd h f,rfl,rfl⟩, ?_⟩;exact Vf
  refine⟨fun J=>absurd J k,fun _=>⟨fun _=>?_,fun J=>absurd (by simpa using J) k⟩⟩;have I:R=v:=by rw[<-m,CW (w:=v) (by unfold j8;rw[<-K,aA (by simpa using B),<-hv,aB k]) k]
  rw[I];refine⟨.fJ [],(fk s ((v).r) a2 b),⟨a2,b,fun h=>absurd h k,rfl,rfl⟩, ?_⟩;exact Vf
 refine⟨fun J=>absurd J t,fun _=>?_⟩;have m:R=y:=by
  rcases hI with h|h
  ·exact absurd h.1 t
  exact h.2
 have I:R=y:=m;rw[I];refine⟨.fJ [],(fk s ((y).r) a1 fM),⟨a1,fM,fun h=>absurd h t,rfl,rfl⟩, ?_⟩;exact Vf
end Go.T
end
