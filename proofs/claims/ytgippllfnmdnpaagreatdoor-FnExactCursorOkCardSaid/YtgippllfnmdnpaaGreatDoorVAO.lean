/- Own text: part VAO. -/
import Derived.Test.YtgippllfnmdnpaaGreatDoorVAN
set_option linter.all false
section
namespace Go.Pl
theorem NH(s:Bs)(c:UInt8) : -1<=idx s c/\idx s c<s.length:=by
 unfold idx;split
 ·rename_i i h;have:=(List.findIdx?_eq_some_iff_getElem.1 h).1;omega
 omega
theorem uW{s:Bs}{r:Rd}(h:(kB s r).cd=0):kB s r=r:=by
 unfold kB at h |-
 split
 ·rfl
 rename_i a;rw[aA a]at h;split
 ·rfl
 rename_i b;rw[aA b]at h;simp[er]at h
theorem jU{s:Bs}{r:Rd}{p:Nat}(h:(jn s r p).cd=0):jn s r p=atR r (dR s p):=by
 unfold jn at h |-
 split
 ·rfl
 rename_i a;rw[aA a]at h;exact uW h
theorem Nu(s:Bs)(r:Rd):(kB s r).ev=r.ev:=by unfold kB;split;rfl;split<;>rfl
theorem JQ(s:Bs)(r:Rd)(p:Nat):(jn s r p).ev=r.ev:=by unfold jn;split;rfl;exact Nu s _
theorem LY(s:Bs)(q:Nat)(a ch:Int)(sg:Bool)(h:q<=s.length):q<=(sm s q a ch sg).2.2.1/\(sm s q a ch sg).2.2.1<=s.length:=by
 fun_induction sm s q a ch sg with
 |case1 q a ch sg c d=>
  have:q<s.length:=cE (b:=bW s q) rfl (by omega);have:=d (by omega);omega
 |case2 q a ch sg c e d=>
  have:q<s.length:=cE (b:=bW s q) rfl (by omega);have:=d (by omega);omega
 |case3 q a ch sg c e f=>exact gV h
 |case4 q a ch sg c e f=>exact gV h
theorem vW{s:Bs}{p:Nat}(h:p<s.length):p<=(jJ s p).2.2.1/\(jJ s p).2.2.1<=s.length/\((jJ s p).2.2.2=0->p<(jJ s p).2.2.1):=by
 unfold jJ;split
 ·have:=LY s (p+1) 0 0 false (by omega);exact⟨by omega,this.2,fun _=>by omega⟩
 exact⟨aN _,by simp only;omega,fun h=>by simp at h⟩
theorem RE{s:Bs}{q:Nat}(h:q<=s.length)(a:(iA s q).2=true):∃x,x<=s.length/\(iA s q).1=en s x:=by
 unfold iA at a |-
 split
 ·exact⟨wh s q,gO s q h,rfl⟩
 rename_i b;rw[aA b]at a;cases a
theorem QX(s:Bs)(q:Nat)(a ch:Int)(sg:Bool)(h:q<=s.length)(hd:0<=a/\a<=9):(sm s q a ch sg).2.2.2=0->(∃x,x<=s.length/\(sm s q a ch sg).2.2.1=en s x)/\0<=(sm s q a ch sg).1/\(sm s q a ch sg).1<=9:=by
 fun_induction sm s q a ch sg with
 |case1 q a ch sg c d=>
  have:q<s.length:=cE (b:=bW s q) rfl (by omega);exact d (by omega) (by omega)
 |case2 q a ch sg c e d=>
  have:q<s.length:=cE (b:=bW s q) rfl (by omega);exact d (by omega) hd
 |case3 q a ch sg c e f=>intro _;exact⟨RE h f,hd⟩
 |case4 q a ch sg c e f=>intro g;simp at g
theorem JX{s:Bs}{p:Nat}(h:p<s.length)(b:(jJ s p).2.2.2=0):(∃x,x<=s.length/\(jJ s p).2.2.1=en s x)/\0<=(jJ s p).1/\(jJ s p).1<=9:=by
 unfold jJ at b |-
 split
 ·rename_i f;rw[aB f]at b;exact QX s (p+1) 0 0 false (by omega) (by omega) b
 rename_i f;rw[aA f]at b;simp at b
theorem qY{s:Bs}{x:Nat}(h:gZ s (en s x)<s.length):la s (gZ s (en s x))=gZ s (en s x):=by
 have a:en s x<s.length:=by unfold gZ at h;omega
 have b:=R6 a;have e:gZ s (en s x)=en s x+1:=by unfold gZ;omega
 rw[e];exact NT b
theorem y5(s:Bs)(i:Nat):bl s i<=en s i:=by
 fun_induction bl s i with
 |case1 i h a=>
  rw[T5 (show kH s i=false by unfold kH;rw[h];decide)];exact a
 |case2 i h=>exact lW s i
theorem CP{s:Bs}{d f a:Nat}(h:a<s.length/\ib s a=0/\(js s a=true\/d<=jG s a)):pN s d f a=((if f<=a/\(js s a=false\/d<jG s a)then sub s (a+d) (en s a)else[])::(pN s d f (gZ s (en s a))).1,(pN s d f (gZ s (en s a))).2):=by
 conv=>lhs;rw[pN]
 rw[bV h]
theorem sU{s:Bs}{d f a:Nat}(h:¬(a<s.length/\ib s a=0/\(js s a=true\/d<=jG s a))):pN s d f a=([],a):=by rw[pN,cV h]
theorem gX(l:List Bs)(x:Bs):mj (l++[x])=mj l+x.length+1:=by simp[mj,dk]
theorem L6(s:Bs)(d f a:Nat)(h:a<=s.length):a<=(pN s d f a).2/\(pN s d f a).2<=s.length:=by
 fun_induction pN s d f a with
 |case1 a b c=>
  have:=c (jZ s _);have:=lv (s:=s) b.1;simp only;omega
 |case2 a b=>exact⟨aN _,h⟩
theorem CL{s:Bs}{p:Nat}{n:Int}(h:p<s.length):(nQ s p n).2.1<=s.length/\((nQ s p n).2.2=0->p<(nQ s p n).2.1):=by
 have c:=vW h;unfold nQ;split
 ·rename_i b;exact⟨c.2.1,fun d=>absurd d b⟩
 rename_i b;have d:=c.2.2 (by simpa using b);have e:=L6 s (HJ s n (jJ s p).1 (gZ s (jJ s p).2.2.1)).1 (HJ s n (jJ s p).1 (gZ s (jJ s p).2.2.1)).2 (gZ s (jJ s p).2.2.1) (jZ s _);refine⟨e.2,fun _=>?_⟩;have g:(jJ s p).2.2.1<=gZ s (jJ s p).2.2.1:=by unfold gZ;omega
 simp only;omega
theorem Rt{s:Bs}{hd:List Hd}{fl:Bool}{pos:Nat}{p:Pp}(e:pos<=s.length)(b:(lk s hd fl pos p).2.2=0):(lk s hd fl pos p).2.1=p\/(pos<(lk s hd fl pos p).2.1.en/\(lk s hd fl pos p).2.1.en<=s.length/\(lk s hd fl pos p).2.1.en<=(lk s hd fl pos p).1):=by
 fun_induction lk s hd fl pos p with
 |case1 pos p h f=>
  have a:=mE e h.2;have d:=o3 (s:=s) (fl:=fl) a.2.1;have g:=w6 (s:=s) (hd:=hd) (fl:=fl) (p:=(lq s hd fl pos p).1) d.2;rcases f d.2 b with c|c
  ·rw[c];exact .inr ⟨by omega,a.2.1,by omega⟩
  ·exact .inr ⟨by omega,c.2.1,c.2.2⟩
 |case2 pos p h=>
  simp only at b |-
  by_cases a:lA s pos=true
  ·rw[aB a]at b;exact absurd ⟨a,b⟩ h
  rw[aA a];exact .inl rfl
theorem oI{s:Bs}{r:Rd}{fl:Bool}(i:r.pos<=s.length)(g:(lk s r.hd fl r.pos (kF r.pos)).2.2=0)(h:(ia s fl r).has=true):r.pos<(ia s fl r).en/\(ia s fl r).en<=s.length/\(ia s fl r).en<=(lk s r.hd fl r.pos (kF r.pos)).1:=by
 rcases Rt i g with c|c
 ·unfold ia at h;rw[c]at h;cases h
 exact c
structure xh(s:Bs)(r r':Rd):Prop where
 ok:Ok s r'
 lt:r.pos<r'.pos
 pre:r.ev <+: r'.ev
 hd:r'.hd=r.hd
 bs:r'.bs=r.bs
 dp:r'.dp=r.dp
 AJ:r'.ev.length+8*r.pos+4<=r.ev.length+8*r'.pos
theorem xh.TL{s:Bs}{r r':Rd}{q:Nat}(h:xh s (atR r q) r')(a:r.pos<=q):xh s r r' :=
 ⟨h.ok,by have:=h.lt;simp only[atR]at this;omega,h.pre,h.hd,h.bs,h.dp,by have:=h.AJ;have:=h.lt;simp only[atR]at *;omega⟩
theorem sF{s:Bs}{r:Rd}{e:Ev}{q q2:Nat}(a:Ok s r)(b:r.pos<q2)(c:q2<=s.length):xh s r (hB (atR r q) e q2):=
 ⟨⟨a.cd,c,by simp[hB,atR,bB,a.dn],by simp only[hB,atR,bB,aC];have:=a.bs;omega,a.dp,by simp only[hB,atR,bB,aC,aH];have:=a.sz;omega,a.hd,a.pf⟩,b,ea _ _,rfl,rfl,rfl,by simp only[hB,atR,bB,aC,aH];omega⟩
theorem RZ{s:Bs}{it:Rd->Rd}{c k:Int}{r:Rd}{p:Pp}(i:0<=c)(j:r.pos<s.length)(b:Ok s r)(hit:r.dp<40->kw s (r.dp+1) it)(d:(qO s it c k r p).cd=0):xh s r (qO s it c k r p):=by
 have a:=H5 i j b hit d;refine⟨a.ok,a.lt,a.pre,a.hd,a.bs,a.dp, ?_⟩;unfold qO at d |-
 split
 ·rename_i h;rw[aB h]at d;exact absurd d h
 rename_i h;rw[aA h]at d;obtain⟨e,hd⟩:=pQ (show(jt r k 6 p r.pos).cd=0 by simpa using h);have n:=b.sz;have g:Ok s (atR (jt r k 6 p r.pos) (r.pos+1)):=by rw[e];refine⟨b.cd,j,by simp[atR,bB,b.dn],by simp only[atR,bB,aC];have:=b.bs;omega,by simp only[atR];omega,by simp only[atR,bB,aC,aH];omega,b.hd,b.pf⟩
 have m:=M5 i (hit hd) (by omega) _ r.ev.length _ rfl g (by rw[e];rfl) (by rw[e];simp[atR,bB]) d;have f:=m.AJ;have o:(atR (jt r k 6 p r.pos) (r.pos+1)).pos=r.pos+1:=rfl;have l:(atR (jt r k 6 p r.pos) (r.pos+1)).ev=r.ev++[oQ k 6 p.an p.tg]:=by rw[e];rfl
 rw[l,aC,aH]at f;omega
theorem VO{s:Bs}{r:Rd}{p:Pp}(g:Ok s r)(j:bW s r.pos=91\/bW s r.pos=123)(a:(Cc s r p).cd=0):xh s r (Cc s r p):=by
 have k:r.pos<s.length:=by
  rcases j with h|h
  ·exact cE h (by decide)
  exact cE h (by decide)
 have q:=g.dp;have key:∀e:Rd->Rd,(r.dp<40->kw s (r.dp+1) e)->(pA s e r p).cd=0->xh s r (pA s e r p):=by
  intro e c a;unfold pA at a |-
  by_cases b:bW s r.pos=91
  ·rw[aB b]at a |-
   exact RZ (by decide) k g c a
  have i:bW s r.pos=123:=j.resolve_left b;rw[aA b,aB i]at a |-
  exact RZ (by decide) k g (fun h l f m n=>pR f (by rw[m];exact c h) n) a
 unfold Cc at a |-
 split at a
 ·rename_i o;exact key id (fun h=>by omega) a
 rename_i d o;exact key _ (fun h l b i f=>n0 d l b (by omega) f) a
theorem VK{s:Bs}{r:Rd}{b:Bool}(h:(oP s r b).cd=0)(f:Ok s r):∃e q,oP s r b=hB r e q/\r.pos+1<q/\q<=s.length:=by
 unfold oP at h |-
 split
 ·rename_i a;rw[aB a]at h;simp[er]at h
 rename_i a;rw[aA a]at h;have hp:=j1 (by simpa using a);split
 ·rename_i c;rw[aB c]at h;simp[er]at h
 rename_i c;rw[aA c]at h;split
 ·exact⟨_,_,rfl,by omega,by omega⟩
 rename_i d;rw[aA d]at h;simp[er]at h
theorem Wa{s:Bs}{r:Rd}{p:Pp}(b:je (bW s r.pos)=true)(h:(oR s r p).cd=0)(c:Ok s r):∃e q,oR s r p=hB r e q/\r.pos+1<q/\q<=s.length:=by
 unfold oR at h |-
 split
 ·rename_i a;rw[aB a]at h;exact absurd h a
 rename_i a;have:=w7 b (by simpa using a);exact⟨_,_,rfl,by omega,this.2⟩
theorem Wg{s:Bs}{x:Rb}{p:Pp}{n:Int}(c:Ok s x.r)(a:(qD s x p n).r.cd=0):xh s x.r (qD s x p n).r:=by
 unfold qD at a |-
 split
 ·rename_i g;rw[aB g]at a;have l:x.r.pos<s.length:=by
   rcases g with h|h
   ·exact cE h (by decide)
   exact cE h (by decide)
  have hp:=CL (n:=n) l;split
  ·rename_i b;rw[aB b]at a;exact absurd a b
  rename_i b;exact sF (q:=x.r.pos) c (hp.2 (by simpa using b)) hp.1
 rename_i g;rw[aA g]at a;split
 ·rename_i b;rw[aB b]at a;exact VO c b a
 rename_i b;rw[aA b]at a;split
 ·rename_i i;rw[aB i]at a;obtain⟨e,q,d,f,j⟩:=VK a c;show xh s x.r (oP s x.r p.has);rw[d];exact sF (q:=x.r.pos) c (by omega) j
 rename_i i;rw[aA i]at a;split
 ·rename_i d;rw[aB d]at a;obtain⟨e,q,f,j,k⟩:=Wa d a c;show xh s x.r (oR s x.r p);rw[f];exact sF (q:=x.r.pos) c (by omega) k
 rename_i d;rw[aA d]at a;split
 ·rename_i f;have:=C6 (n:=n) f;exact sF (q:=x.r.pos) c this.1 this.2
 rename_i f;rw[aA f]at a;simp[er]at a
theorem U4(s:Bs)(x:Rb)(y:Rd)(p:Pp)(n:Int):qD s (bI x y) p n=⟨(qD s ⟨y,false,0⟩ p n).r,(qD s ⟨y,false,0⟩ p n).fr,x.lt⟩:=by
 unfold qD bI;simp only
 repeat' split
 all_goals rfl
theorem wb{s:Bs}{x:Rb}(h:(nG s x).r.cd=0):nG s x=⟨atR x.r (dR s x.r.pos),x.fr,x.r.pos⟩:=by
 unfold nG at h |-
 split
 ·rename_i b;rw[aB b]at h;simp[er]at h
 rename_i b;rw[aA b]at h;rw[jU h]
def kM(s:Bs)(D:Nat)(d:Int->Bool->Bool->Rb->Rb):Prop:=∀n i l x,Ok s x.r->x.r.dp=D->(d n i l x).r.cd=0->xh s x.r (d n i l x).r
structure Vw(s:Bs)(r:Rd)(a:Nat)(r':Rd):Prop where
 ok:Ok s r'
 lt:a<=r'.pos
 pre:r.ev <+: r'.ev
 hd:r'.hd=r.hd
 bs:r'.bs=r.bs
 dp:r'.dp=r.dp
 AJ:r'.ev.length+8*a<=r.ev.length+1+8*r'.pos
theorem uZ{s:Bs}{r:Rd}{a q:Nat}(b:Ok s r)(d:r.ev.length<=8*a+64)(e:a<=q)(c:q<=s.length):Ok s (atR r q):=
 ⟨b.cd,c,b.dn,b.bs,b.dp,by simp only[atR];omega,b.hd,b.pf⟩
theorem xX{s:Bs}{g:Int->Bool->Bool->Rb->Rb}{sg:Nat}{c:Int}{li:Bool}{x:Rb}(t:kM s x.r.dp g)(e:Ok s (atR x.r (sg+1)))(C:x.r.ev.length+1<=8*(sg+1)+64)(m:sg<s.length)(a:(ls s g sg c li x).r.cd=0):Vw s x.r (sg+1) (ls s g sg c li x).r:=by
 have u:=gY s (sg+1);have v:=gO s (sg+1) m;have y:=gV (s:=s) (p:=sg+1) m;have j:=fq s (sg+1);have k:=ez s (sg+1) m;have key:∀(q:Nat) (n:Int) (i l:Bool),sg+1<=q->q<=s.length->(g n i l (bI x (atR x.r q))).r.cd=0->Vw s x.r (sg+1) (g n i l (bI x (atR x.r q))).r:=by intro q n i l f b h;have d:=t n i l (bI x (atR x.r q)) (uZ (r:=atR x.r (sg+1)) e (by simp only[atR];omega) f b) rfl h;have A:=d.lt;have B:=d.AJ;have w:(bI x (atR x.r q)).r.pos=q:=rfl;have z:(bI x (atR x.r q)).r.ev=x.r.ev:=rfl;rw[w]at A;rw[w,z]at B;exact⟨d.ok,by omega,d.pre,d.hd,d.bs,d.dp,by omega⟩
 unfold ls at a |-
 split
 ·rename_i f;rw[aB f]at a;exact key _ _ _ _ u v a
 rename_i f;rw[aA f]at a;split
 ·rename_i b;rw[aB b]at a;exact absurd a b
 rename_i b;rw[aA b]at a;have o:=jU (show(jn s x.r (sg+1)).cd=0 by simpa using b);rw[o]at a |-
 split
 ·refine⟨⟨e.cd,y.2, ?_, ?_,e.dp, ?_,e.hd,e.pf⟩,y.1,ea _ _,rfl,rfl,rfl, ?_⟩
  ·have:=e.dn;simp only[atR]at this;simp[qJ,BD,atR,cY,bB,this]
  ·have:=e.bs;simp only[atR]at this;simp only[qJ,BD,atR,cY,bB,aC];omega
  ·simp only[qJ,BD,atR,cY,bB,aC,aH];omega
  simp only[qJ,BD,atR,cY,bB,aC,aH];omega
 rename_i h;rw[aA h]at a;exact key _ _ _ _ j k a
end Go.Pl
namespace Go.Pl
structure vG(s:Bs)(r:Rd):Prop where
 cd:r.cd=0
 pos:r.pos<s.length
 dn:r.dn.length=r.ev.length
 bs:r.bs<=r.ev.length
 dp:r.dp<=40
 d1:1<=r.dp
 sz:r.ev.length<=8*r.pos+65
 hd:r.hd.length<=1048576
 pf:∀h∈r.hd,h.pre.length<=1048576
theorem jz{s:Bs}{p:Nat}(hp:p<=s.length)(h:(jg s p).2.2=true):(p:Int)<(jg s p).1/\(jg s p).1<=s.length/\(jg s p).2.1.toNat<s.length/\p+1<=(jg s p).2.1.toNat/\(((jg s p).2.1.toNat:Nat):Int)=(jg s p).2.1:=by
 by_cases a:(kA s p).2=true/\(kA s p).1-p<=1000/\bW s (wh s (kA s p).1.toNat)=58/\gN s (wh s (kA s p).1.toNat+1)=true
 ·have b:=vY hp;have c:=b.2.2 a.1;have d:=gY s (kA s p).1.toNat;have e:=cE a.2.2.1 (by decide);rw[NS a];simp only;omega
 rw[F2 a]at h;cases h
theorem F3{s:Bs}{r:Rd}{p:Pp}(f:r.cd=0)(hp:r.pos<=s.length)(h:(qP s r p).cd=0):∃e q,qP s r p=hB r e q/\q<=s.length:=by
 unfold qP at h |-
 split
 ·rename_i c;rw[aB c]at h;unfold oP at h |-
  split
  ·rename_i b;rw[aB b]at h;simp[er]at h
  rename_i b;rw[aA b]at h;have hp:=j1 (by simpa using b);split
  ·rename_i a;rw[aB a]at h;simp[er]at h
  rename_i a;rw[aA a]at h;split
  ·exact⟨_,_,rfl,by omega⟩
  rename_i d;rw[aA d]at h;simp[er]at h
 rename_i c;rw[aA c]at h;split
 ·rename_i b;rw[aB b]at h;unfold oR at h |-
  split
  ·rename_i a;rw[aB a]at h;exact absurd h a
  rename_i a;have:=w7 b (by simpa using a);exact⟨_,_,rfl,this.2⟩
 exact⟨EZ 1 (sub s r.pos (jg s r.pos).1.toNat) p.an p.tg,r.pos,rfl,hp⟩
theorem Uo(s:Bs)(r:Rd)(p:Pp):(qP s r p).ev.length<=r.ev.length+1:=by
 unfold qP oP oR
 repeat' split
 all_goals simp[er,atR,cY,bB]
structure En(s:Bs)(r:Rd)(m:Nat)(w:Rb)(v:Rd):Prop where
 eq:w.r=atR v (dR s v.pos)/\w.lt=v.pos
 ok:Ok s v
 lt:r.pos<v.pos
 pre:r.ev <+: v.ev
 hd:v.hd=r.hd
 bs:v.bs=r.bs
 dp:v.dp=r.dp
 AJ:v.ev.length+8*r.pos+m<=r.ev.length+8*v.pos
theorem Gh{s:Bs}{g:Int->Bool->Bool->Rb->Rb}{c:Nat}{own:Pp}{x:Rb}(i:kM s x.r.dp g)(a:vG s x.r)(m:(jg s x.r.pos).2.2=true)(b:(j8 s g c own x).r.cd=0):∃v,En s x.r 14 (j8 s g c own x) v:=by
 obtain⟨r,t,j,u,w⟩:=jz (cJ a.pos) m;unfold j8 at b |-
 split
 ·rename_i h;rw[aB h]at b;exact absurd b h
 rename_i h;rw[aA h]at b;obtain⟨e,q,k,o⟩:=F3 a.cd (cJ a.pos) (show(qP s x.r own).cd=0 by simpa using h);rw[k]at b |-
 split
 ·rename_i f;rw[aB f]at b;exact absurd b f
 rename_i f;rw[aA f]at b;have n:=a.sz;have d:=xX (x:=bI x (hB x.r e q)) (li:=false) (c:=(c:Int)) i ⟨a.cd,j,by simp[bI,hB,atR,bB,a.dn],by simp only[bI,hB,atR,bB,aC];have:=a.bs;omega,a.dp,by simp only[bI,hB,atR,bB,aC,aH];omega,a.hd,a.pf⟩ (by simp only[bI,hB,atR,bB,aC,aH];omega) j (by simpa using f);rw[wb b];generalize ls s g (jg s x.r.pos).2.1.toNat c false (bI x (hB x.r e q))=v at *;have p:=d.lt;have l:=d.AJ;simp only[bI,hB,atR,bB,aC,aH]at l;exact⟨v.r,⟨⟨rfl,rfl⟩,d.ok,by omega,(ea _ _).trans d.pre,d.hd,d.bs,d.dp,by omega⟩⟩
theorem Ga{s:Bs}{i:Int->Bool->Bool->Rb->Rb}{c:Nat}{x:Rb}(j:kM s x.r.dp i)(b:vG s x.r)(g:(kP s i c x).r.cd=0):∃v,En s x.r 7 (kP s i c x) v:=by
 unfold kP at g |-
 split
 ·rename_i f;rw[aB f]at g;exact absurd g f
 rename_i f;rw[aA f]at g;have m:=b.sz;have e:=xX (x:=x) (li:=true) (c:=(c:Int)) (sg:=x.r.pos) j ⟨b.cd,b.pos,b.dn,b.bs,b.dp,by simp only[atR];omega,b.hd,b.pf⟩ (by omega) b.pos (by simpa using f);rw[wb g];generalize ls s i x.r.pos c true x=v at *;have n:=e.lt;have o:=e.AJ;exact⟨v.r,⟨⟨rfl,rfl⟩,e.ok,by omega,e.pre,e.hd,e.bs,e.dp,by omega⟩⟩
structure RR(s:Bs)(r r':Rd):Prop where
 ok:Ok s r'
 lt:r.pos<r'.pos
 pre:r.ev <+: r'.ev
 hd:r'.hd=r.hd
 bs:r'.bs=r.bs
 dp:r'.dp+1=r.dp
 AJ:r'.ev.length+8*r.pos+5<=r.ev.length+8*r'.pos
theorem En.done{s:Bs}{r v:Rd}{m k:Nat}{w:Rb}(h:En s r m w v)(b:vG s r)(hm:6<=m):RR s r (yb w k).r:=by
 have f:=b.sz;have c:=h.AJ;have a:=h.ok;have hd:=h.dp;have d:=b.d1;have e:=b.dp;unfold yb;rw[h.eq.1,h.eq.2];refine⟨⟨a.cd,a.pos, ?_, ?_, ?_, ?_,a.hd,a.pf⟩,h.lt, ?_,h.hd,h.bs, ?_, ?_⟩
 ·simp[mH,atR,a.dn]
 ·simp only[mH,atR,aC];have:=a.bs;omega
 ·simp only[mH,atR];omega
 ·simp only[mH,atR,aC,aH];omega
 ·exact h.pre.trans (ea _ _)
 ·simp only[mH,atR];omega
 simp only[mH,atR,aC,aH];omega
theorem En.next{s:Bs}{r v:Rd}{m q:Nat}{w:Rb}(h:En s r m w v)(b:vG s r)(hm:6<=m)(g:dR s v.pos<=q)(d:q<s.length):vG s (atR v q)/\r.pos<q/\v.ev.length+8*r.pos<=r.ev.length+8*q:=by have f:=b.sz;have c:=h.AJ;have e:=h.lt;have i:=fq s v.pos;have a:=h.ok;exact⟨⟨a.cd,d,a.dn,a.bs,by rw[show(atR v q).dp=v.dp from rfl,h.dp];exact b.dp,by rw[show(atR v q).dp=v.dp from rfl,h.dp];exact b.d1,by simp only[atR];omega,a.hd,a.pf⟩,by omega,by omega⟩
theorem RR.next{s:Bs}{r v r':Rd}{m q:Nat}{w:Rb}(a:RR s (atR v q) r')(h:En s r m w v)(g:vG s r)(hm:6<=m)(b:dR s v.pos<=q)(c:q<s.length):RR s r r':=by
 obtain⟨_,i,j⟩:=h.next g hm b c
 have d:=a.lt;have e:=a.AJ;have f:=a.dp;have k:=h.dp;simp only[atR]at d e f;exact⟨a.ok,by omega,h.pre.trans a.pre,a.hd.trans h.hd,a.bs.trans h.bs,by omega,by omega⟩
theorem V8{s:Bs}{b:Int->Bool->Bool->Rb->Rb}{c k D:Nat}(r:kM s D b):∀(n:Nat) (own:Pp) (x:Rb),s.length-x.r.pos=n->vG s x.r->x.r.dp=D->(jg s x.r.pos).2.2=true->(uo s b c k own x).r.cd=0->RR s x.r (uo s b c k own x).r:=by
 intro n
 induction n using Nat.strongRecOn with
 |ind n B=>
 intro own x E f hd z a;rw[uo]at a |-
 by_cases o:(j8 s b c own x).r.cd=0
 ·obtain⟨v,g⟩:=Gh (by rw[hd];exact r) f z o;rw[aA (by simpa using o)]at a |-
  by_cases t:fV s (j8 s b c own x).r.pos=true\/gL s (j8 s b c own x).r.pos<c
  ·rw[aB t];exact g.done f (by decide)
  rw[aA t]at a |-
  by_cases u:c<gL s (j8 s b c own x).r.pos
  ·rw[aB u]at a;simp[bI,er]at a
  rw[aA u]at a |-
  by_cases h:(iP s false (j8 s b c own x).r).cd=0
  ·rw[aA (by simpa using h)]at a |-
   by_cases d:(jg s (iP s false (j8 s b c own x).r).pos).2.2=true
   ·rw[aA (by rw[d];simp)]at a |-
    have m:=g.ok;have p:=ez s v.pos m.pos;rw[g.eq.1]at h d a |-
    obtain⟨q,e,i,j,_,_⟩:=jr (show(atR v (dR s v.pos)).pos<=s.length from p) m.cd h;rw[e]at d a |-
    have l:q<s.length:=by have:=(jz j d).2.2.1;have:=(jz j d).2.2.2.1;omega
    obtain⟨y,w,C⟩:=g.next f (by decide) i l
    rw[bV ⟨w,f.pos⟩]at a |-
    have A:=B (s.length-q) (by have:=f.pos;omega) _ (bI (j8 s b c own x) (atR (atR v (dR s v.pos)) q)) rfl y (by rw[show(bI (j8 s b c own x) (atR (atR v (dR s v.pos)) q)).r.dp=v.dp from rfl,g.dp];exact hd) d a;exact RR.next (v:=v) (q:=q) A g f (by decide) i l
   rw[aB (by simpa using d)]at a;simp[bI,er]at a
  rw[aB (by simpa using h)]at a;exact absurd a h
 rw[aB (by simpa using o)]at a;exact absurd a o
theorem rm(s:Bs)(x:Rb):(nG s x).fr=x.fr/\(nG s x).lt=x.r.pos:=by unfold nG;split<;>exact⟨rfl,rfl⟩
theorem CW{s:Bs}{a:Int->Bool->Bool->Rb->Rb}{c k:Nat}{own:Pp}{x w:Rb}(hw:j8 s a c own x=w)(h:¬w.r.cd=0):uo s a c k own x=w:=by rw[uo,hw,aB h]
theorem Oa{s:Bs}{a:Int->Bool->Bool->Rb->Rb}{c k:Nat}{own:Pp}{x w:Rb}(hw:j8 s a c own x=w)(h:w.r.cd=0)(b:fV s w.r.pos=true\/gL s w.r.pos<c):uo s a c k own x=yb w k:=by rw[uo,hw,aA (by simpa using h),aB b]
theorem Sy{s:Bs}{a:Int->Bool->Bool->Rb->Rb}{c k:Nat}{own:Pp}{x w:Rb}(hw:j8 s a c own x=w)(h:w.r.cd=0)(b:¬(fV s w.r.pos=true\/gL s w.r.pos<c))(d:c<gL s w.r.pos):uo s a c k own x=bI w (er w.r 9 w.r.pos):=by rw[uo,hw,aA (by simpa using h),aA b,aB d]
theorem SB{s:Bs}{a:Int->Bool->Bool->Rb->Rb}{c k:Nat}{own:Pp}{x w:Rb}(hw:j8 s a c own x=w)(h:w.r.cd=0)(b:¬(fV s w.r.pos=true\/gL s w.r.pos<c))(d:¬c<gL s w.r.pos)(e:¬(iP s false w.r).cd=0):uo s a c k own x=bI w (iP s false w.r):=by rw[uo,hw,aA (by simpa using h),aA b,aA d,aB e]
theorem N9{s:Bs}{a:Int->Bool->Bool->Rb->Rb}{c k:Nat}{own:Pp}{x w:Rb}(hw:j8 s a c own x=w)(h:w.r.cd=0)(b:¬(fV s w.r.pos=true\/gL s w.r.pos<c))(d:¬c<gL s w.r.pos)(e:(iP s false w.r).cd=0)(f:(jg s (iP s false w.r).pos).2.2=false):uo s a c k own x=bI w (er (iP s false w.r) 10 (iP s false w.r).pos):=by rw[uo,hw,aA (by simpa using h),aA b,aA d,aA (by simpa using e),aB f]
theorem SA{s:Bs}{a:Int->Bool->Bool->Rb->Rb}{c k:Nat}{own:Pp}{x w:Rb}(hw:j8 s a c own x=w)(h:w.r.cd=0)(b:¬(fV s w.r.pos=true\/gL s w.r.pos<c))(d:¬c<gL s w.r.pos)(e:(iP s false w.r).cd=0)(f:(jg s (iP s false w.r).pos).2.2=true)(g:x.r.pos<(iP s false w.r).pos/\x.r.pos<s.length):uo s a c k own x=uo s a c k (ia s false w.r) (bI w (iP s false w.r)):=by
 conv=>lhs;rw[uo]
 rw[hw,aA (by simpa using h),aA b,aA d,aA (by simpa using e),aA (by rw[f];simp),bV g]
theorem Kj{s:Bs}{a:Int->Bool->Bool->Rb->Rb}{c k:Nat}{x w:Rb}(hw:kP s a c x=w)(h:¬w.r.cd=0):yz s a c k x=w:=by rw[yz,hw,aB h]
theorem N1{s:Bs}{a:Int->Bool->Bool->Rb->Rb}{c k:Nat}{x w:Rb}(hw:kP s a c x=w)(h:w.r.cd=0)(b:fV s w.r.pos=true\/gL s w.r.pos<c\/(gL s w.r.pos=c/\mT s w.r.pos=false)):yz s a c k x=yb w k:=by rw[yz,hw,aA (by simpa using h),aB b]
theorem Su{s:Bs}{a:Int->Bool->Bool->Rb->Rb}{c k:Nat}{x w:Rb}(hw:kP s a c x=w)(h:w.r.cd=0)(b:¬(fV s w.r.pos=true\/gL s w.r.pos<c\/(gL s w.r.pos=c/\mT s w.r.pos=false)))(d:c<gL s w.r.pos):yz s a c k x=bI w (er w.r 9 w.r.pos):=by rw[yz,hw,aA (by simpa using h),aA b,aB d]
theorem Sv{s:Bs}{a:Int->Bool->Bool->Rb->Rb}{c k:Nat}{x w:Rb}(hw:kP s a c x=w)(h:w.r.cd=0)(b:¬(fV s w.r.pos=true\/gL s w.r.pos<c\/(gL s w.r.pos=c/\mT s w.r.pos=false)))(d:¬c<gL s w.r.pos)(e:x.r.pos<w.r.pos/\x.r.pos<s.length):yz s a c k x=yz s a c k w:=by
 conv=>lhs;rw[yz]
 rw[hw,aA (by simpa using h),aA b,aA d,bV e]
theorem uR{s:Bs}{p:Nat}(h:fV s p=false):p<s.length/\ib s p=0:=by unfold fV at h;simp only[aY,aO,bD,aE]at h;exact⟨by omega,h.2⟩
theorem V5{s:Bs}{a:Int->Bool->Bool->Rb->Rb}{c k D:Nat}(l:kM s D a):∀(n:Nat) (x:Rb),s.length-x.r.pos=n->vG s x.r->x.r.dp=D->(yz s a c k x).r.cd=0->RR s x.r (yz s a c k x).r:=by
 intro n
 induction n using Nat.strongRecOn with
 |ind n u=>
 intro x y g hd b;rw[yz]at b |-
 by_cases i:(kP s a c x).r.cd=0
 ·obtain⟨v,d⟩:=Ga (by rw[hd];exact l) g i;rw[aA (by simpa using i)]at b |-
  by_cases j:fV s (kP s a c x).r.pos=true\/gL s (kP s a c x).r.pos<c\/(gL s (kP s a c x).r.pos=c/\mT s (kP s a c x).r.pos=false)
  ·rw[aB j];exact d.done g (by decide)
  rw[aA j]at b |-
  by_cases o:c<gL s (kP s a c x).r.pos
  ·rw[aB o]at b;simp[bI,er]at b
  rw[aA o]at b |-
  have m:fV s (kP s a c x).r.pos=false:=by simpa using fun h=>j (.inl h)
  have f:=(uR m).1;have e:(kP s a c x).r.pos=dR s v.pos:=by rw[d.eq.1];rfl
  rw[e]at f;obtain⟨t,r,w⟩:=d.next g (by decide) (aN _) f
  rw[bV ⟨by rw[e];exact r,g.pos⟩]at b |-
  have p:=u (s.length-(kP s a c x).r.pos) (by have:=g.pos;omega) (kP s a c x) rfl (by rw[d.eq.1];exact t) (by rw[d.eq.1,show(atR v (dR s v.pos)).dp=v.dp from rfl,d.dp];exact hd) b;rw[d.eq.1]at p;exact RR.next (v:=v) (q:=dR s v.pos) p d g (by decide) (aN _) f
 rw[aB (by simpa using i)]at b;exact absurd b i
theorem rp{s:Bs}{r:Rd}{k st:Int}{p:Pp}{sg:Nat}(a:Ok s r)(b:r.pos<s.length)(h:(jt r k st p sg).cd=0):vG s (jt r k st p sg)/\(jt r k st p sg).pos=r.pos/\(jt r k st p sg).ev=r.ev++[oQ k st p.an p.tg]/\(jt r k st p sg).hd=r.hd/\(jt r k st p sg).bs=r.bs/\(jt r k st p sg).dp=r.dp+1/\r.dp<40:=by obtain⟨e,hd⟩:=pQ h;rw[e];exact⟨⟨a.cd,b,by simp[bB,a.dn],by simp only[bB,aC];have:=a.bs;omega,by simp only;omega,by simp only;omega,by simp only[bB,aC,aH];have:=a.sz;omega,a.hd,a.pf⟩,rfl,rfl,rfl,rfl,rfl,hd⟩
theorem V7{s:Bs}{e:Int->Bool->Bool->Rb->Rb}{outer own:Pp}{c:Nat}{x:Rb}(d:x.r.dp<40->kM s (x.r.dp+1) e)(j:Ok s x.r)(i:(jg s x.r.pos).2.2=true)(b:(v7 s e outer own c x).r.cd=0):xh s x.r (v7 s e outer own c x).r:=by
 have t:x.r.pos<s.length:=by have:=jz j.pos i;omega
 unfold v7 at b |-
 generalize (if own.has=true then c else x.r.pos)=fs at b |-
 split
 ·rename_i h;rw[aB h]at b;exact absurd b h
 rename_i h;rw[aA h]at b;obtain⟨r,k,l,m,n,p,q⟩:=rp j t (show(jt x.r 4 7 outer fs).cd=0 by simpa using h);generalize jt x.r 4 7 outer fs=o at *;have a:=V8 (d q) _ own (bI x o) rfl r p (by rw[show(bI x o).r.pos=o.pos from rfl,k];exact i) b;have u:o.pos<_:=a.lt;have f:_+8*o.pos+5<=o.ev.length+8*_:=a.AJ;have v:_+1=o.dp:=a.dp;have g:o.ev <+: _:=a.pre;rw[l]at f g;rw[aC,aH]at f;exact⟨a.ok,by omega,(ea _ _).trans g,a.hd.trans m,a.bs.trans n,by omega,by omega⟩
theorem V4{s:Bs}{d:Int->Bool->Bool->Rb->Rb}{outer:Pp}{x:Rb}(c:x.r.dp<40->kM s (x.r.dp+1) d)(p:Ok s x.r)(n:x.r.pos<s.length)(b:(xG s d outer x).r.cd=0):xh s x.r (xG s d outer x).r:=by
 unfold xG at b |-
 split
 ·rename_i h;rw[aB h]at b;exact absurd b h
 rename_i h;rw[aA h]at b;obtain⟨m,q,g,i,j,k,l⟩:=rp p n (show(jt x.r 3 7 outer x.r.pos).cd=0 by simpa using h);generalize jt x.r 3 7 outer x.r.pos=o at *;have a:=V5 (c l) _ (bI x o) rfl m k b;have r:o.pos<_:=a.lt;have e:_+8*o.pos+5<=o.ev.length+8*_:=a.AJ;have t:_+1=o.dp:=a.dp;have f:o.ev <+: _:=a.pre;rw[g]at e f;rw[aC,aH]at e;exact⟨a.ok,by omega,(ea _ _).trans f,a.hd.trans i,a.bs.trans j,by omega,by omega⟩
theorem uP{s:Bs}{p:Nat}(h:mT s p=true):p<s.length:=by unfold mT at h;simp only[aD,aE]at h;exact cE h.1 (by decide)
theorem RW{s:Bs}{f:Int->Bool->Bool->Rb->Rb}{n:Int}{inl:Bool}{outer own:Pp}{g:Nat}{x:Rb}(b:x.r.dp<40->kM s (x.r.dp+1) f)(e:Ok s x.r)(a:(qZ s f n inl outer own g x).r.cd=0):xh s x.r (qZ s f n inl outer own g x).r:=by
 unfold qZ at a |-
 split
 ·rename_i h;rw[aB h]at a;exact V7 b e h.2 a
 rename_i h;rw[aA h]at a;split
 ·rename_i c;rw[aB c]at a;exact V4 b e (uP c.2.2) a
 rename_i c;rw[aA c]at a;split
 ·rename_i d;rw[aB d]at a;split at a
  ·simp[bI,er]at a
  simp[bI,er]at a
 rename_i d;rw[aA d]at a;exact Wg e a
theorem RX{s:Bs}{l:Int->Bool->Bool->Rb->Rb}{n:Int}{inl r:Bool}{x:Rb}(i:x.r.dp<40->kM s (x.r.dp+1) l)(b:Ok s x.r)(a:(sj s l n inl r x).r.cd=0):xh s x.r (sj s l n inl r x).r:=by
 unfold sj at a |-
 split
 ·rename_i h;rw[aB h]at a;exact absurd a h
 rename_i h;rw[aA h]at a;obtain⟨q,e,m,u,C,o⟩:=jr b.pos b.cd (show(iP s false x.r).cd=0 by simpa using h);rw[e]at a |-
 split
 ·rename_i c;rw[aB c]at a;have p:x.r.pos<(ia s false x.r).en/\(ia s false x.r).en<=s.length:=⟨(oI b.pos o c.1).1,(oI b.pos o c.1).2.1⟩
  have w:=fq s (ia s false x.r).en;have j:=ez s (ia s false x.r).en p.2;have y:=gV (s:=s) p.2;split
  ·rename_i d;rw[aB d]at a;exact absurd a d
  rename_i d;rw[aA d]at a;have k:=jU (show(jn s (atR x.r q) (ia s false x.r).en).cd=0 by simpa using d);rw[k]at a |-
  split
  ·exact sF (q:=x.r.pos) b (by omega) y.2
  rename_i v;rw[aA v]at a;split
  ·rename_i f;rw[aB f]at a;exact absurd a f
  rename_i f;rw[aA f]at a;have g:Ok s (atR (atR x.r q) (dR s (ia s false x.r).en)):=b.at (q:=dR s (ia s false x.r).en) (by omega) j;obtain⟨q2,t,z,B,D,E⟩:=jr g.pos g.cd (show(iP s false (atR (atR x.r q) (dR s (ia s false x.r).en))).cd=0 by simpa using f);rw[t]at a |-
  have A:dR s (ia s false x.r).en<=q2:=z;exact xh.TL (q:=q2) (RW (x:=bI x (atR x.r q2)) i (b.at (by omega) B) a) (by omega)
 rename_i c;rw[aA c]at a;exact xh.TL (q:=q) (RW (x:=bI x (atR x.r q)) i (b.at m u) a) m
theorem sQ{s:Bs}:∀(d:Nat) (n:Int) (i l:Bool) (x:Rb),Ok s x.r->x.r.dp+d=40->(uE s d n i l x).r.cd=0->xh s x.r (uE s d n i l x).r
 |0,n,i,l,x,a,hd,b=>RX (fun h=>by omega) a b
 |d+1,n,i,l,x,a,hd,b=>RX (fun _ g i2 f j c k e=>sQ d g i2 f j c (by omega) e) a b
end Go.Pl
end
section
namespace Go.Pl
def Sz(s:Bs)(r:Rd):Prop:=r.ev.length<=8*s.length+70
def DF(s:Bs)(D:Nat)(a:Int->Bool->Bool->Rb->Rb):Prop:=∀n i l x,Ok s x.r->x.r.dp=D->Sz s (a n i l x).r
theorem JP(s:Bs)(x:Rb):(nG s x).r.ev=x.r.ev:=by
 unfold nG;split
 ·rfl
 exact JQ s _ _
theorem Qk{s:Bs}{e:Int->Bool->Bool->Rb->Rb}{sg:Nat}{c:Int}{li:Bool}{x:Rb}(d:DF s x.r.dp e)(h:Ok s (atR x.r (sg+1)))(j:x.r.ev.length+1<=8*(sg+1)+64)(f:sg<s.length):Sz s (ls s e sg c li x).r:=by
 have key:∀(q:Nat) (n:Int) (i l:Bool),sg+1<=q->q<=s.length->Sz s (e n i l (bI x (atR x.r q))).r:=by intro q n i l g a;exact d n i l (bI x (atR x.r q)) (uZ (r:=atR x.r (sg+1)) h (by simp only[atR];omega) g a) rfl
 unfold ls;split
 ·exact key _ _ _ _ (gY s _) (gO s _ f)
 split
 ·show(jn s x.r (sg+1)).ev.length<=_;rw[JQ];omega
 rename_i a;have b:=jU (show(jn s x.r (sg+1)).cd=0 by simpa using a);rw[b];split
 ·simp only[Sz,qJ,BD,atR,cY,bB,aC,aH];omega
 exact key _ _ _ _ (fq s _) (ez s _ f)
theorem UB{s:Bs}{i:Int->Bool->Bool->Rb->Rb}{c:Nat}{own:Pp}{x:Rb}(b:DF s x.r.dp i)(a:vG s x.r)(k:(jg s x.r.pos).2.2=true):Sz s (j8 s i c own x).r:=by
 obtain⟨n,o,g,p,r⟩:=jz (cJ a.pos) k;have l:=a.sz;have d:=a.pos;unfold j8;split
 ·have:=Uo s x.r own;simp only[Sz,bI];omega
 rename_i h;obtain⟨e,q,j,m⟩:=F3 a.cd (cJ a.pos) (show(qP s x.r own).cd=0 by simpa using h);rw[j];have f:=Qk (x:=bI x (hB x.r e q)) (li:=false) (c:=(c:Int)) b ⟨a.cd,g,by simp[bI,hB,atR,bB,a.dn],by simp only[bI,hB,atR,bB,aC];have:=a.bs;omega,a.dp,by simp only[bI,hB,atR,bB,aC,aH];omega,a.hd,a.pf⟩ (by simp only[bI,hB,atR,bB,aC,aH];omega) g;split
 ·exact f
 unfold Sz;rw[JP];exact f
theorem Uv{s:Bs}{e:Int->Bool->Bool->Rb->Rb}{c:Nat}{x:Rb}(b:DF s x.r.dp e)(a:vG s x.r):Sz s (kP s e c x).r:=by
 have f:=a.sz;have d:=Qk (x:=x) (li:=true) (c:=(c:Int)) (sg:=x.r.pos) b ⟨a.cd,a.pos,a.dn,a.bs,a.dp,by simp only[atR];omega,a.hd,a.pf⟩ (by omega) a.pos;unfold kP;split
 ·exact d
 unfold Sz;rw[JP];exact d
theorem En.sz{s:Bs}{r v:Rd}{m k:Nat}{w:Rb}(h:En s r m w v):Sz s (yb w k).r:=by have:=h.ok.sz;have:=h.ok.pos;unfold yb Sz;rw[h.eq.1];simp only[mH,atR,aC,aH];omega
theorem UA{s:Bs}{a:Int->Bool->Bool->Rb->Rb}{c k D:Nat}(r:kM s D a)(t:DF s D a):∀(n:Nat) (own:Pp) (x:Rb),s.length-x.r.pos=n->vG s x.r->x.r.dp=D->(jg s x.r.pos).2.2=true->Sz s (uo s a c k own x).r:=by
 intro n
 induction n using Nat.strongRecOn with
 |ind n B=>
 intro own x E d hd y;rw[uo];have j:=UB (c:=c) (own:=own) (by rw[hd];exact t) d y;by_cases l:(j8 s a c own x).r.cd=0
 ·obtain⟨v,g⟩:=Gh (by rw[hd];exact r) d y l;rw[aA (by simpa using l)];by_cases u:fV s (j8 s a c own x).r.pos=true\/gL s (j8 s a c own x).r.pos<c
  ·rw[aB u];exact g.sz
  rw[aA u];by_cases w:c<gL s (j8 s a c own x).r.pos
  ·rw[aB w];exact j
  rw[aA w];by_cases i:(iP s false (j8 s a c own x).r).cd=0
  ·rw[aA (by simpa using i)];by_cases b:(jg s (iP s false (j8 s a c own x).r).pos).2.2=true
   ·rw[aA (by rw[b];simp)];have h:=g.ok;have m:=ez s v.pos h.pos;rw[g.eq.1]at i b |-
    obtain⟨q,e,o,f,_,_⟩:=jr (show(atR v (dR s v.pos)).pos<=s.length from m) h.cd i;rw[e]at b |-
    have p:q<s.length:=by have:=(jz f b).2.2.1;have:=(jz f b).2.2.2.1;omega
    obtain⟨A,z,C⟩:=g.next d (by decide) o p
    rw[bV ⟨z,d.pos⟩];exact B (s.length-q) (by have:=d.pos;omega) _ (bI (j8 s a c own x) (atR (atR v (dR s v.pos)) q)) rfl A (by rw[show(bI (j8 s a c own x) (atR (atR v (dR s v.pos)) q)).r.dp=v.dp from rfl,g.dp];exact hd) b
   rw[aB (by simpa using b)];show(iP s false (j8 s a c own x).r).ev.length<=_;rw[vR];exact j
  rw[aB (by simpa using i)];show(iP s false (j8 s a c own x).r).ev.length<=_;rw[vR];exact j
 rw[aB (by simpa using l)];exact j
theorem Uu{s:Bs}{a:Int->Bool->Bool->Rb->Rb}{c k D:Nat}(j:kM s D a)(m:DF s D a):∀(n:Nat) (x:Rb),s.length-x.r.pos=n->vG s x.r->x.r.dp=D->Sz s (yz s a c k x).r:=by
 intro n
 induction n using Nat.strongRecOn with
 |ind n t=>
 intro x w d hd;rw[yz];have p:=Uv (c:=c) (by rw[hd];exact m) d;by_cases g:(kP s a c x).r.cd=0
 ·obtain⟨v,b⟩:=Ga (by rw[hd];exact j) d g;rw[aA (by simpa using g)];by_cases i:fV s (kP s a c x).r.pos=true\/gL s (kP s a c x).r.pos<c\/(gL s (kP s a c x).r.pos=c/\mT s (kP s a c x).r.pos=false)
  ·rw[aB i];exact b.sz
  rw[aA i];by_cases o:c<gL s (kP s a c x).r.pos
  ·rw[aB o];exact p
  rw[aA o];have l:fV s (kP s a c x).r.pos=false:=by simpa using fun h=>i (.inl h)
  have f:=(uR l).1;have e:(kP s a c x).r.pos=dR s v.pos:=by rw[b.eq.1];rfl
  rw[e]at f;obtain⟨r,q,u⟩:=b.next d (by decide) (aN _) f
  rw[bV ⟨by rw[e];exact q,d.pos⟩];exact t (s.length-(kP s a c x).r.pos) (by have:=d.pos;omega) (kP s a c x) rfl (by rw[b.eq.1];exact r) (by rw[b.eq.1,show(atR v (dR s v.pos)).dp=v.dp from rfl,b.dp];exact hd)
 rw[aB (by simpa using g)];exact p
theorem Uz{s:Bs}{d:Int->Bool->Bool->Rb->Rb}{outer own:Pp}{f:Nat}{x:Rb}(b:x.r.dp<40->kM s (x.r.dp+1) d)(c:x.r.dp<40->DF s (x.r.dp+1) d)(a:Ok s x.r)(g:(jg s x.r.pos).2.2=true):Sz s (v7 s d outer own f x).r:=by
 have l:x.r.pos<s.length:=by have:=jz a.pos g;omega
 have q:=a.sz;unfold v7;generalize (if own.has=true then f else x.r.pos)=fs;split
 ·have:=Ig x.r 4 7 outer fs;simp only[Sz,bI];omega
 rename_i h;obtain⟨k,i,m,n,p,j,e⟩:=rp a l (show(jt x.r 4 7 outer fs).cd=0 by simpa using h);generalize jt x.r 4 7 outer fs=o at *;exact UA (b e) (c e) _ own (bI x o) rfl k j (by rw[show(bI x o).r.pos=o.pos from rfl,i];exact g)
theorem Ut{s:Bs}{c:Int->Bool->Bool->Rb->Rb}{outer:Pp}{x:Rb}(a:x.r.dp<40->kM s (x.r.dp+1) c)(b:x.r.dp<40->DF s (x.r.dp+1) c)(e:Ok s x.r)(i:x.r.pos<s.length):Sz s (xG s c outer x).r:=by
 have n:=e.sz;unfold xG;split
 ·have:=Ig x.r 3 7 outer x.r.pos;simp only[Sz,bI];omega
 rename_i h;obtain⟨g,j,k,l,m,f,d⟩:=rp e i (show(jt x.r 3 7 outer x.r.pos).cd=0 by simpa using h);generalize jt x.r 3 7 outer x.r.pos=o at *;exact Uu (a d) (b d) _ (bI x o) rfl g f
theorem TO{s:Bs}{r:Rd}{p:Pp}(m:Ok s r)(n:bW s r.pos=91\/bW s r.pos=123):Sz s (Cc s r p):=by
 have o:r.pos<s.length:=by
  rcases n with h|h
  ·exact cE h (by decide)
  exact cE h (by decide)
 have u:=m.dp;have key:∀i:Rd->Rd,(r.dp<40->kw s (r.dp+1) i)->(r.dp<40->MK s (r.dp+1) i)->Sz s (pA s i r p):=by
  intro i e f;unfold pA Sz;by_cases a:bW s r.pos=91
  ·rw[aB a];have:=DK (c:=93) (k:=3) (p:=p) o m e f;omega
  have j:bW s r.pos=123:=n.resolve_left a;rw[aA a,aB j];have:=DK (it:=n1 s i) (c:=125) (k:=4) (p:=p) o m (fun h g b l q=>pR b (by rw[l];exact e h) q) (fun h g b l=>OL b (by rw[l];exact f h));omega
 unfold Cc;split
 ·rename_i t;exact key id (fun h=>by omega) (fun h=>by omega)
 rename_i d t;exact key _ (fun h g a j b=>n0 d g a (by omega) b) (fun h g a j=>Ol d g a (by omega))
theorem U5{s:Bs}{x:Rb}{p:Pp}{n:Int}(a:Ok s x.r):Sz s (qD s x p n).r:=by
 have g:=a.sz;have f:=a.pos;unfold qD;split
 ·split
  ·simp only[Sz,er];omega
  simp only[Sz,atR,cY,bB,aC,aH];omega
 split
 ·rename_i b;exact TO a b
 have e:(oP s x.r p.has).ev.length<=x.r.ev.length+1:=by unfold oP;(repeat' split)<;>simp[er,atR,bB]
 have d:(oR s x.r p).ev.length<=x.r.ev.length+1:=by unfold oR;(repeat' split)<;>simp[er,atR,bB,cY]
 have c:(E4 s x.r p n false).ev.length<=x.r.ev.length+1:=by simp[E4,atR,cY,bB]
 unfold Sz
 repeat' split
 all_goals first|(simp only[er];omega)|(simp only;omega)
theorem M2{s:Bs}{d:Int->Bool->Bool->Rb->Rb}{n:Int}{inl:Bool}{outer own:Pp}{e:Nat}{x:Rb}(b:x.r.dp<40->kM s (x.r.dp+1) d)(c:x.r.dp<40->DF s (x.r.dp+1) d)(a:Ok s x.r):Sz s (qZ s d n inl outer own e x).r:=by
 have i:=a.sz;have g:=a.pos;unfold qZ;split
 ·rename_i h;exact Uz b c a h.2
 split
 ·rename_i f;exact Ut b c a (uP f.2.2)
 split
 ·split<;>(simp only[Sz,bI,er];omega)
 exact U5 a
theorem M3{s:Bs}{j:Int->Bool->Bool->Rb->Rb}{n:Int}{inl z:Bool}{x:Rb}(c:x.r.dp<40->kM s (x.r.dp+1) j)(d:x.r.dp<40->DF s (x.r.dp+1) j)(a:Ok s x.r):Sz s (sj s j n inl z x).r:=by
 have C:=a.sz;have B:=a.pos;unfold sj;split
 ·show(iP s false x.r).ev.length<=_;rw[vR];omega
 rename_i h;obtain⟨q,e,l,m,A,o⟩:=jr a.pos a.cd (show(iP s false x.r).cd=0 by simpa using h);rw[e];split
 ·rename_i p;have r:=oI a.pos o p.1;have u:=fq s (ia s false x.r).en;have g:=ez s (ia s false x.r).en r.2.1;split
  ·show(jn s (atR x.r q) (ia s false x.r).en).ev.length<=_;rw[JQ];simp only[atR];omega
  rename_i t;have i:=jU (show(jn s (atR x.r q) (ia s false x.r).en).cd=0 by simpa using t);rw[i];split
  ·simp only[Sz,qJ,BD,atR,cY,bB,aC,aH];omega
  have b:Ok s (atR (atR x.r q) (dR s (ia s false x.r).en)):=a.at (q:=dR s (ia s false x.r).en) (by omega) g;split
  ·show(iP s false (atR (atR x.r q) (dR s (ia s false x.r).en))).ev.length<=_;rw[vR];simp only[atR];omega
  rename_i f;obtain⟨q2,k,v,y,D,E⟩:=jr b.pos b.cd (show(iP s false (atR (atR x.r q) (dR s (ia s false x.r).en))).cd=0 by simpa using f);rw[k];have w:dR s (ia s false x.r).en<=q2:=v;exact M2 (x:=bI x (atR x.r q2)) c d (a.at (by omega) y)
 exact M2 (x:=bI x (atR x.r q)) c d (a.at l m)
theorem DI{s:Bs}:∀(d:Nat) (n:Int) (i l:Bool) (x:Rb),Ok s x.r->x.r.dp+d=40->Sz s (uE s d n i l x).r
 |0,n,i,l,x,b,hd=>M3 (fun h=>by omega) (fun h=>by omega) b
 |d+1,n,i,l,x,b,hd=>M3 (fun _ e i2 c f a g j=>sQ d e i2 c f a (by omega) j) (fun _ e i2 c f a g=>DI d e i2 c f a (by omega)) b
end Go.Pl
end
