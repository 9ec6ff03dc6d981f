/- Own text: part VAN. -/
import Derived.Test.YtgippllfnmdnpaaGreatDoorVAM
import Derived.Lib.Join
set_option linter.all false
section
namespace Go.Pl
open Go.Vg (lookS updS)
def yo(s:Bs)(fl:Bool)(r:Rd):Rd:=if fl=true then km s r else iP s fl r
structure TB(s:Bs)(fl:Bool)(r x:Rd)(p:Pp):Prop where
 cd:x.cd=0
 at':x=atR r x.pos
 pos:x.pos<=s.length
 rest:lk s r.hd fl x.pos p=lk s r.hd fl r.pos (kF r.pos)
 stop:fl=true->p.has=true->ik s x=x
def W1(s:Bs)(fl:Bool)(r x:Rd)(p:Pp):Prop:=TB s fl r x p\/(x.cd≠0/\x=yo s fl r)
theorem Mq{s:Bs}{fl:Bool}{r:Rd}(h:r.cd=0)(a:r.pos<=s.length):TB s fl r r (kF r.pos):=⟨h,rfl,a,rfl,fun _ h=>by cases h⟩
theorem RN{s:Bs}{r:Rd}(g:r.cd=0)(h:(ik s r).cd≠0):lA s r.pos=false:=by
 unfold ik at h;by_cases f:s.length<=r.pos
 ·cases a:lA s r.pos with
  |false=>rfl
  |true=>have:=uQ a;omega
 rw[aA f]at h;by_cases c:ib s r.pos≠0
 ·cases a:lA s r.pos with
  |false=>rfl
  |true=>
   refine absurd ?_ c;by_cases d:la s r.pos=r.pos/\r.pos+3<=s.length/\gN s (r.pos+3)=true
   ·have l:=cW (s:=s) (i:=r.pos) (by omega);have j:∃t,sub s r.pos (r.pos+3)=s.getD r.pos 0::t:=by unfold sub;rw[cz (by simp only[aZ];omega)];refine⟨_,by rw[fP,aG,aS (by omega)];rfl⟩
    obtain⟨t,k⟩:=j;unfold ib;rw[aB d,k];have b:(s.getD r.pos 0).toNat=38\/(s.getD r.pos 0).toNat=33:=by unfold lA at a;have:=aW a;omega
    rw[aA,aA]
    ·intro e;simp only[dg]at e;rw[e.1]at b;simp at b
    intro e;simp only[dg]at e;rw[e.1]at b;simp at b
   exact D5 d
 rw[aA c]at h;exact absurd g h
theorem Rs{s:Bs}{fl:Bool}{r x:Rd}{p:Pp}(h:TB s fl r x p)(b:lA s x.pos=false):yo s fl r=x/\ia s fl r=p:=by
 have e:lk s r.hd fl r.pos (kF r.pos)=(x.pos,p,0):=by rw[<-h.rest,lk,cV (by rintro⟨a,_⟩;rw[a]at b;cases b),aA (by intro a;rw[a]at b;cases b)]
 have d:iP s fl r=x:=by unfold iP;simp only[e,aB];exact h.at'.symm
 have c:ia s fl r=p:=by unfold ia;rw[e]
 refine⟨?_,c⟩;unfold yo;split
 ·rename_i f;subst f;unfold km;rw[d,c];split
  ·rename_i a;exact h.stop rfl a.2
  rfl
 exact d
theorem EA{s:Bs}{fl:Bool}{r x:Rd}{p:Pp}{c:Int}(h:TB s fl r x p)(hp:lA s x.pos=true)(f:(lq s r.hd fl x.pos p).2=c)(b:c≠0):yo s fl r=er x c x.pos:=by
 have e:lk s r.hd fl r.pos (kF r.pos)=(x.pos,(lq s r.hd fl x.pos p).1,c):=by rw[<-h.rest,lk,cV (by rintro⟨_,a⟩;exact b (f.symm.trans a)),aB hp,f]
 have d:iP s fl r=er x c x.pos:=by unfold iP;simp only[e,aA b];rw[<-h.at']
 unfold yo;split
 ·rename_i g;subst g;unfold km;rw[d,aA];rintro⟨a,_⟩;exact b a
 exact d
theorem GH{s:Bs}{fl:Bool}{r x:Rd}{p a:Pp}(h:TB s fl r x p)(hp:lA s x.pos=true)(o:lq s r.hd fl x.pos p=(a,0)) :
  x.pos+1<=a.en/\a.en<=s.length/\(fl=false->TB s fl r (atR x (wh s a.en)) a)/\(fl=true->W1 s fl r (cL s (atR x (wh s a.en))) a/\(cL s (atR x (wh s a.en))).pos=dR s a.en):=by
 have i:(lq s r.hd fl x.pos p).2=0:=by rw[o]
 have g:(lq s r.hd fl x.pos p).1=a:=by rw[o]
 have b:=mE h.pos i;rw[g]at b;have c:=o3 (s:=s) (fl:=fl) b.2.1;have e:lk s r.hd fl (HO s fl a.en) a=lk s r.hd fl r.pos (kF r.pos):=by rw[<-h.rest,lk.eq_def s r.hd fl x.pos p,bV ⟨hp,i⟩,g]
 refine⟨b.1,b.2.1,fun j=>?_,fun j=>?_⟩
 ·have l:HO s fl a.en=wh s a.en:=by unfold HO;rw[j];rfl
  rw[l]at e c;exact⟨h.cd,by rw[h.at'];rfl,c.2,e,fun d=>by rw[j]at d;cases d⟩
 have l:HO s fl a.en=dR s a.en:=by unfold HO;rw[aB j]
 rw[l]at e c;have u:cL s (atR x (wh s a.en))=ik s (atR r (dR s a.en)):=by unfold cL;rw[h.at'];simp only[atR];rw[DW]
 have k:r.cd=0:=by have:=h.cd;rw[h.at']at this;exact this
 rw[u];refine⟨?_, ?_⟩
 ·by_cases m:(ik s (atR r (dR s a.en))).cd=0
  ·have:=vx m;rw[this.1];exact .inl ⟨k,rfl,c.2,e,fun _ _=>this.1⟩
  refine .inr ⟨m, ?_⟩;have f:=RN (r:=atR r (dR s a.en)) k m;have n:lk s r.hd fl r.pos (kF r.pos)=(dR s a.en,a,0):=by rw[<-e,lk,cV (by rintro⟨d,_⟩;rw[show(atR r (dR s a.en)).pos=dR s a.en from rfl]at f;rw[d]at f;cases f),aA (by intro d;rw[show(atR r (dR s a.en)).pos=dR s a.en from rfl]at f;rw[d]at f;cases f)]
  subst j;have t:iP s true r=atR r (dR s a.en):=by unfold iP;simp only[n,aB]
  have q:ia s true r=a:=by unfold ia;rw[n]
  unfold yo km;rw[aB rfl,t,q,aB ⟨k,b.2.2⟩]
 unfold ik;split
 ·rfl
 split<;>rfl
theorem MZ{s:Bs}{fl:Bool}{e:Nat}:(!gN s e&&!(fl&&re ((s.getD e 0).toNat:Int)))=!HX s fl e:=by
 unfold HX;cases a:gN s e with
 |true=>simp
 |false=>rw[cW (gD a)];simp
theorem SM{s:Bs}{r:Rd}{p:Pp}{c1 c2:Int}(h:EO s r true=true):oM s r p c1 c2=vH s r p (-1) true:=by
 unfold EO at h;unfold oM vH;by_cases a:bW s r.pos=42
 ·rw[aB a,aB a]
 rw[aA a,aA a];by_cases b:je (bW s r.pos)=true
 ·rw[aB b,aB b]
 rw[aA b,aA b];have c:yE s r.pos true=true:=by simpa[a,b]using h
 rw[aB c,aB c]
theorem SL{s:Bs}{r:Rd}{p:Pp}{c1 c2:Int}(h:EO s r true=false):vH s r p (-1) true=r/\oM s r p c1 c2=if p.has=true/\(bW s r.pos=44\/bW s r.pos=c1\/bW s r.pos=c2)then cY r 1 [] p.an p.tg else er r 10 r.pos:=by
 unfold EO at h;simp only[aY,aO]at h;obtain⟨⟨c,d⟩,e⟩:=h;have a:¬je (bW s r.pos)=true:=by simp[d]
 have b:¬yE s r.pos true=true:=by simp[e]
 unfold oM vH;rw[aA c,aA c,aA a,aA a,aA b,aA b];exact⟨rfl,rfl⟩
theorem JR(s:Bs)(r:Rd):(ik s r).ev=r.ev:=by
 unfold ik;split
 ·rfl
 split<;>rfl
theorem vQ(s:Bs)(r:Rd):(cL s r).ev=r.ev:=JR s _
theorem vR(s:Bs)(fl:Bool)(r:Rd):(iP s fl r).ev=r.ev:=by unfold iP;split<;>rfl
theorem Nv(s:Bs)(r:Rd):(km s r).ev=r.ev:=by
 unfold km;split
 ·rw[JR,vR]
 exact vR s true r
theorem Uc(s:Bs)(r:Rd)(c:Int):(ly s r c).ev=r.ev:=by
 unfold ly;split
 ·rfl
 split<;>rfl
theorem JS(r:Rd)(st:Int)(t a g:Bs):(cY r st t a g).ev.length=r.ev.length+1:=by simp[cY,bB]
theorem Ud(r:Rd)(k:Nat):(mH r k).ev.length=r.ev.length+1:=by simp[mH]
theorem Nw(s:Bs)(r:Rd)(p:Pp)(c1 c2:Int):(oM s r p c1 c2).ev.length<=r.ev.length+1:=by
 unfold oM oP oR E4
 repeat' split
 all_goals simp[cY,bB,er,atR]
theorem Ig(r:Rd)(k st:Int)(p:Pp)(sg:Nat):(jt r k st p sg).ev.length<=r.ev.length+1:=by
 unfold jt;split
 ·simp[er]
 simp[bB]
def MK(s:Bs)(D:Nat)(it:Rd->Rd):Prop:=∀r,Ok s r->r.dp=D->(it r).ev.length<=8*s.length+66
theorem TQ{s:Bs}{it:Rd->Rd}{c:Int}{D:Nat}(hit:kw s D it)(o:MK s D it):∀(n k:Nat) (r:Rd),s.length-r.pos=n->Ok s r->r.dp=D->(qN s it c k r).ev.length<=8*s.length+66:=by
 intro n
 induction n using Nat.strongRecOn with
 |ind n t=>
  intro k r w h hd;have u:=h.sz;have v:=h.pos;refine Decidable.byCases (p:=(cL s r).cd=0) (fun a=>?_) (fun a=>by rw[pC a,vQ];omega);have l:=h.gN a;have j:(cL s r).dp=D:=by rw[(gm a).1];exact hd
  by_cases f:bW s (cL s r).pos=c
  ·rw[pB a f,Ud];show(cL s r).ev.length+1<=_;rw[vQ];omega
  have i:=o _ l j;refine Decidable.byCases (p:=(it (cL s r)).cd=0) (fun d=>?_) (fun d=>by rw[tm a f d];exact i);refine Decidable.byCases (p:=(cL s (it (cL s r))).cd=0) (fun e=>?_) (fun e=>by rw[tj a f d e,vQ];exact i);refine Decidable.byCases (p:=(ly s (cL s (it (cL s r))) c).cd=0) (fun g=>?_) (fun g=>by rw[th a f d e g,Uc,vQ];exact i);have b:=mM hit h hd a d e g;have m:=b.lt;have q:=b.ok.pos;rw[tk a f d e ⟨g,m,by omega⟩];exact t _ (by omega) k _ rfl b.ok (b.dp.trans hd)
theorem DK{s:Bs}{it:Rd->Rd}{c k:Int}{r:Rd}{p:Pp}(f:r.pos<s.length)(a:Ok s r)(hit:r.dp<40->kw s (r.dp+1) it)(b:r.dp<40->MK s (r.dp+1) it):(qO s it c k r p).ev.length<=8*s.length+66:=by
 have g:=a.sz;have h:=a.bs;unfold qO;by_cases d:(jt r k 6 p r.pos).cd=0
 ·rw[aA (by simpa using d)];obtain⟨e,hd⟩:=pQ d;refine TQ (D:=r.dp+1) (hit hd) (b hd) _ _ _ rfl ?_ (by rw[e];rfl);rw[e];exact⟨a.cd,f,by simp[atR,bB,a.dn],by simp only[atR,bB,aC];omega,by simp only[atR];omega,by simp only[atR,bB,aC,aH];omega,a.hd,a.pf⟩
 rw[aB d];have:=Ig r k 6 p r.pos;omega
theorem OL{s:Bs}{v:Rd->Rd}{r:Rd}(l:Ok s r)(m:MK s r.dp v):(n1 s v r).ev.length<=8*s.length+66:=by
 have z:=l.sz;have A:=l.pos;have h:=Nv s r;obtain⟨F,t⟩:∃F,F=km s r:=⟨_,rfl⟩
 unfold n1;rw[<-t]at h |-
 by_cases b:F.cd=0
 ·rw[aA (by simpa using b)];have p:=Nw s F (ia s true r) 125 58;obtain⟨x,u⟩:∃x,x=oM s F (ia s true r) 125 58:=⟨_,rfl⟩
  rw[<-u]at p |-
  rw[h]at p;by_cases c:x.cd=0
  ·rw[aA (by simpa using c)];have d:=Ee l t b u c;have n:=d.ok;have e:=vQ s x;by_cases a:(cL s x).cd=0
   ·rw[aA (by simpa using a)];have j:=n.gN a;have i:(cL s x).dp=r.dp:=by rw[(gm a).1];exact d.dp
    have k:(cL s x).pos<s.length:=by obtain⟨w,y⟩:=gm a;rw[w];exact y
    generalize cL s x=g at *;unfold Qt;split
    ·unfold VB;have o:(cL s (atR g (g.pos+1))).ev=g.ev:=vQ s (atR g (g.pos+1));by_cases f:(cL s (atR g (g.pos+1))).cd=0
     ·rw[aA (by simpa using f)];split
      ·rw[JS,o,e];omega
      refine m _ ((j.at (q:=g.pos+1) (by omega) k).gN f) ?_;rw[(gm f).1];exact i
     rw[aB f,o,e];omega
    rw[JS,e];omega
   rw[aB a,e];omega
  rw[aB c];omega
 rw[aB b,h];omega
theorem Oo{s:Bs}{j:Rd->Rd}{r:Rd}(d:Ok s r)(hit:r.dp<40->kw s (r.dp+1) j)(e:r.dp<40->MK s (r.dp+1) j):(yf s j r).ev.length<=8*s.length+66:=by
 have o:=d.sz;have p:=d.pos;have k:=Nv s r;unfold yf;by_cases b:(km s r).cd=0
 ·rw[aA (by simpa using b)];have c:=d.km b;have a:(km s r).dp=r.dp:=by obtain⟨q,l,_⟩:=oH d.pos d.cd b;rw[l];rfl
  generalize km s r=F at *;unfold pA;split
  ·rename_i f;exact DK (cE f (by decide)) c (by rw[a];exact hit) (by rw[a];exact e)
  split
  ·rename_i f;refine DK (cE f (by decide)) c (fun h=>?_) (fun h=>?_)
   ·rw[a]at h |-
    exact fun n g i m=>pR g (by rw[i];exact hit h) m
   rw[a]at h |-
   exact fun n g i=>OL g (by rw[i];exact e h)
  have:=Nw s F (ia s true r) 93 125;rw[k]at this;omega
 rw[aB b,k];omega
theorem Ol{s:Bs}:∀(d:Nat) (r:Rd),Ok s r->r.dp+d=40->(sW s d r).ev.length<=8*s.length+66
 |0,r,b,hd=>Oo b (fun h=>by omega) (fun h=>by omega)
 |d+1,r,b,hd=>Oo b (fun h c a e f=>n0 d c a (by omega) f) (fun h c a e=>Ol d c a (by omega))
def iA(s:Bs)(p:Nat):Nat×Bool:=
 if kH s (wh s p)=true\/(bW s (wh s p)=35/\(wh s p≠p\/la s p=p))then(en s (wh s p),true)else(wh s p,false)
theorem gV{s:Bs}{p:Nat}(h:p<=s.length):p<=(iA s p).1/\(iA s p).1<=s.length:=by
 have b:=gY s p;have a:=gO s p h;have c:=lW s (wh s p);have d:=jF s (wh s p) a;unfold iA;split
 ·exact⟨by simp only;omega,by simp only;omega⟩
 exact⟨by simp only;omega,by simp only;omega⟩
def mT(s:Bs)(p:Nat):Bool:=decide (bW s p=45)&&gN s (p+1)
def fV(s:Bs)(p:Nat):Bool:=decide (s.length<=p)||!decide (ib s p=0)
def gL(s:Bs)(p:Nat):Nat:=p-la s p
def Ib(s:Bs)(p:Nat)(n:Int)(d:Bool):Bool:=decide (n<(gL s p:Int))||(d&&decide ((gL s p:Int)=n)&&mT s p)
def kB(s:Bs)(r:Rd):Rd:=
 if wh s (la s r.pos)≠r.pos then r else if idx (sub s (la s r.pos) r.pos) 9<0 then r else er r 2 (la s r.pos+(idx (sub s (la s r.pos) r.pos) 9).toNat)
def jn(s:Bs)(r:Rd)(p:Nat):Rd:=if fV s (dR s p)=true then atR r (dR s p)else kB s (atR r (dR s p))
def BD(r:Rd)(p:Pp)(e:Nat):Rd:=atR (cY r 1 [] p.an p.tg) e
def Vz(b:Int):Int:=if b=45 then 1 else 2
def sm(s:Bs)(q:Nat)(a ch:Int)(sg:Bool):Int×Int×Nat×Int:=
 if h:(49<=bW s q/\bW s q<=57)/\a=0 then sm s (q+1) (bW s q-48) ch sg
 else if c:(bW s q=43\/bW s q=45)/\sg=false then sm s (q+1) a (Vz (bW s q)) true
 else if(iA s q).2=true then(a,ch,(iA s q).1,0)else(0,0,(iA s q).1,6)
termination_by s.length-q
decreasing_by
 ·have:q<s.length:=cE (b:=bW s q) rfl (by omega);omega
 have:q<s.length:=cE (b:=bW s q) rfl (by omega);omega
theorem Se{s:Bs}{q:Nat}{a ch:Int}{sg:Bool}(h:(49<=bW s q/\bW s q<=57)/\a=0):sm s q a ch sg=sm s (q+1) (bW s q-48) ch sg:=by
 conv=>lhs;rw[sm]
 rw[bV h]
theorem J0{s:Bs}{q:Nat}{a ch:Int}{sg:Bool}(h:¬((49<=bW s q/\bW s q<=57)/\a=0))(b:(bW s q=43\/bW s q=45)/\sg=false):sm s q a ch sg=sm s (q+1) a (Vz (bW s q)) true:=by
 conv=>lhs;rw[sm]
 rw[cV h,bV b]
theorem Sf{s:Bs}{q:Nat}{a ch:Int}{sg:Bool}(h:¬((49<=bW s q/\bW s q<=57)/\a=0))(b:¬((bW s q=43\/bW s q=45)/\sg=false)):sm s q a ch sg=if(iA s q).2=true then(a,ch,(iA s q).1,0)else(0,0,(iA s q).1,6):=by
 conv=>lhs;rw[sm]
 rw[cV h,cV b]
def jJ(s:Bs)(p:Nat):Int×Int×Nat×Int:=if bW s p=124\/bW s p=62 then sm s (p+1) 0 0 false else(0,0,p,10)
def gZ(s:Bs)(e:Nat):Nat:=min (e+1) s.length
theorem lv{s:Bs}{a:Nat}(h:a<s.length):a<gZ s (en s a):=by have:=lW s a;unfold gZ;omega
theorem jZ(s:Bs)(e:Nat):gZ s e<=s.length:=Nat.min_le_right _ _
def um(s:Bs)(a:Nat)(n:Int):Nat×Nat:=
 if h:a<s.length/\ib s a=0 then(if js s a=false then(if n<(jG s a:Int)then(jG s a,a)else(60000,s.length))else um s (gZ s (en s a)) n)else(60000,s.length)
termination_by s.length-a
decreasing_by have:=lv h.1;omega
theorem zI{s:Bs}{a:Nat}{n:Int}(h:a<s.length/\ib s a=0)(b:js s a=true):um s a n=um s (gZ s (en s a)) n:=by
 conv=>lhs;rw[um]
 rw[bV h,aA (by rw[b];simp)]
theorem Km{s:Bs}{a:Nat}{n:Int}(h:a<s.length/\ib s a=0)(b:js s a=false):um s a n=if n<(jG s a:Int)then(jG s a,a)else(60000,s.length):=by rw[um,bV h,aB b]
theorem Kl{s:Bs}{a:Nat}{n:Int}(h:¬(a<s.length/\ib s a=0)):um s a n=(60000,s.length):=by rw[um,cV h]
def pN(s:Bs)(d f a:Nat):List Bs×Nat:=
 if h:a<s.length/\ib s a=0/\(js s a=true\/d<=jG s a)then((if f<=a/\(js s a=false\/d<jG s a)then sub s (a+d) (en s a)else[])::(pN s d f (gZ s (en s a))).1,(pN s d f (gZ s (en s a))).2)else([],a)
termination_by s.length-a
decreasing_by all_goals(have:=lv h.1;omega)
def yA(l:List Bs):Nat->Nat
 |0=>0
 |n+1=>if l.getD n []=[]then yA l n else n+1
def mj(l:List Bs):Nat:=(l.map fun x=>x.length+1).sum
theorem Kk{l:List Bs}:∀{n:Nat},(0<n->l.getD (n-1) []≠[])->yA l n=n
 |0,_=>rfl
 |n+1,h=>by unfold yA;rw[aA (by simpa using h (Nat.succ_pos _))]
theorem F9{l:List Bs}:∀{n:Nat},0<n->l.getD (n-1) []=[]->yA l n=yA l (n-1)
 |0,h,_=>absurd h (fU _)
 |n+1,_,h=>by
           conv=>lhs;unfold yA
           rw[aB (by simpa using h)];rfl
def FN(s:Bs):Bool:=nD s 0
def xq:List Bs->Bs->Nat->Bs->Bs
 |[],_,_,out=>out
 |x::r,last,many,out=>if x=[]then xq r last (many+1) out else xq r x 0 (out++(if last=[]then List.replicate many 10 else if FN last=true\/FN x=true then List.replicate (many+1) 10 else if many=0 then[32]else List.replicate many 10)++x)
theorem DP{l:List Bs}{i:Nat}(h:i<l.length):l.drop i=l.getD i []::l.drop (i+1):=by rw[cz h];congr 1;simp[List.getD,h]
theorem F7{l:List Bs}{i:Nat}(h:i<l.length):mj (l.drop i)=(l.getD i []).length+1+mj (l.drop (i+1)):=by rw[DP h];simp only[mj,cC,eX]
theorem ku:∀l:List Bs,l.length<=mj l
 |[]=>bF _
 |x::r=>by have:=ku r;simp only[mj,cC,eX,aK]at *;omega
theorem rj:∀(l:List Bs) (n:Nat),mj (l.take n)<=mj l
 |[],n=>by simp
 |x::r,0=>by simp[mj]
 |x::r,n+1=>by have:=rj r n;simp only[mj,List.take_succ_cons,cC,eX]at *;omega
theorem rh:∀l:List Bs,(Go.Lib.join l [10]).length<=mj l
 |[]=>by simp[Go.Lib.join,List.intercalate]
 |[x]=>by simp[Go.Lib.join,List.intercalate,mj]
 |x::y::r=>by have:=rh (y::r);simp only[Go.Lib.join,List.intercalate,mj,cC,eX,List.intersperse_cons_cons,List.flatten_cons,aC,aH]at *;omega
theorem uK:∀(l:List Bs) (last:Bs) (k:Nat) (out:Bs),(xq l last k out).length<=out.length+k+mj l
 |[],last,k,out=>by simp only[xq];omega
 |x::r,last,k,out=>by
  unfold xq;split
  ·have:=uK r last (k+1) out;simp only[mj,cC,eX]at *;omega
  have a:=uK r x 0 (out++(if last=[]then List.replicate k 10 else if FN last=true\/FN x=true then List.replicate (k+1) 10 else if k=0 then[32]else List.replicate k 10)++x);have b:(if last=[]then List.replicate k (10:UInt8)else if FN last=true\/FN x=true then List.replicate (k+1) 10 else if k=0 then[32]else List.replicate k 10).length<=k+1:=by
   split
   ·simp
   split
   ·simp
   split<;>simp
  simp only[aC]at a;simp only[mj,cC,eX]at *;omega
theorem R8{r:List Bs}{x last:Bs}{k:Nat}{out:Bs}(h:x=[]):xq (x::r) last k out=xq r last (k+1) out:=by rw[xq,aB h]
theorem zn{r:List Bs}{x last:Bs}{k:Nat}{out:Bs}(h:¬x=[]):xq (x::r) last k out=xq r x 0 (out++(if last=[]then List.replicate k 10 else if FN last=true\/FN x=true then List.replicate (k+1) 10 else if k=0 then[32]else List.replicate k 10)++x):=by rw[xq,aA h]
def Qr(l:List Bs)(fo:Bool)(ch:Int):Bs:=
 if yA l l.length=0 then(if ch=2 then List.replicate l.length 10 else[])
 else if ch=1 then(if fo=true then xq (l.take (yA l l.length)) [] 0 []else Go.Lib.join (l.take (yA l l.length)) [10])
 else if ch=2 then(if fo=true then xq (l.take (yA l l.length)) [] 0 []else Go.Lib.join (l.take (yA l l.length)) [10])++List.replicate (1+l.length-yA l l.length) 10
 else(if fo=true then xq (l.take (yA l l.length)) [] 0 []else Go.Lib.join (l.take (yA l l.length)) [10])++[10]
def HJ(s:Bs)(n:Int)(b:Int)(a:Nat):Nat×Nat:=
 if 0<b/\n<=60000 then((max n 0+b).toNat,a)else if b=0 then um s a n else(60000,a)
def nQ(s:Bs)(p:Nat)(n:Int):Bs×Nat×Int:=
 if(jJ s p).2.2.2≠0 then([],(jJ s p).2.2.1,(jJ s p).2.2.2)
 else(Qr (pN s (HJ s n (jJ s p).1 (gZ s (jJ s p).2.2.1)).1 (HJ s n (jJ s p).1 (gZ s (jJ s p).2.2.1)).2 (gZ s (jJ s p).2.2.1)).1 (decide (bW s p=62)) (jJ s p).2.1,
  (pN s (HJ s n (jJ s p).1 (gZ s (jJ s p).2.2.1)).1 (HJ s n (jJ s p).1 (gZ s (jJ s p).2.2.1)).2 (gZ s (jJ s p).2.2.1)).2,0)
structure Rb where
 r:Rd
 fr:Bool
 lt:Nat
def bI(x:Rb)(r:Rd):Rb:=⟨r,x.fr,x.lt⟩
def qJ(x:Rb)(r:Rd)(p:Pp)(e:Nat):Rb:=⟨BD r p e,true,x.lt⟩
def Cc(s:Bs)(r:Rd)(p:Pp):Rd:=match 40-r.dp with
 |0=>pA s id r p
 |d+1=>pA s (sW s d) r p
def qD(s:Bs)(x:Rb)(p:Pp)(n:Int):Rb:=
 if bW s x.r.pos=124\/bW s x.r.pos=62 then
  (if(nQ s x.r.pos n).2.2≠0 then⟨er x.r (nQ s x.r.pos n).2.2 (nQ s x.r.pos n).2.1,false,x.lt⟩else⟨atR (cY x.r (if bW s x.r.pos=62 then 5 else 4) (nQ s x.r.pos n).1 p.an p.tg) (nQ s x.r.pos n).2.1,true,x.lt⟩)
 else if bW s x.r.pos=91\/bW s x.r.pos=123 then⟨Cc s x.r p,false,x.lt⟩
 else if bW s x.r.pos=42 then⟨oP s x.r p.has,false,x.lt⟩
 else if je (bW s x.r.pos)=true then⟨oR s x.r p,false,x.lt⟩
 else if yE s x.r.pos false=true then⟨E4 s x.r p n false,false,x.lt⟩
 else⟨er x.r 10 x.r.pos,false,x.lt⟩
def nG(s:Bs)(x:Rb):Rb:=
 if x.fr=false/\(iA s x.r.pos).2=false then⟨er x.r 8 (iA s x.r.pos).1,x.fr,x.r.pos⟩else⟨jn s x.r x.r.pos,x.fr,x.r.pos⟩
def yb(x:Rb)(k:Nat):Rb:=⟨atR (mH x.r k) x.lt,true,x.lt⟩
def qP(s:Bs)(r:Rd)(p:Pp):Rd:=
 if bW s r.pos=42 then oP s r p.has
 else if je (bW s r.pos)=true then oR s r p
 else cY r 1 (sub s r.pos (jg s r.pos).1.toNat) p.an p.tg
def ls(s:Bs)(a:Int->Bool->Bool->Rb->Rb)(sg:Nat)(c:Int)(li:Bool)(x:Rb):Rb:=
 if(iA s (sg+1)).2=false then a c (!li) false (bI x (atR x.r (wh s (sg+1))))
 else if(jn s x.r (sg+1)).cd≠0 then bI x (jn s x.r (sg+1))
 else if fV s (jn s x.r (sg+1)).pos=true\/Ib s (jn s x.r (sg+1)).pos c (!li)=false then qJ x (jn s x.r (sg+1)) (kF 0) (iA s (sg+1)).1
 else a c false (!li) (bI x (jn s x.r (sg+1)))
def j8(s:Bs)(a:Int->Bool->Bool->Rb->Rb)(c:Nat)(own:Pp)(x:Rb):Rb:=
 if(qP s x.r own).cd≠0 then bI x (qP s x.r own)
 else if(ls s a (jg s x.r.pos).2.1.toNat c false (bI x (qP s x.r own))).r.cd≠0 then ls s a (jg s x.r.pos).2.1.toNat c false (bI x (qP s x.r own))
 else nG s (ls s a (jg s x.r.pos).2.1.toNat c false (bI x (qP s x.r own)))
def uo(s:Bs)(a:Int->Bool->Bool->Rb->Rb)(c k:Nat)(own:Pp)(x:Rb):Rb:=
 if(j8 s a c own x).r.cd≠0 then j8 s a c own x
 else if fV s (j8 s a c own x).r.pos=true\/gL s (j8 s a c own x).r.pos<c then yb (j8 s a c own x) k
 else if c<gL s (j8 s a c own x).r.pos then bI (j8 s a c own x) (er (j8 s a c own x).r 9 (j8 s a c own x).r.pos)
 else if(iP s false (j8 s a c own x).r).cd≠0 then bI (j8 s a c own x) (iP s false (j8 s a c own x).r)
 else if(jg s (iP s false (j8 s a c own x).r).pos).2.2=false then bI (j8 s a c own x) (er (iP s false (j8 s a c own x).r) 10 (iP s false (j8 s a c own x).r).pos)
 else if h:x.r.pos<(iP s false (j8 s a c own x).r).pos/\x.r.pos<s.length then uo s a c k (ia s false (j8 s a c own x).r) (bI (j8 s a c own x) (iP s false (j8 s a c own x).r))
 else x
termination_by s.length-x.r.pos
decreasing_by simp only[bI];omega
def v7(s:Bs)(b:Int->Bool->Bool->Rb->Rb)(outer own:Pp)(a:Nat)(x:Rb):Rb:=
 if(jt x.r 4 7 outer (if own.has=true then a else x.r.pos)).cd≠0 then bI x (jt x.r 4 7 outer (if own.has=true then a else x.r.pos))
 else uo s b (gL s (if own.has=true then a else x.r.pos)) x.r.ev.length own (bI x (jt x.r 4 7 outer (if own.has=true then a else x.r.pos)))
def kP(s:Bs)(a:Int->Bool->Bool->Rb->Rb)(c:Nat)(x:Rb):Rb:=
 if(ls s a x.r.pos c true x).r.cd≠0 then ls s a x.r.pos c true x else nG s (ls s a x.r.pos c true x)
def yz(s:Bs)(a:Int->Bool->Bool->Rb->Rb)(c k:Nat)(x:Rb):Rb:=
 if(kP s a c x).r.cd≠0 then kP s a c x
 else if fV s (kP s a c x).r.pos=true\/gL s (kP s a c x).r.pos<c\/(gL s (kP s a c x).r.pos=c/\mT s (kP s a c x).r.pos=false)then yb (kP s a c x) k
 else if c<gL s (kP s a c x).r.pos then bI (kP s a c x) (er (kP s a c x).r 9 (kP s a c x).r.pos)
 else if h:x.r.pos<(kP s a c x).r.pos/\x.r.pos<s.length then yz s a c k (kP s a c x)
 else x
termination_by s.length-x.r.pos
decreasing_by omega
def xG(s:Bs)(c:Int->Bool->Bool->Rb->Rb)(outer:Pp)(x:Rb):Rb:=
 if(jt x.r 3 7 outer x.r.pos).cd≠0 then bI x (jt x.r 3 7 outer x.r.pos)
 else yz s c (gL s x.r.pos) x.r.ev.length (bI x (jt x.r 3 7 outer x.r.pos))
def qZ(s:Bs)(b:Int->Bool->Bool->Rb->Rb)(n:Int)(inl:Bool)(outer own:Pp)(a:Nat)(x:Rb):Rb:=
 if inl=false/\(jg s x.r.pos).2.2=true then v7 s b outer own a x
 else if inl=false/\own.has=false/\mT s x.r.pos=true then xG s b outer x
 else if outer.has=true/\own.has=true then(if(iA s own.en).2=true then bI x (er x.r 10 (wh s own.en))else bI x (er x.r 7 a))
 else qD s x (if outer.has=true then outer else own) n
def sj(s:Bs)(d:Int->Bool->Bool->Rb->Rb)(n:Int)(inl e:Bool)(x:Rb):Rb:=
 if(iP s false x.r).cd≠0 then bI x (iP s false x.r)
 else if(ia s false x.r).has=true/\(iA s (ia s false x.r).en).2=true then
  (if(jn s (iP s false x.r) (ia s false x.r).en).cd≠0 then bI x (jn s (iP s false x.r) (ia s false x.r).en)
  else if fV s (jn s (iP s false x.r) (ia s false x.r).en).pos=true\/Ib s (jn s (iP s false x.r) (ia s false x.r).en).pos n e=false then qJ x (jn s (iP s false x.r) (ia s false x.r).en) (ia s false x.r) (iA s (ia s false x.r).en).1
  else if(iP s false (jn s (iP s false x.r) (ia s false x.r).en)).cd≠0 then bI x (iP s false (jn s (iP s false x.r) (ia s false x.r).en))
  else qZ s d n false (ia s false x.r) (ia s false (jn s (iP s false x.r) (ia s false x.r).en)) (jn s (iP s false x.r) (ia s false x.r).en).pos (bI x (iP s false (jn s (iP s false x.r) (ia s false x.r).en))))
 else qZ s d n inl (kF 0) (ia s false x.r) x.r.pos (bI x (iP s false x.r))
def uE(s:Bs):Nat->Int->Bool->Bool->Rb->Rb
 |0=>sj s fun _ _ _ x=>x
 |d+1=>sj s (uE s d)
end Go.Pl
end
